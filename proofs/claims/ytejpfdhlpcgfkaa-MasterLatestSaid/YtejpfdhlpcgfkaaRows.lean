/-
  No cell of these rows narrows 'for every input' (looked for: loops, veiled, ifaces, maps, wideKeys, modest, calm, conditions, laid).
  DERIVED. THE GIVEN ROWS OF THIS SEAT. 6 by the template 'for every input the law returns true; each argument reads behind the call as it read before'; 0 by the template 'total and deterministic' (their statements: YtejpfdhlpcgfkaaTotals.lean).
  GIVEN WITH THE SEED: the statements are not yours to turn. If you find one false, say at which input.
  Laid BY PROGRAM, IN A SANDBOX (cutbox-rows.mjs): the forced cells as the released guide's own fill.sh prints them over the translation 294546ea2e3916bd… (all of the seat's roots in one cut). By AI agents, Wed Nov 11 2026. No macro, syntax, notation, axiom, sorry.
-/
import Derived.Test.YtejpfdhlpcgfkaaChecked
import GoSem.Claim
import GoSem.ClaimJoined
import GoSem.ClaimMapViews
import Derived.JoinedTies
import Derived.KernelRfl
namespace Go.Proofs.Ytejpfdhlpcgfkaa
/- THE CELL 'sum', in the pinned program and in every row, IS THE sha256 OF THE DUMP (.gsa) THAT YtejpfdhlpcgfkaaProg.lean LOADS. Nothing in Lean hashes anything: it is a label: what it is worth is what the hold of that sum in a sandbox is worth. -/
noncomputable def Try.pinned : Pinned := { name := "ytejpfdhlpcgfkaa", sum := "294546ea2e3916bd613f9425038be7342d23dd0ea4261673b1f30ec8d914b65f", checked := Try.checked }
namespace Rows
def none {H : Type} : Left H := { results := [], args := [] }

/-- 'observatorylaw20.MasterMatchesReference': WHATEVER THE INPUT: true; the input reads as it did. -/
def masterMatchesReferenceSpec : ChangeSpec := { name := "masterMatchesReference", fn := fun _ => fun
  | [d1, d2, d3, d4, d5, d6, d7] => { results := [.lit (.bool true)], args := [d1, d2, d3, d4, d5, d6, d7] }
  | _ => none }
def masterMatchesReferenceRow : OpenClaim := { program := "ytejpfdhlpcgfkaa", sum := "294546ea2e3916bd613f9425038be7342d23dd0ea4261673b1f30ec8d914b65f", func := "observatory/observatorylaw20.MasterMatchesReference", spec := "masterMatchesReference", unfollowed := true, recurses := true, apart := false }
def MasterMatchesReferenceSaid : Prop := masterMatchesReferenceRow.holds Try.pinned (OpenSpec.ofChange masterMatchesReferenceSpec)

/-- ITS FALSE NEIGHBOUR: 'it returns false'. Refute it at one input. -/
def masterMatchesReferenceWrong : ChangeSpec := { name := "masterMatchesReference", fn := fun _ => fun
  | [d1, d2, d3, d4, d5, d6, d7] => { results := [.lit (.bool false)], args := [d1, d2, d3, d4, d5, d6, d7] }
  | _ => none }
def MasterMatchesReferenceWrongFalsely : Prop := masterMatchesReferenceRow.holds Try.pinned (OpenSpec.ofChange masterMatchesReferenceWrong)

/-- 'observatorylaw20.MedianMiddle': WHATEVER THE INPUT: true; the input reads as it did. -/
def medianMiddleSpec : ChangeSpec := { name := "medianMiddle", fn := fun _ => fun
  | [d] => { results := [.lit (.bool true)], args := [d] }
  | _ => none }
def medianMiddleRow : OpenClaim := { program := "ytejpfdhlpcgfkaa", sum := "294546ea2e3916bd613f9425038be7342d23dd0ea4261673b1f30ec8d914b65f", func := "observatory/observatorylaw20.MedianMiddle", spec := "medianMiddle", unfollowed := true, recurses := true, apart := false }
def MedianMiddleSaid : Prop := medianMiddleRow.holds Try.pinned (OpenSpec.ofChange medianMiddleSpec)

/-- ITS FALSE NEIGHBOUR: 'it returns false'. Refute it at one input. -/
def medianMiddleWrong : ChangeSpec := { name := "medianMiddle", fn := fun _ => fun
  | [d] => { results := [.lit (.bool false)], args := [d] }
  | _ => none }
def MedianMiddleWrongFalsely : Prop := medianMiddleRow.holds Try.pinned (OpenSpec.ofChange medianMiddleWrong)

/-- 'observatorylaw20.MedianShifts': WHATEVER THE INPUT: true; the input reads as it did. -/
def medianShiftsSpec : ChangeSpec := { name := "medianShifts", fn := fun _ => fun
  | [d1, d2, d3, d4] => { results := [.lit (.bool true)], args := [d1, d2, d3, d4] }
  | _ => none }
def medianShiftsRow : OpenClaim := { program := "ytejpfdhlpcgfkaa", sum := "294546ea2e3916bd613f9425038be7342d23dd0ea4261673b1f30ec8d914b65f", func := "observatory/observatorylaw20.MedianShifts", spec := "medianShifts", unfollowed := true, recurses := true, apart := false }
def MedianShiftsSaid : Prop := medianShiftsRow.holds Try.pinned (OpenSpec.ofChange medianShiftsSpec)

/-- ITS FALSE NEIGHBOUR: 'it returns false'. Refute it at one input. -/
def medianShiftsWrong : ChangeSpec := { name := "medianShifts", fn := fun _ => fun
  | [d1, d2, d3, d4] => { results := [.lit (.bool false)], args := [d1, d2, d3, d4] }
  | _ => none }
def MedianShiftsWrongFalsely : Prop := medianShiftsRow.holds Try.pinned (OpenSpec.ofChange medianShiftsWrong)

/-- 'observatorylaw20.MasterRobust': WHATEVER THE INPUT: true; the input reads as it did. -/
def masterRobustSpec : ChangeSpec := { name := "masterRobust", fn := fun _ => fun
  | [d1, d2, d3, d4, d5, d6] => { results := [.lit (.bool true)], args := [d1, d2, d3, d4, d5, d6] }
  | _ => none }
def masterRobustRow : OpenClaim := { program := "ytejpfdhlpcgfkaa", sum := "294546ea2e3916bd613f9425038be7342d23dd0ea4261673b1f30ec8d914b65f", func := "observatory/observatorylaw20.MasterRobust", spec := "masterRobust", unfollowed := true, recurses := true, apart := false }
def MasterRobustSaid : Prop := masterRobustRow.holds Try.pinned (OpenSpec.ofChange masterRobustSpec)

/-- ITS FALSE NEIGHBOUR: 'it returns false'. Refute it at one input. -/
def masterRobustWrong : ChangeSpec := { name := "masterRobust", fn := fun _ => fun
  | [d1, d2, d3, d4, d5, d6] => { results := [.lit (.bool false)], args := [d1, d2, d3, d4, d5, d6] }
  | _ => none }
def MasterRobustWrongFalsely : Prop := masterRobustRow.holds Try.pinned (OpenSpec.ofChange masterRobustWrong)

/-- 'observatorylaw20.MasterKnows': WHATEVER THE INPUT: true; the input reads as it did. -/
def masterKnowsSpec : ChangeSpec := { name := "masterKnows", fn := fun _ => fun
  | [d1, d2, d3, d4, d5, d6, d7, d8] => { results := [.lit (.bool true)], args := [d1, d2, d3, d4, d5, d6, d7, d8] }
  | _ => none }
def masterKnowsRow : OpenClaim := { program := "ytejpfdhlpcgfkaa", sum := "294546ea2e3916bd613f9425038be7342d23dd0ea4261673b1f30ec8d914b65f", func := "observatory/observatorylaw20.MasterKnows", spec := "masterKnows", unfollowed := true, recurses := true, apart := false }
def MasterKnowsSaid : Prop := masterKnowsRow.holds Try.pinned (OpenSpec.ofChange masterKnowsSpec)

/-- ITS FALSE NEIGHBOUR: 'it returns false'. Refute it at one input. -/
def masterKnowsWrong : ChangeSpec := { name := "masterKnows", fn := fun _ => fun
  | [d1, d2, d3, d4, d5, d6, d7, d8] => { results := [.lit (.bool false)], args := [d1, d2, d3, d4, d5, d6, d7, d8] }
  | _ => none }
def MasterKnowsWrongFalsely : Prop := masterKnowsRow.holds Try.pinned (OpenSpec.ofChange masterKnowsWrong)

/-- 'observatorylaw20.MasterLatest': WHATEVER THE INPUT: true; the input reads as it did. -/
def masterLatestSpec : ChangeSpec := { name := "masterLatest", fn := fun _ => fun
  | [d1, d2, d3, d4, d5, d6, d7, d8] => { results := [.lit (.bool true)], args := [d1, d2, d3, d4, d5, d6, d7, d8] }
  | _ => none }
def masterLatestRow : OpenClaim := { program := "ytejpfdhlpcgfkaa", sum := "294546ea2e3916bd613f9425038be7342d23dd0ea4261673b1f30ec8d914b65f", func := "observatory/observatorylaw20.MasterLatest", spec := "masterLatest", unfollowed := true, recurses := true, apart := false }
def MasterLatestSaid : Prop := masterLatestRow.holds Try.pinned (OpenSpec.ofChange masterLatestSpec)

/-- ITS FALSE NEIGHBOUR: 'it returns false'. Refute it at one input. -/
def masterLatestWrong : ChangeSpec := { name := "masterLatest", fn := fun _ => fun
  | [d1, d2, d3, d4, d5, d6, d7, d8] => { results := [.lit (.bool false)], args := [d1, d2, d3, d4, d5, d6, d7, d8] }
  | _ => none }
def MasterLatestWrongFalsely : Prop := masterLatestRow.holds Try.pinned (OpenSpec.ofChange masterLatestWrong)

/- THE SECOND FORM. 'bulk': how many values and letters a reading holds, each counted each time it is reached (what is shared counts as often as it is met; a slice's spare places count too). A statement '..UptoSaid' is the law's where the arguments, and the package variables that the reading takes, are together of bulk at most 1048576: NARROWER than '..Said'. Prove '..Said' where nothing that the law and all that it calls make is longer than what came in: it says more and counts as full. Else prove '..UptoSaid'. A law counts once. -/
mutual
def uptoBulk {H : Type} : DataW H → Nat
  | .lit (.string bytes) => bytes.length + 1
  | .lit _ => 1
  | .nil => 1
  | .ptr d => uptoBulk d + 1
  | .slice elems spare => uptoBulkAll elems + uptoBulkAll spare + 1
  | .agg parts => uptoBulkAll parts + 1
  | .iface _ d => uptoBulk d + 1
  | .map entries => uptoBulkEntries entries + 1
  | .held _ => 1
def uptoBulkAll {H : Type} : List (DataW H) → Nat
  | [] => 0
  | d :: r => uptoBulk d + uptoBulkAll r
def uptoBulkEntries {H : Type} : List (Lit × DataW H) → Nat
  | [] => 0
  | x :: r => uptoBulkEntry x + uptoBulkEntries r
def uptoBulkEntry {H : Type} : Lit × DataW H → Nat
  | (.string bytes, d) => bytes.length + uptoBulk d + 1
  | (_, d) => uptoBulk d + 1
 end
def uptoSmall : (H : Type) → List (DataW H) → Bool := fun _ ds => decide (uptoBulkAll ds ≤ 1048576)
def OpenSpec.upto (s : _root_.Go.ChangeSpec) : _root_.Go.OpenSpec := { _root_.Go.OpenSpec.ofChange s with cond := some uptoSmall }

/-- 'observatorylaw20.MasterMatchesReference', WHERE WHAT IT READS IS OF BULK AT MOST 1048576: true; the input reads as it did. -/
def masterMatchesReferenceUptoRow : OpenClaim := { program := "ytejpfdhlpcgfkaa", sum := "294546ea2e3916bd613f9425038be7342d23dd0ea4261673b1f30ec8d914b65f", func := "observatory/observatorylaw20.MasterMatchesReference", spec := "masterMatchesReference", unfollowed := true, recurses := true, apart := false, narrowed := true }
def MasterMatchesReferenceUptoSaid : Prop := masterMatchesReferenceUptoRow.holds Try.pinned (OpenSpec.upto masterMatchesReferenceSpec)

/-- 'observatorylaw20.MedianMiddle', WHERE WHAT IT READS IS OF BULK AT MOST 1048576: true; the input reads as it did. -/
def medianMiddleUptoRow : OpenClaim := { program := "ytejpfdhlpcgfkaa", sum := "294546ea2e3916bd613f9425038be7342d23dd0ea4261673b1f30ec8d914b65f", func := "observatory/observatorylaw20.MedianMiddle", spec := "medianMiddle", unfollowed := true, recurses := true, apart := false, narrowed := true }
def MedianMiddleUptoSaid : Prop := medianMiddleUptoRow.holds Try.pinned (OpenSpec.upto medianMiddleSpec)

/-- 'observatorylaw20.MedianShifts', WHERE WHAT IT READS IS OF BULK AT MOST 1048576: true; the input reads as it did. -/
def medianShiftsUptoRow : OpenClaim := { program := "ytejpfdhlpcgfkaa", sum := "294546ea2e3916bd613f9425038be7342d23dd0ea4261673b1f30ec8d914b65f", func := "observatory/observatorylaw20.MedianShifts", spec := "medianShifts", unfollowed := true, recurses := true, apart := false, narrowed := true }
def MedianShiftsUptoSaid : Prop := medianShiftsUptoRow.holds Try.pinned (OpenSpec.upto medianShiftsSpec)

/-- 'observatorylaw20.MasterRobust', WHERE WHAT IT READS IS OF BULK AT MOST 1048576: true; the input reads as it did. -/
def masterRobustUptoRow : OpenClaim := { program := "ytejpfdhlpcgfkaa", sum := "294546ea2e3916bd613f9425038be7342d23dd0ea4261673b1f30ec8d914b65f", func := "observatory/observatorylaw20.MasterRobust", spec := "masterRobust", unfollowed := true, recurses := true, apart := false, narrowed := true }
def MasterRobustUptoSaid : Prop := masterRobustUptoRow.holds Try.pinned (OpenSpec.upto masterRobustSpec)

/-- 'observatorylaw20.MasterKnows', WHERE WHAT IT READS IS OF BULK AT MOST 1048576: true; the input reads as it did. -/
def masterKnowsUptoRow : OpenClaim := { program := "ytejpfdhlpcgfkaa", sum := "294546ea2e3916bd613f9425038be7342d23dd0ea4261673b1f30ec8d914b65f", func := "observatory/observatorylaw20.MasterKnows", spec := "masterKnows", unfollowed := true, recurses := true, apart := false, narrowed := true }
def MasterKnowsUptoSaid : Prop := masterKnowsUptoRow.holds Try.pinned (OpenSpec.upto masterKnowsSpec)

/-- 'observatorylaw20.MasterLatest', WHERE WHAT IT READS IS OF BULK AT MOST 1048576: true; the input reads as it did. -/
def masterLatestUptoRow : OpenClaim := { program := "ytejpfdhlpcgfkaa", sum := "294546ea2e3916bd613f9425038be7342d23dd0ea4261673b1f30ec8d914b65f", func := "observatory/observatorylaw20.MasterLatest", spec := "masterLatest", unfollowed := true, recurses := true, apart := false, narrowed := true }
def MasterLatestUptoSaid : Prop := masterLatestUptoRow.holds Try.pinned (OpenSpec.upto masterLatestSpec)

end Rows
end Go.Proofs.Ytejpfdhlpcgfkaa
