/-
  No cell of these rows narrows 'for every input' (looked for: loops, veiled, ifaces, maps, wideKeys, modest, calm, conditions, laid).
  DERIVED. THE GIVEN ROWS OF THIS SEAT. 6 by the template 'for every input the law returns true; each argument reads behind the call as it read before'; 0 by the template 'total and deterministic' (their statements: YtalijeodmmlfjaaTotals.lean).
  GIVEN WITH THE SEED: the statements are not yours to turn. If you find one false, say at which input.
  Laid BY PROGRAM, IN A SANDBOX (cutbox-rows.mjs): the forced cells as the released guide's own fill.sh prints them over the translation c703109a1e8e3835… (all of the seat's roots in one cut). By AI agents, Wed Nov 11 2026. No macro, syntax, notation, axiom, sorry.
-/
import Derived.Test.YtalijeodmmlfjaaChecked
import GoSem.Claim
import GoSem.ClaimJoined
import GoSem.ClaimMapViews
import Derived.JoinedTies
import Derived.KernelRfl
namespace Go.Proofs.Ytalijeodmmlfjaa
/- THE CELL 'sum', in the pinned program and in every row, IS THE sha256 OF THE DUMP (.gsa) THAT YtalijeodmmlfjaaProg.lean LOADS. Nothing in Lean hashes anything: it is a label: what it is worth is what the hold of that sum in a sandbox is worth. -/
noncomputable def Try.pinned : Pinned := { name := "ytalijeodmmlfjaa", sum := "c703109a1e8e38352b903826d8d0937cddd07c2e588cbca8b68a9b8ec5793a63", checked := Try.checked }
namespace Rows
def none {H : Type} : Left H := { results := [], args := [] }

/-- 'observatorylaw16.DefectMatchesReference': WHATEVER THE INPUT: true; the input reads as it did. -/
def defectMatchesReferenceSpec : ChangeSpec := { name := "defectMatchesReference", fn := fun _ => fun
  | [d1, d2, d3, d4, d5, d6] => { results := [.lit (.bool true)], args := [d1, d2, d3, d4, d5, d6] }
  | _ => none }
def defectMatchesReferenceRow : OpenClaim := { program := "ytalijeodmmlfjaa", sum := "c703109a1e8e38352b903826d8d0937cddd07c2e588cbca8b68a9b8ec5793a63", func := "observatory/observatorylaw16.DefectMatchesReference", spec := "defectMatchesReference", unfollowed := true, recurses := true, apart := false }
def DefectMatchesReferenceSaid : Prop := defectMatchesReferenceRow.holds Try.pinned (OpenSpec.ofChange defectMatchesReferenceSpec)

/-- ITS FALSE NEIGHBOUR: 'it returns false'. Refute it at one input. -/
def defectMatchesReferenceWrong : ChangeSpec := { name := "defectMatchesReference", fn := fun _ => fun
  | [d1, d2, d3, d4, d5, d6] => { results := [.lit (.bool false)], args := [d1, d2, d3, d4, d5, d6] }
  | _ => none }
def DefectMatchesReferenceWrongFalsely : Prop := defectMatchesReferenceRow.holds Try.pinned (OpenSpec.ofChange defectMatchesReferenceWrong)

/-- 'observatorylaw16.DefectMasks': WHATEVER THE INPUT: true; the input reads as it did. -/
def defectMasksSpec : ChangeSpec := { name := "defectMasks", fn := fun _ => fun
  | [d1, d2, d3, d4, d5] => { results := [.lit (.bool true)], args := [d1, d2, d3, d4, d5] }
  | _ => none }
def defectMasksRow : OpenClaim := { program := "ytalijeodmmlfjaa", sum := "c703109a1e8e38352b903826d8d0937cddd07c2e588cbca8b68a9b8ec5793a63", func := "observatory/observatorylaw16.DefectMasks", spec := "defectMasks", unfollowed := true, recurses := true, apart := false }
def DefectMasksSaid : Prop := defectMasksRow.holds Try.pinned (OpenSpec.ofChange defectMasksSpec)

/-- ITS FALSE NEIGHBOUR: 'it returns false'. Refute it at one input. -/
def defectMasksWrong : ChangeSpec := { name := "defectMasks", fn := fun _ => fun
  | [d1, d2, d3, d4, d5] => { results := [.lit (.bool false)], args := [d1, d2, d3, d4, d5] }
  | _ => none }
def DefectMasksWrongFalsely : Prop := defectMasksRow.holds Try.pinned (OpenSpec.ofChange defectMasksWrong)

/-- 'observatorylaw16.DefectChanges': WHATEVER THE INPUT: true; the input reads as it did. -/
def defectChangesSpec : ChangeSpec := { name := "defectChanges", fn := fun _ => fun
  | [d1, d2, d3, d4, d5] => { results := [.lit (.bool true)], args := [d1, d2, d3, d4, d5] }
  | _ => none }
def defectChangesRow : OpenClaim := { program := "ytalijeodmmlfjaa", sum := "c703109a1e8e38352b903826d8d0937cddd07c2e588cbca8b68a9b8ec5793a63", func := "observatory/observatorylaw16.DefectChanges", spec := "defectChanges", unfollowed := true, recurses := true, apart := false }
def DefectChangesSaid : Prop := defectChangesRow.holds Try.pinned (OpenSpec.ofChange defectChangesSpec)

/-- ITS FALSE NEIGHBOUR: 'it returns false'. Refute it at one input. -/
def defectChangesWrong : ChangeSpec := { name := "defectChanges", fn := fun _ => fun
  | [d1, d2, d3, d4, d5] => { results := [.lit (.bool false)], args := [d1, d2, d3, d4, d5] }
  | _ => none }
def DefectChangesWrongFalsely : Prop := defectChangesRow.holds Try.pinned (OpenSpec.ofChange defectChangesWrong)

/-- 'observatorylaw16.DefectOrder': WHATEVER THE INPUT: true; the input reads as it did. -/
def defectOrderSpec : ChangeSpec := { name := "defectOrder", fn := fun _ => fun
  | [d1, d2, d3, d4, d5, d6] => { results := [.lit (.bool true)], args := [d1, d2, d3, d4, d5, d6] }
  | _ => none }
def defectOrderRow : OpenClaim := { program := "ytalijeodmmlfjaa", sum := "c703109a1e8e38352b903826d8d0937cddd07c2e588cbca8b68a9b8ec5793a63", func := "observatory/observatorylaw16.DefectOrder", spec := "defectOrder", unfollowed := true, recurses := true, apart := false }
def DefectOrderSaid : Prop := defectOrderRow.holds Try.pinned (OpenSpec.ofChange defectOrderSpec)

/-- ITS FALSE NEIGHBOUR: 'it returns false'. Refute it at one input. -/
def defectOrderWrong : ChangeSpec := { name := "defectOrder", fn := fun _ => fun
  | [d1, d2, d3, d4, d5, d6] => { results := [.lit (.bool false)], args := [d1, d2, d3, d4, d5, d6] }
  | _ => none }
def DefectOrderWrongFalsely : Prop := defectOrderRow.holds Try.pinned (OpenSpec.ofChange defectOrderWrong)

/-- 'observatorylaw16.DefectFurther': WHATEVER THE INPUT: true; the input reads as it did. -/
def defectFurtherSpec : ChangeSpec := { name := "defectFurther", fn := fun _ => fun
  | [d1, d2, d3, d4, d5] => { results := [.lit (.bool true)], args := [d1, d2, d3, d4, d5] }
  | _ => none }
def defectFurtherRow : OpenClaim := { program := "ytalijeodmmlfjaa", sum := "c703109a1e8e38352b903826d8d0937cddd07c2e588cbca8b68a9b8ec5793a63", func := "observatory/observatorylaw16.DefectFurther", spec := "defectFurther", unfollowed := true, recurses := true, apart := false }
def DefectFurtherSaid : Prop := defectFurtherRow.holds Try.pinned (OpenSpec.ofChange defectFurtherSpec)

/-- ITS FALSE NEIGHBOUR: 'it returns false'. Refute it at one input. -/
def defectFurtherWrong : ChangeSpec := { name := "defectFurther", fn := fun _ => fun
  | [d1, d2, d3, d4, d5] => { results := [.lit (.bool false)], args := [d1, d2, d3, d4, d5] }
  | _ => none }
def DefectFurtherWrongFalsely : Prop := defectFurtherRow.holds Try.pinned (OpenSpec.ofChange defectFurtherWrong)

/-- 'observatorylaw16.DefectBetween': WHATEVER THE INPUT: true; the input reads as it did. -/
def defectBetweenSpec : ChangeSpec := { name := "defectBetween", fn := fun _ => fun
  | [d1, d2, d3, d4, d5, d6] => { results := [.lit (.bool true)], args := [d1, d2, d3, d4, d5, d6] }
  | _ => none }
def defectBetweenRow : OpenClaim := { program := "ytalijeodmmlfjaa", sum := "c703109a1e8e38352b903826d8d0937cddd07c2e588cbca8b68a9b8ec5793a63", func := "observatory/observatorylaw16.DefectBetween", spec := "defectBetween", unfollowed := true, recurses := true, apart := false }
def DefectBetweenSaid : Prop := defectBetweenRow.holds Try.pinned (OpenSpec.ofChange defectBetweenSpec)

/-- ITS FALSE NEIGHBOUR: 'it returns false'. Refute it at one input. -/
def defectBetweenWrong : ChangeSpec := { name := "defectBetween", fn := fun _ => fun
  | [d1, d2, d3, d4, d5, d6] => { results := [.lit (.bool false)], args := [d1, d2, d3, d4, d5, d6] }
  | _ => none }
def DefectBetweenWrongFalsely : Prop := defectBetweenRow.holds Try.pinned (OpenSpec.ofChange defectBetweenWrong)

/- THE SECOND FORM. 'bulk': how many values and letters a reading holds, each counted each time it is reached (what is shared counts as often as it is met; a slice's spare places count too). A statement '..UptoSaid' is the law's where the arguments, and the package variables that the reading takes, are together of bulk at most 1048576: NARROWER than '..Said'. Prove '..Said' where nothing that the law and all that it calls make is longer than what came in: it says more and counts as full. Else prove '..UptoSaid'. A law counts once. -/
mutual
def uptoBulk {H : Type} : DataW H → Nat
  | .lit (.string bytes) => bytes.length + 1
  | .lit _ => 1
  | .nil => 1
  | .ptr d => uptoBulk d + 1
  | .slice elems spare => uptoBulkAll elems + uptoBulkAll spare + 1
  | .agg parts => uptoBulkAll parts + 1
  | .iface _ d => uptoBulk d + 1
  | .map entries => uptoBulkEntries entries + 1
  | .held _ => 1
def uptoBulkAll {H : Type} : List (DataW H) → Nat
  | [] => 0
  | d :: r => uptoBulk d + uptoBulkAll r
def uptoBulkEntries {H : Type} : List (Lit × DataW H) → Nat
  | [] => 0
  | x :: r => uptoBulkEntry x + uptoBulkEntries r
def uptoBulkEntry {H : Type} : Lit × DataW H → Nat
  | (.string bytes, d) => bytes.length + uptoBulk d + 1
  | (_, d) => uptoBulk d + 1
 end
def uptoSmall : (H : Type) → List (DataW H) → Bool := fun _ ds => decide (uptoBulkAll ds ≤ 1048576)
def OpenSpec.upto (s : _root_.Go.ChangeSpec) : _root_.Go.OpenSpec := { _root_.Go.OpenSpec.ofChange s with cond := some uptoSmall }

/-- 'observatorylaw16.DefectMatchesReference', WHERE WHAT IT READS IS OF BULK AT MOST 1048576: true; the input reads as it did. -/
def defectMatchesReferenceUptoRow : OpenClaim := { program := "ytalijeodmmlfjaa", sum := "c703109a1e8e38352b903826d8d0937cddd07c2e588cbca8b68a9b8ec5793a63", func := "observatory/observatorylaw16.DefectMatchesReference", spec := "defectMatchesReference", unfollowed := true, recurses := true, apart := false, narrowed := true }
def DefectMatchesReferenceUptoSaid : Prop := defectMatchesReferenceUptoRow.holds Try.pinned (OpenSpec.upto defectMatchesReferenceSpec)

/-- 'observatorylaw16.DefectMasks', WHERE WHAT IT READS IS OF BULK AT MOST 1048576: true; the input reads as it did. -/
def defectMasksUptoRow : OpenClaim := { program := "ytalijeodmmlfjaa", sum := "c703109a1e8e38352b903826d8d0937cddd07c2e588cbca8b68a9b8ec5793a63", func := "observatory/observatorylaw16.DefectMasks", spec := "defectMasks", unfollowed := true, recurses := true, apart := false, narrowed := true }
def DefectMasksUptoSaid : Prop := defectMasksUptoRow.holds Try.pinned (OpenSpec.upto defectMasksSpec)

/-- 'observatorylaw16.DefectChanges', WHERE WHAT IT READS IS OF BULK AT MOST 1048576: true; the input reads as it did. -/
def defectChangesUptoRow : OpenClaim := { program := "ytalijeodmmlfjaa", sum := "c703109a1e8e38352b903826d8d0937cddd07c2e588cbca8b68a9b8ec5793a63", func := "observatory/observatorylaw16.DefectChanges", spec := "defectChanges", unfollowed := true, recurses := true, apart := false, narrowed := true }
def DefectChangesUptoSaid : Prop := defectChangesUptoRow.holds Try.pinned (OpenSpec.upto defectChangesSpec)

/-- 'observatorylaw16.DefectOrder', WHERE WHAT IT READS IS OF BULK AT MOST 1048576: true; the input reads as it did. -/
def defectOrderUptoRow : OpenClaim := { program := "ytalijeodmmlfjaa", sum := "c703109a1e8e38352b903826d8d0937cddd07c2e588cbca8b68a9b8ec5793a63", func := "observatory/observatorylaw16.DefectOrder", spec := "defectOrder", unfollowed := true, recurses := true, apart := false, narrowed := true }
def DefectOrderUptoSaid : Prop := defectOrderUptoRow.holds Try.pinned (OpenSpec.upto defectOrderSpec)

/-- 'observatorylaw16.DefectFurther', WHERE WHAT IT READS IS OF BULK AT MOST 1048576: true; the input reads as it did. -/
def defectFurtherUptoRow : OpenClaim := { program := "ytalijeodmmlfjaa", sum := "c703109a1e8e38352b903826d8d0937cddd07c2e588cbca8b68a9b8ec5793a63", func := "observatory/observatorylaw16.DefectFurther", spec := "defectFurther", unfollowed := true, recurses := true, apart := false, narrowed := true }
def DefectFurtherUptoSaid : Prop := defectFurtherUptoRow.holds Try.pinned (OpenSpec.upto defectFurtherSpec)

/-- 'observatorylaw16.DefectBetween', WHERE WHAT IT READS IS OF BULK AT MOST 1048576: true; the input reads as it did. -/
def defectBetweenUptoRow : OpenClaim := { program := "ytalijeodmmlfjaa", sum := "c703109a1e8e38352b903826d8d0937cddd07c2e588cbca8b68a9b8ec5793a63", func := "observatory/observatorylaw16.DefectBetween", spec := "defectBetween", unfollowed := true, recurses := true, apart := false, narrowed := true }
def DefectBetweenUptoSaid : Prop := defectBetweenUptoRow.holds Try.pinned (OpenSpec.upto defectBetweenSpec)

end Rows
end Go.Proofs.Ytalijeodmmlfjaa
