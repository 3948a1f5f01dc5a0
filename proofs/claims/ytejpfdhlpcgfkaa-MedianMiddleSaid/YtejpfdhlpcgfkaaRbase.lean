/- What the rows of this seat share. -/
import Derived.Test.YtejpfdhlpcgfkaaRows
import Derived.Test.YtejpfdhlpcgfkaaAbsR
import Derived.Test.YtejpfdhlpcgfkaaVc
import Derived.WalkKit
import Derived.ProofKit
import Derived.OpenShut
import Derived.ChangeOld
import Derived.Below
set_option linter.unusedVariables false
set_option linter.unusedSimpArgs false
set_option linter.unusedSectionVars false
namespace Go.Proofs.Ytejpfdhlpcgfkaa
open Go.ChangeShapes Go.WideShapes Go.ChangeAt Go.RowKit
theorem own : ownKnob Try.prog.godebug = none := by kernel_rfl
theorem laidOut : laidOutB Try.prog = true := by kernel_rfl
theorem cells3 : Try.prog.cellsOf 3 = 1 := by kernel_rfl
theorem elem3 {H0 : Type} {enc : TypeId × Value → H0} {W : World} (fuel : Nat) (cs : List Value) (x : DataW H0 × List MemPlace) (h : DataW.trod enc Try.prog W 0 (fun _ => true) true fuel 3 cs = some x) : ∃ d : Int, cs = ic d := by
  obtain ⟨n, h, _, _⟩ := DataW.trod_int u3 h
  exact ⟨n, h⟩

end Go.Proofs.Ytejpfdhlpcgfkaa
