/- What the rows of this seat share. -/
import Derived.Test.YtjgdmjoafpbnaaaRows
import Derived.Test.YtjgdmjoafpbnaaaAbsR
import Derived.Test.YtjgdmjoafpbnaaaSe
import Derived.WalkKit
import Derived.ProofKit
import Derived.OpenShut
import Derived.ChangeOld
import Derived.Below
set_option linter.unusedVariables false
set_option linter.unusedSimpArgs false
set_option linter.unusedSectionVars false
namespace Go.Proofs.Ytjgdmjoafpbnaaa
open Go.ChangeShapes Go.WideShapes Go.ChangeAt Go.RowKit
theorem own : ownKnob Try.prog.godebug = none := by kernel_rfl
theorem laidOut : laidOutB Try.prog = true := by kernel_rfl
theorem cells34 : Try.prog.cellsOf 34 = 2 := by kernel_rfl
theorem cells3 : Try.prog.cellsOf 3 = 1 := by kernel_rfl
theorem fields34 : ((Try.prog.fieldsOf 34).map fun f => (f.type, f.offset)) = #[(3, 0), (3, 1)] := by kernel_rfl
theorem elem34 {H0 : Type} {enc : TypeId × Value → H0} {W : World} (fuel : Nat) (cs : List Value) (x : DataW H0 × List MemPlace) (h : DataW.trod enc Try.prog W 0 (fun _ => true) true fuel 34 cs = some x) : ∃ d : Sp, cs = spc d := by
  have hsz : (Try.prog.fieldsOf 34).size = 2 := by
    have := congrArg Array.size fields34
    simpa using this
  obtain ⟨zs, hl, rfl⟩ := Abs.struct_ints (m := 2) u34 cells34 (by omega) (fun i hi => by
    have hi2 : i < (Try.prog.fieldsOf 34).size := by omega
    refine ⟨(Try.prog.fieldsOf 34)[i], Array.getElem?_eq_getElem hi2, ?_⟩
    have := congrArg (·[i]?) fields34
    simp only [Array.getElem?_map, Array.getElem?_eq_getElem hi2, Option.map_some] at this
    match i, hi with
    | 0, _ => simp at this; rw [this.1, this.2]; exact ⟨rfl, u3, cells3⟩
    | 1, _ => simp at this; rw [this.1, this.2]; exact ⟨rfl, u3, cells3⟩) h
  match zs, hl with
  | [a, b], _ => exact ⟨(a, b), rfl⟩
theorem elem3 {H0 : Type} {enc : TypeId × Value → H0} {W : World} (fuel : Nat) (cs : List Value) (x : DataW H0 × List MemPlace) (h : DataW.trod enc Try.prog W 0 (fun _ => true) true fuel 3 cs = some x) : ∃ d : Int, cs = ic d := by
  obtain ⟨n, h, _, _⟩ := DataW.trod_int u3 h
  exact ⟨n, h⟩

theorem agg_of (v : Value) (d : Sp) (h : v.cells.toList = spc d) : v = .agg (spc d).toArray := by
  have hs : v.cells.size = 2 := by rw [← Array.length_toList, h]; rfl
  cases v with
  | agg cs => rw [← h]; rfl
  | _ => simp [Value.cells] at hs
end Go.Proofs.Ytjgdmjoafpbnaaa
