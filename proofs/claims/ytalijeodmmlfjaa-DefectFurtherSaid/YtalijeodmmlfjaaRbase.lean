/- What the rows of this seat share. -/
import Derived.Test.YtalijeodmmlfjaaRows
import Derived.Test.YtalijeodmmlfjaaAbsR
import Derived.Test.YtalijeodmmlfjaaWa
import Derived.WalkKit
import Derived.ProofKit
import Derived.OpenShut
import Derived.ChangeOld
import Derived.Below
set_option linter.unusedVariables false
set_option linter.unusedSimpArgs false
set_option linter.unusedSectionVars false
namespace Go.Proofs.Ytalijeodmmlfjaa
open Go.ChangeShapes Go.WideShapes Go.ChangeAt Go.RowKit
theorem own : ownKnob Try.prog.godebug = none := by kernel_rfl
theorem laidOut : laidOutB Try.prog = true := by kernel_rfl
theorem cells36 : Try.prog.cellsOf 36 = 5 := by kernel_rfl
theorem cells3 : Try.prog.cellsOf 3 = 1 := by kernel_rfl
theorem fields36 : ((Try.prog.fieldsOf 36).map fun f => (f.type, f.offset)) = #[(3, 0), (3, 1), (3, 2), (3, 3), (3, 4)] := by kernel_rfl
theorem elem36 {H0 : Type} {enc : TypeId × Value → H0} {W : World} (fuel : Nat) (cs : List Value) (x : DataW H0 × List MemPlace) (h : DataW.trod enc Try.prog W 0 (fun _ => true) true fuel 36 cs = some x) : ∃ d : D, cs = d.cells := by
  have hsz : (Try.prog.fieldsOf 36).size = 5 := by
    have := congrArg Array.size fields36
    simpa using this
  obtain ⟨zs, hl, rfl⟩ := Abs.struct_ints (m := 5) u36 cells36 (by omega) (fun i hi => by
    have hi2 : i < (Try.prog.fieldsOf 36).size := by omega
    refine ⟨(Try.prog.fieldsOf 36)[i], Array.getElem?_eq_getElem hi2, ?_⟩
    have := congrArg (·[i]?) fields36
    simp only [Array.getElem?_map, Array.getElem?_eq_getElem hi2, Option.map_some] at this
    match i, hi with
    | 0, _ => simp at this; rw [this.1, this.2]; exact ⟨rfl, u3, cells3⟩
    | 1, _ => simp at this; rw [this.1, this.2]; exact ⟨rfl, u3, cells3⟩
    | 2, _ => simp at this; rw [this.1, this.2]; exact ⟨rfl, u3, cells3⟩
    | 3, _ => simp at this; rw [this.1, this.2]; exact ⟨rfl, u3, cells3⟩
    | 4, _ => simp at this; rw [this.1, this.2]; exact ⟨rfl, u3, cells3⟩) h
  match zs, hl with
  | [a, b, c, d, e], _ => exact ⟨⟨a, b, c, d, e⟩, rfl⟩

theorem agg_of (v : Value) (d : D) (h : v.cells.toList = d.cells) : v = .agg d.cells.toArray := by
  have hs : v.cells.size = 5 := by rw [← Array.length_toList, h]; rfl
  cases v with
  | agg cs => rw [← h]; rfl
  | _ => simp [Value.cells] at hs
end Go.Proofs.Ytalijeodmmlfjaa
