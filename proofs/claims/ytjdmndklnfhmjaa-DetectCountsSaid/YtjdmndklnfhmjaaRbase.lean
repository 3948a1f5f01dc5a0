/- What the rows of this seat share. -/
import Derived.Test.YtjdmndklnfhmjaaRows
import Derived.Test.YtjdmndklnfhmjaaAbsZ
import Derived.Test.YtjdmndklnfhmjaaXh
import Derived.WalkKit
import Derived.ProofKit
import Derived.OpenShut
import Derived.ChangeOld
import Derived.Below
set_option linter.unusedVariables false
set_option linter.unusedSimpArgs false
set_option linter.unusedSectionVars false
namespace Go.Proofs.Ytjdmndklnfhmjaa
open Go.ChangeShapes Go.WideShapes Go.ChangeAt Go.RowKit
set_option maxHeartbeats 8000000
set_option maxRecDepth 100000
theorem own : ownKnob Try.prog.godebug = none := by kernel_rfl
section
variable {H0 : Type} {enc : TypeId × Value → H0} {W : World}
theorem cells32 : Try.prog.cellsOf 32 = 5 := by kernel_rfl
theorem cells37 : Try.prog.cellsOf 37 = 4 := by kernel_rfl
theorem cells25 : Try.prog.cellsOf 25 = 4 := by kernel_rfl
theorem cells23 : Try.prog.cellsOf 23 = 4 := by kernel_rfl
theorem cells4 : Try.prog.cellsOf 4 = 1 := by kernel_rfl
theorem field32 : ∀ q ∈ [((0, 1, 3) : Nat × Nat × TypeId), (1, 1, 3), (2, 1, 3), (3, 1, 3), (4, 1, 3)], ∃ (i : Nat) (f : Field), (Try.prog.fieldsOf 32)[i]? = some f ∧ f.offset = q.1 ∧ f.type = q.2.2 := by
  intro q hq
  simp only [List.mem_cons, List.not_mem_nil, or_false] at hq
  rcases hq with rfl | rfl | rfl | rfl | rfl
  · exact ⟨0, _, rfl, rfl, rfl⟩
  · exact ⟨1, _, rfl, rfl, rfl⟩
  · exact ⟨2, _, rfl, rfl, rfl⟩
  · exact ⟨3, _, rfl, rfl, rfl⟩
  · exact ⟨4, _, rfl, rfl, rfl⟩
theorem field37 : ∀ q ∈ [((0, 1, 3) : Nat × Nat × TypeId), (1, 1, 3), (2, 1, 3), (3, 1, 3)], ∃ (i : Nat) (f : Field), (Try.prog.fieldsOf 37)[i]? = some f ∧ f.offset = q.1 ∧ f.type = q.2.2 := by
  intro q hq
  simp only [List.mem_cons, List.not_mem_nil, or_false] at hq
  rcases hq with rfl | rfl | rfl | rfl
  · exact ⟨0, _, rfl, rfl, rfl⟩
  · exact ⟨1, _, rfl, rfl, rfl⟩
  · exact ⟨2, _, rfl, rfl, rfl⟩
  · exact ⟨3, _, rfl, rfl, rfl⟩
theorem lay3 : Abs.Lay enc Try.prog W 3 (fun cs => ∃ z : Int, cs = [.int .i64 z]) := (Abs.lay_int u3).mono fun _ ⟨z, h, _⟩ => ⟨z, h⟩
theorem lay4 : Abs.Lay enc Try.prog W 4 (fun cs => ∃ z : Bool, cs = [.bool z]) := Abs.lay_bool u4
theorem lay32 : Abs.Lay enc Try.prog W 32 (fun cs => ∃ d : Det, cs = d.cells) := by
  refine (Abs.lay_struct u32 (ps := [(0, 1, 3, fun cs => ∃ z : Int, cs = [.int .i64 z]), (1, 1, 3, fun cs => ∃ z : Int, cs = [.int .i64 z]), (2, 1, 3, fun cs => ∃ z : Int, cs = [.int .i64 z]), (3, 1, 3, fun cs => ∃ z : Int, cs = [.int .i64 z]), (4, 1, 3, fun cs => ∃ z : Int, cs = [.int .i64 z])]) ?_).mono ?_
  · intro q hq
    simp only [List.mem_cons, List.not_mem_nil, or_false] at hq
    rcases hq with rfl | rfl | rfl | rfl | rfl
    · exact ⟨lay3, cells3.symm, field32 (0, 1, 3) (by simp)⟩
    · exact ⟨lay3, cells3.symm, field32 (1, 1, 3) (by simp)⟩
    · exact ⟨lay3, cells3.symm, field32 (2, 1, 3) (by simp)⟩
    · exact ⟨lay3, cells3.symm, field32 (3, 1, 3) (by simp)⟩
    · exact ⟨lay3, cells3.symm, field32 (4, 1, 3) (by simp)⟩
  · rintro cs ⟨hl, h⟩
    rw [cells32] at hl
    obtain ⟨a, ha⟩ := h _ (List.mem_cons_self ..)
    obtain ⟨b, hb⟩ := h _ (List.mem_cons_of_mem _ (List.mem_cons_self ..))
    obtain ⟨c, hc⟩ := h _ (List.mem_cons_of_mem _ (List.mem_cons_of_mem _ (List.mem_cons_self ..)))
    obtain ⟨d, hd⟩ := h _ (List.mem_cons_of_mem _ (List.mem_cons_of_mem _ (List.mem_cons_of_mem _ (List.mem_cons_self ..))))
    obtain ⟨e, he⟩ := h _ (List.mem_cons_of_mem _ (List.mem_cons_of_mem _ (List.mem_cons_of_mem _ (List.mem_cons_of_mem _ (List.mem_cons_self ..)))))
    match cs, hl with
    | [v, w, x, y, z], _ =>
      simp at ha hb hc hd he
      exact ⟨⟨a, b, c, d, e⟩, by rw [ha, hb, hc, hd, he]; rfl⟩
theorem lay37 : Abs.Lay enc Try.prog W 37 (fun cs => ∃ d : Tal, cs = d.cells) := by
  refine (Abs.lay_struct u37 (ps := [(0, 1, 3, fun cs => ∃ z : Int, cs = [.int .i64 z]), (1, 1, 3, fun cs => ∃ z : Int, cs = [.int .i64 z]), (2, 1, 3, fun cs => ∃ z : Int, cs = [.int .i64 z]), (3, 1, 3, fun cs => ∃ z : Int, cs = [.int .i64 z])]) ?_).mono ?_
  · intro q hq
    simp only [List.mem_cons, List.not_mem_nil, or_false] at hq
    rcases hq with rfl | rfl | rfl | rfl
    · exact ⟨lay3, cells3.symm, field37 (0, 1, 3) (by simp)⟩
    · exact ⟨lay3, cells3.symm, field37 (1, 1, 3) (by simp)⟩
    · exact ⟨lay3, cells3.symm, field37 (2, 1, 3) (by simp)⟩
    · exact ⟨lay3, cells3.symm, field37 (3, 1, 3) (by simp)⟩
  · rintro cs ⟨hl, h⟩
    rw [cells37] at hl
    obtain ⟨a, ha⟩ := h _ (List.mem_cons_self ..)
    obtain ⟨b, hb⟩ := h _ (List.mem_cons_of_mem _ (List.mem_cons_self ..))
    obtain ⟨c, hc⟩ := h _ (List.mem_cons_of_mem _ (List.mem_cons_of_mem _ (List.mem_cons_self ..)))
    obtain ⟨d, hd⟩ := h _ (List.mem_cons_of_mem _ (List.mem_cons_of_mem _ (List.mem_cons_of_mem _ (List.mem_cons_self ..))))
    match cs, hl with
    | [w, x, y, z], _ =>
      simp at ha hb hc hd
      exact ⟨⟨a, b, c, d⟩, by rw [ha, hb, hc, hd]; rfl⟩
def f4 {α : Type} (a b c d : α) (i : Nat) : α := if i = 0 then a else if i = 1 then b else if i = 2 then c else d
def vcs (v : Nat → Int) : List Value := [.int .i64 (v 0), .int .i64 (v 1), .int .i64 (v 2), .int .i64 (v 3)]
def mcs (v : Nat → Bool) : List Value := [.bool (v 0), .bool (v 1), .bool (v 2), .bool (v 3)]
theorem lay25 : Abs.Lay enc Try.prog W 25 (fun cs => ∃ v : Nat → Int, cs = vcs v) := by
  refine (Abs.lay_array u25 cells3 lay3).mono ?_
  rintro cs ⟨hl, h⟩
  rw [cells25] at hl
  obtain ⟨a, ha⟩ := h 0 (by decide)
  obtain ⟨b, hb⟩ := h 1 (by decide)
  obtain ⟨c, hc⟩ := h 2 (by decide)
  obtain ⟨d, hd⟩ := h 3 (by decide)
  match cs, hl with
  | [w, x, y, z], _ =>
    simp at ha hb hc hd
    exact ⟨f4 a b c d, by rw [ha, hb, hc, hd]; rfl⟩
theorem lay23 : Abs.Lay enc Try.prog W 23 (fun cs => ∃ v : Nat → Bool, cs = mcs v) := by
  refine (Abs.lay_array u23 cells4 lay4).mono ?_
  rintro cs ⟨hl, h⟩
  rw [cells23] at hl
  obtain ⟨a, ha⟩ := h 0 (by decide)
  obtain ⟨b, hb⟩ := h 1 (by decide)
  obtain ⟨c, hc⟩ := h 2 (by decide)
  obtain ⟨d, hd⟩ := h 3 (by decide)
  match cs, hl with
  | [w, x, y, z], _ =>
    simp at ha hb hc hd
    exact ⟨f4 a b c d, by rw [ha, hb, hc, hd]; rfl⟩
theorem elem32 (fuel : Nat) (cs : List Value) (x : DataW H0 × List MemPlace) (h : DataW.trod enc Try.prog W 0 (fun _ => true) true fuel 32 cs = some x) : ∃ d : Det, cs = d.cells := lay32 fuel cs x h
theorem elem37 (fuel : Nat) (cs : List Value) (x : DataW H0 × List MemPlace) (h : DataW.trod enc Try.prog W 0 (fun _ => true) true fuel 37 cs = some x) : ∃ d : Tal, cs = d.cells := lay37 fuel cs x h
theorem elem25 (fuel : Nat) (cs : List Value) (x : DataW H0 × List MemPlace) (h : DataW.trod enc Try.prog W 0 (fun _ => true) true fuel 25 cs = some x) : ∃ v : Nat → Int, cs = vcs v := lay25 fuel cs x h
theorem elem23 (fuel : Nat) (cs : List Value) (x : DataW H0 × List MemPlace) (h : DataW.trod enc Try.prog W 0 (fun _ => true) true fuel 23 cs = some x) : ∃ v : Nat → Bool, cs = mcs v := lay23 fuel cs x h
end
theorem agg32 (v : Value) (c : Det) (h : v.cells.toList = c.cells) : v = .agg c.cells.toArray := by
  have hs : v.cells.size = 5 := by rw [← Array.length_toList, h]; rfl
  cases v with
  | agg cs => rw [← h]; rfl
  | _ => simp [Value.cells] at hs
theorem agg25 (v : Value) (c : Nat → Int) (h : v.cells.toList = vcs c) : v = .agg (vcs c).toArray := by
  have hs : v.cells.size = 4 := by rw [← Array.length_toList, h]; rfl
  cases v with
  | agg cs => rw [← h]; rfl
  | _ => simp [Value.cells] at hs
theorem agg23 (v : Value) (c : Nat → Bool) (h : v.cells.toList = mcs c) : v = .agg (mcs c).toArray := by
  have hs : v.cells.size = 4 := by rw [← Array.length_toList, h]; rfl
  cases v with
  | agg cs => rw [← h]; rfl
  | _ => simp [Value.cells] at hs
end Go.Proofs.Ytjdmndklnfhmjaa
