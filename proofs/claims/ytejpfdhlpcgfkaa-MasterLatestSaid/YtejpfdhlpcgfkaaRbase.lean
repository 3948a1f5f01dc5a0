/- What the rows of this seat share. -/
import Derived.Test.YtejpfdhlpcgfkaaRows
import Derived.Test.YtejpfdhlpcgfkaaAbsZ
import Derived.Test.YtejpfdhlpcgfkaaVc
import Derived.WalkKit
import Derived.ProofKit
import Derived.OpenShut
import Derived.ChangeOld
import Derived.Below
set_option linter.unusedVariables false
set_option linter.unusedSimpArgs false
set_option linter.unusedSectionVars false
namespace Go.Proofs.Ytejpfdhlpcgfkaa
open Go.ChangeShapes Go.WideShapes Go.ChangeAt Go.RowKit
theorem own : ownKnob Try.prog.godebug = none := by kernel_rfl
theorem laidOut : laidOutB Try.prog = true := by kernel_rfl
theorem cells3 : Try.prog.cellsOf 3 = 1 := by kernel_rfl
theorem elem3 {H0 : Type} {enc : TypeId × Value → H0} {W : World} (fuel : Nat) (cs : List Value) (x : DataW H0 × List MemPlace) (h : DataW.trod enc Try.prog W 0 (fun _ => true) true fuel 3 cs = some x) : ∃ d : Int, cs = ic d := by
  obtain ⟨n, h, _, _⟩ := DataW.trod_int u3 h
  exact ⟨n, h⟩

section
variable {H0 : Type} {enc : TypeId × Value → H0} {W : World}
theorem cells42 : Try.prog.cellsOf 42 = 9 := by kernel_rfl
theorem cells40 : Try.prog.cellsOf 40 = 4 := by kernel_rfl
theorem cells27 : Try.prog.cellsOf 27 = 4 := by kernel_rfl
theorem field42 : ∀ q ∈ [((0, 4, 40) : Nat × Nat × TypeId), (4, 1, 3), (5, 4, 27)], ∃ (i : Nat) (f : Field), (Try.prog.fieldsOf 42)[i]? = some f ∧ f.offset = q.1 ∧ f.type = q.2.2 := by
  intro q hq
  simp only [List.mem_cons, List.not_mem_nil, or_false] at hq
  rcases hq with rfl | rfl | rfl
  · exact ⟨0, _, rfl, rfl, rfl⟩
  · exact ⟨1, _, rfl, rfl, rfl⟩
  · exact ⟨2, _, rfl, rfl, rfl⟩
theorem field40 : ∀ q ∈ [((0, 1, 3) : Nat × Nat × TypeId), (1, 1, 3), (2, 1, 3), (3, 1, 3)], ∃ (i : Nat) (f : Field), (Try.prog.fieldsOf 40)[i]? = some f ∧ f.offset = q.1 ∧ f.type = q.2.2 := by
  intro q hq
  simp only [List.mem_cons, List.not_mem_nil, or_false] at hq
  rcases hq with rfl | rfl | rfl | rfl
  · exact ⟨0, _, rfl, rfl, rfl⟩
  · exact ⟨1, _, rfl, rfl, rfl⟩
  · exact ⟨2, _, rfl, rfl, rfl⟩
  · exact ⟨3, _, rfl, rfl, rfl⟩
theorem lay3 : Abs.Lay enc Try.prog W 3 (fun cs => ∃ z : Int, cs = [.int .i64 z]) := (Abs.lay_int u3).mono fun _ ⟨z, h, _⟩ => ⟨z, h⟩
theorem lay40 : Abs.Lay enc Try.prog W 40 (fun cs => ∃ a b c d : Int, cs = [.int .i64 a, .int .i64 b, .int .i64 c, .int .i64 d]) := by
  refine (Abs.lay_struct u40 (ps := [(0, 1, 3, fun cs => ∃ z : Int, cs = [.int .i64 z]), (1, 1, 3, fun cs => ∃ z : Int, cs = [.int .i64 z]), (2, 1, 3, fun cs => ∃ z : Int, cs = [.int .i64 z]), (3, 1, 3, fun cs => ∃ z : Int, cs = [.int .i64 z])]) ?_).mono ?_
  · intro q hq
    simp only [List.mem_cons, List.not_mem_nil, or_false] at hq
    rcases hq with rfl | rfl | rfl | rfl
    · exact ⟨lay3, cells3.symm, field40 (0, 1, 3) (by simp)⟩
    · exact ⟨lay3, cells3.symm, field40 (1, 1, 3) (by simp)⟩
    · exact ⟨lay3, cells3.symm, field40 (2, 1, 3) (by simp)⟩
    · exact ⟨lay3, cells3.symm, field40 (3, 1, 3) (by simp)⟩
  · rintro cs ⟨hl, h⟩
    rw [cells40] at hl
    obtain ⟨a, ha⟩ := h _ (List.mem_cons_self ..)
    obtain ⟨b, hb⟩ := h _ (List.mem_cons_of_mem _ (List.mem_cons_self ..))
    obtain ⟨c, hc⟩ := h _ (List.mem_cons_of_mem _ (List.mem_cons_of_mem _ (List.mem_cons_self ..)))
    obtain ⟨d, hd⟩ := h _ (List.mem_cons_of_mem _ (List.mem_cons_of_mem _ (List.mem_cons_of_mem _ (List.mem_cons_self ..))))
    match cs, hl with
    | [w, x, y, z], _ =>
      simp at ha hb hc hd
      exact ⟨a, b, c, d, by rw [ha, hb, hc, hd]⟩
theorem lay27 : Abs.Lay enc Try.prog W 27 (fun cs => ∃ a b c d : Int, cs = [.int .i64 a, .int .i64 b, .int .i64 c, .int .i64 d]) := by
  refine (Abs.lay_array u27 cells3 lay3).mono ?_
  rintro cs ⟨hl, h⟩
  rw [cells27] at hl
  obtain ⟨a, ha⟩ := h 0 (by decide)
  obtain ⟨b, hb⟩ := h 1 (by decide)
  obtain ⟨c, hc⟩ := h 2 (by decide)
  obtain ⟨d, hd⟩ := h 3 (by decide)
  match cs, hl with
  | [w, x, y, z], _ =>
    simp at ha hb hc hd
    exact ⟨a, b, c, d, by rw [ha, hb, hc, hd]⟩
theorem lay42 : Abs.Lay enc Try.prog W 42 (fun cs => ∃ c : Cal, cs = c.cells) := by
  refine (Abs.lay_struct u42 (ps := [(0, 4, 40, fun cs => ∃ a b c d : Int, cs = [.int .i64 a, .int .i64 b, .int .i64 c, .int .i64 d]), (4, 1, 3, fun cs => ∃ z : Int, cs = [.int .i64 z]), (5, 4, 27, fun cs => ∃ a b c d : Int, cs = [.int .i64 a, .int .i64 b, .int .i64 c, .int .i64 d])]) ?_).mono ?_
  · intro q hq
    simp only [List.mem_cons, List.not_mem_nil, or_false] at hq
    rcases hq with rfl | rfl | rfl
    · exact ⟨lay40, cells40.symm, field42 (0, 4, 40) (by simp)⟩
    · exact ⟨lay3, cells3.symm, field42 (4, 1, 3) (by simp)⟩
    · exact ⟨lay27, cells27.symm, field42 (5, 4, 27) (by simp)⟩
  · rintro cs ⟨hl, h⟩
    rw [cells42] at hl
    obtain ⟨a, b, c, d, h1⟩ := h _ (List.mem_cons_self ..)
    obtain ⟨e, h2⟩ := h _ (List.mem_cons_of_mem _ (List.mem_cons_self ..))
    obtain ⟨f, g, i, j, h3⟩ := h _ (List.mem_cons_of_mem _ (List.mem_cons_of_mem _ (List.mem_cons_self ..)))
    match cs, hl with
    | [x1, x2, x3, x4, x5, x6, x7, x8, x9], _ =>
      simp at h1 h2 h3
      obtain ⟨rfl, rfl, rfl, rfl⟩ := h1
      obtain ⟨rfl, rfl, rfl, rfl⟩ := h3
      subst h2
      exact ⟨⟨a, b, c, d, e, f, g, i, j⟩, rfl⟩
theorem elem42 (fuel : Nat) (cs : List Value) (x : DataW H0 × List MemPlace) (h : DataW.trod enc Try.prog W 0 (fun _ => true) true fuel 42 cs = some x) : ∃ c : Cal, cs = c.cells := lay42 fuel cs x h
end
theorem agg42 (v : Value) (c : Cal) (h : v.cells.toList = c.cells) : v = .agg c.cells.toArray := by
  have hs : v.cells.size = 9 := by rw [← Array.length_toList, h]; rfl
  cases v with
  | agg cs => rw [← h]; rfl
  | _ => simp [Value.cells] at hs
end Go.Proofs.Ytejpfdhlpcgfkaa
