/- head and few. -/
import Derived.Test.YtalijeodmmlfjaaWe
set_option linter.unusedVariables false
set_option linter.unusedSimpArgs false
set_option linter.unusedSectionVars false
namespace Go.Proofs.Ytalijeodmmlfjaa
open Go.Abs
set_option maxHeartbeats 8000000
set_option maxRecDepth 100000

def hdl : List D := [⟨0, 1, 10, 20, 15⟩, ⟨0, 2, 18, 30, 25⟩]
def hdw : List D := [⟨0, 0, 2, 1, 0⟩]
theorem hds : (bordB hdl).mergeSort (fun x y => decide (x ≤ y)) = [0, 10, 18, 21, 31, 38400] := by
  simp [bordB, hdl, List.mergeSort, List.MergeSort.Internal.splitInTwo, List.merge]
theorem hdb : bordL hdl = [0, 10, 18, 21, 31, 38400] := by unfold bordL sortedL; rw [hds]; decide
theorem hdv1 : maskV hdl 0 12 14 = .tuple #[.agg #[.bool false, .bool false, .bool false, .bool false], .int .i64 0] := by kernel_rfl
theorem hdv2 : maskV hdl 0 12 15 = .tuple #[.agg #[.bool false, .bool true, .bool false, .bool false], .int .i64 0] := by kernel_rfl
theorem hdv3 : maskV hdl 0 19 30 = .tuple #[.agg #[.bool false, .bool true, .bool true, .bool false], .int .i64 0] := by kernel_rfl
theorem hdc1 : ChangesL hdl 0 0 15 = [(10, 20)] := by unfold ChangesL changesL; rw [hdb]; decide
theorem hdc2 : ChangesL hdl 0 0 30 = [(10, 30)] := by unfold ChangesL changesL; rw [hdb]; decide
theorem hdc3 : ChangesL hdl 0 15 30 = [(18, 30)] := by unfold ChangesL changesL; rw [hdb]; decide
theorem hde1 : errB hdl 0 0 15 = 0 := by decide
theorem hde2 : errB hdl 0 0 30 = 0 := by decide
theorem hde3 : errB hdl 0 15 30 = 0 := by decide
theorem hdok : validB hdl = true := by decide
theorem hdno : validB hdw = false := by decide

theorem n9 : Try.f9.ntmps = 118 := rfl
theorem ret9 : Try.f9.results = #[.tmp 0] := rfl
theorem head_spec (H : Hp) : ACalls Try.prog 9 [] H (fun v H' => v = .bool true ∧ H' = H) := by
  refine ACalls_enter Try.func9 (by kernel_rfl) rfl (by kernel_rfl) (by simp [n9]) fun hw hr => AWP_of_awp ?_
  simp -implicitDefEqProofs (maxSteps := 2000000) (disch := first | omega | (simp only [nx_new, nx_set, List.length_cons, List.length_nil, List.length_map, List.length_set, ne_eq, not_true_eq_false, not_false_eq_true, Nat.succ_ne_zero]; done) | (simp only [nx_new, nx_set, List.length_cons, List.length_nil, List.length_map, List.length_set, ne_eq, not_true_eq_false, not_false_eq_true, Nat.succ_ne_zero]; omega)) only [go_sem, reduceIte, reduceCtorEq, Nat.succ_ne_zero, not_false_eq_true, decide_true, decide_false, Nat.reduceAdd, Nat.reduceMul, Nat.reduceEqDiff, Nat.reduceLeDiff]
  have he : Elems (H.new (.row [.int .i64 0, .int .i64 1, .int .i64 10, .int .i64 20, .int .i64 15, .int .i64 0, .int .i64 2, .int .i64 18, .int .i64 30, .int .i64 25] true 5)) (some ⟨H.next, 0, none⟩) 5 (hdl.map D.cells) :=
    Elems.row (Nat.lt_succ_self _) (Hp.get_new_same _ _ _ rfl) (by
      intro x hx
      obtain ⟨d, _, rfl⟩ := List.mem_map.1 hx
      rfl)
  refine ACalls.use_eq (Mask_spec _ _ hdl 0 12 14 (by decide) he) ?_
  rw [hdv1]
  simp -implicitDefEqProofs (maxSteps := 2000000) (disch := first | omega | (simp only [nx_new, nx_set, List.length_cons, List.length_nil, List.length_map, List.length_set, ne_eq, not_true_eq_false, not_false_eq_true, Nat.succ_ne_zero]; done) | (simp only [nx_new, nx_set, List.length_cons, List.length_nil, List.length_map, List.length_set, ne_eq, not_true_eq_false, not_false_eq_true, Nat.succ_ne_zero]; omega)) only [go_sem, reduceIte, reduceCtorEq, Nat.succ_ne_zero, not_false_eq_true, decide_true, decide_false, Nat.reduceAdd, Nat.reduceMul, Nat.reduceEqDiff, Nat.reduceLeDiff]
  refine ACalls.use_eq (Mask_spec _ _ hdl 0 12 15 (by decide) (he.grows (Keeps.new _ _).grows)) ?_
  rw [hdv2]
  simp -implicitDefEqProofs (maxSteps := 2000000) (disch := first | omega | (simp only [nx_new, nx_set, List.length_cons, List.length_nil, List.length_map, List.length_set, ne_eq, not_true_eq_false, not_false_eq_true, Nat.succ_ne_zero]; done) | (simp only [nx_new, nx_set, List.length_cons, List.length_nil, List.length_map, List.length_set, ne_eq, not_true_eq_false, not_false_eq_true, Nat.succ_ne_zero]; omega)) only [go_sem, reduceIte, reduceCtorEq, Nat.succ_ne_zero, not_false_eq_true, decide_true, decide_false, Nat.reduceAdd, Nat.reduceMul, Nat.reduceEqDiff, Nat.reduceLeDiff]
  refine ACalls.use_eq (Mask_spec _ _ hdl 0 19 30 (by decide) (he.grows ((Keeps.new _ _).trans (Keeps.new _ _)).grows)) ?_
  rw [hdv3]
  simp -implicitDefEqProofs (maxSteps := 2000000) (disch := first | omega | (simp only [nx_new, nx_set, List.length_cons, List.length_nil, List.length_map, List.length_set, ne_eq, not_true_eq_false, not_false_eq_true, Nat.succ_ne_zero]; done) | (simp only [nx_new, nx_set, List.length_cons, List.length_nil, List.length_map, List.length_set, ne_eq, not_true_eq_false, not_false_eq_true, Nat.succ_ne_zero]; omega)) only [go_sem, reduceIte, reduceCtorEq, Nat.succ_ne_zero, not_false_eq_true, decide_true, decide_false, Nat.reduceAdd, Nat.reduceMul, Nat.reduceEqDiff, Nat.reduceLeDiff]
  have he2 := he.grows (((Keeps.new _ (.row [.bool false, .bool false, .bool false, .bool false] true 0)).trans (Keeps.new _ (.row [.bool false, .bool true, .bool false, .bool false] true 0))).trans (Keeps.new _ (.row [.bool false, .bool true, .bool true, .bool false] true 0))).grows
  refine (Changes_spec _ _ hdl 0 0 15 (by decide) he2).mono ?_
  rintro _ G1 ⟨o1, rfl, hk1, hx1⟩
  rw [hdc1] at hx1 ⊢
  rw [hde1]
  simp -implicitDefEqProofs (maxSteps := 2000000) (disch := first | omega | (simp only [nx_new, nx_set, List.length_cons, List.length_nil, List.length_map, List.length_set, ne_eq, not_true_eq_false, not_false_eq_true, Nat.succ_ne_zero]; done) | (simp only [nx_new, nx_set, List.length_cons, List.length_nil, List.length_map, List.length_set, ne_eq, not_true_eq_false, not_false_eq_true, Nat.succ_ne_zero]; omega)) only [go_sem, reduceIte, reduceCtorEq, Nat.succ_ne_zero, not_false_eq_true, decide_true, decide_false, Nat.reduceAdd, Nat.reduceMul, Nat.reduceEqDiff, Nat.reduceLeDiff]
  refine (Changes_spec _ _ hdl 0 0 30 (by decide) (he2.grows hk1.grows)).mono ?_
  rintro _ G2 ⟨o2, rfl, hk2, hx2⟩
  rw [hdc2] at hx2 ⊢
  rw [hde2]
  simp -implicitDefEqProofs (maxSteps := 2000000) (disch := first | omega | (simp only [nx_new, nx_set, List.length_cons, List.length_nil, List.length_map, List.length_set, ne_eq, not_true_eq_false, not_false_eq_true, Nat.succ_ne_zero]; done) | (simp only [nx_new, nx_set, List.length_cons, List.length_nil, List.length_map, List.length_set, ne_eq, not_true_eq_false, not_false_eq_true, Nat.succ_ne_zero]; omega)) only [go_sem, reduceIte, reduceCtorEq, Nat.succ_ne_zero, not_false_eq_true, decide_true, decide_false, Nat.reduceAdd, Nat.reduceMul, Nat.reduceEqDiff, Nat.reduceLeDiff]
  refine (Changes_spec _ _ hdl 0 15 30 (by decide) (he2.grows (hk1.trans hk2).grows)).mono ?_
  rintro _ G3 ⟨o3, rfl, hk3, hx3⟩
  rw [hdc3] at hx3 ⊢
  rw [hde3]
  have hkk := hk1.trans (hk2.trans hk3)
  have bff : (false == false) = true := rfl
  have btt : (true == true) = true := rfl
  simp -implicitDefEqProofs (maxSteps := 2000000) (disch := first | omega | (simp only [nx_new, nx_set, List.length_cons, List.length_nil, List.length_map, List.length_set, ne_eq, not_true_eq_false, not_false_eq_true, Nat.succ_ne_zero]; done) | (simp only [nx_new, nx_set, List.length_cons, List.length_nil, List.length_map, List.length_set, ne_eq, not_true_eq_false, not_false_eq_true, Nat.succ_ne_zero]; omega)) only [go_sem, reduceIte, reduceCtorEq, Nat.succ_ne_zero, not_false_eq_true, decide_true, decide_false, Nat.reduceAdd, Nat.reduceMul, Nat.reduceEqDiff, Nat.reduceLeDiff, hkk.ld, bff, btt]
  have hx1' := hx1.grows (hk2.trans hk3).grows
  have hx2' := hx2.grows hk3.grows
  have hy : ∀ (X : Hp) (f u : Int), Elems (X.new (.row [.int .i64 f, .int .i64 u] true 2)) (some ⟨X.next, 0, none⟩) 2 ([(f, u)].map spc) := fun X f u =>
    Elems.row (Nat.lt_succ_self _) (Hp.get_new_same _ _ _ rfl) (spc_len _)
  refine ACalls.use_eq (spans_spec _ _ _ [(10, 20)] [(10, 20)] (by decide) (by decide) (hx1'.grows (Keeps.new _ _).grows) (hy G3 10 20)) ?_
  rw [decide_eq_true rfl]
  simp -implicitDefEqProofs (maxSteps := 2000000) (disch := first | omega | (simp only [nx_new, nx_set, List.length_cons, List.length_nil, List.length_map, List.length_set, ne_eq, not_true_eq_false, not_false_eq_true, Nat.succ_ne_zero]; done) | (simp only [nx_new, nx_set, List.length_cons, List.length_nil, List.length_map, List.length_set, ne_eq, not_true_eq_false, not_false_eq_true, Nat.succ_ne_zero]; omega)) only [go_sem, reduceIte, reduceCtorEq, Nat.succ_ne_zero, not_false_eq_true, decide_true, decide_false, Nat.reduceAdd, Nat.reduceMul, Nat.reduceEqDiff, Nat.reduceLeDiff]
  refine ACalls.use_eq (spans_spec _ _ _ [(10, 30)] [(10, 30)] (by decide) (by decide) (hx2'.grows ((Keeps.new _ _).trans (Keeps.new _ _)).grows) (hy _ 10 30)) ?_
  rw [decide_eq_true rfl]
  simp -implicitDefEqProofs (maxSteps := 2000000) (disch := first | omega | (simp only [nx_new, nx_set, List.length_cons, List.length_nil, List.length_map, List.length_set, ne_eq, not_true_eq_false, not_false_eq_true, Nat.succ_ne_zero]; done) | (simp only [nx_new, nx_set, List.length_cons, List.length_nil, List.length_map, List.length_set, ne_eq, not_true_eq_false, not_false_eq_true, Nat.succ_ne_zero]; omega)) only [go_sem, reduceIte, reduceCtorEq, Nat.succ_ne_zero, not_false_eq_true, decide_true, decide_false, Nat.reduceAdd, Nat.reduceMul, Nat.reduceEqDiff, Nat.reduceLeDiff]
  refine ACalls.use_eq (spans_spec _ _ _ [(18, 30)] [(18, 30)] (by decide) (by decide) (hx3.grows (((Keeps.new _ _).trans (Keeps.new _ _)).trans (Keeps.new _ _)).grows) (hy _ 18 30)) ?_
  rw [decide_eq_true rfl]
  simp -implicitDefEqProofs (maxSteps := 2000000) (disch := first | omega | (simp only [nx_new, nx_set, List.length_cons, List.length_nil, List.length_map, List.length_set, ne_eq, not_true_eq_false, not_false_eq_true, Nat.succ_ne_zero]; done) | (simp only [nx_new, nx_set, List.length_cons, List.length_nil, List.length_map, List.length_set, ne_eq, not_true_eq_false, not_false_eq_true, Nat.succ_ne_zero]; omega)) only [go_sem, reduceIte, reduceCtorEq, Nat.succ_ne_zero, not_false_eq_true, decide_true, decide_false, Nat.reduceAdd, Nat.reduceMul, Nat.reduceEqDiff, Nat.reduceLeDiff]
  refine ACalls.use_eq (valid_spec _ _ hdl (by decide) ((he2.grows hkk.grows).grows (((Keeps.new _ _).trans (Keeps.new _ _)).trans (Keeps.new _ _)).grows)) ?_
  rw [hdok]
  simp -implicitDefEqProofs (maxSteps := 2000000) (disch := first | omega | (simp only [nx_new, nx_set, List.length_cons, List.length_nil, List.length_map, List.length_set, ne_eq, not_true_eq_false, not_false_eq_true, Nat.succ_ne_zero]; done) | (simp only [nx_new, nx_set, List.length_cons, List.length_nil, List.length_map, List.length_set, ne_eq, not_true_eq_false, not_false_eq_true, Nat.succ_ne_zero]; omega)) only [go_sem, reduceIte, reduceCtorEq, Nat.succ_ne_zero, not_false_eq_true, decide_true, decide_false, Nat.reduceAdd, Nat.reduceMul, Nat.reduceEqDiff, Nat.reduceLeDiff]
  refine ACalls.use_eq (valid_spec _ _ hdw (by decide) (Elems.row (k := 5) (own := true) (Nat.lt_succ_self _) (Hp.get_new_same _ _ _ rfl) (by
      intro x hx
      obtain ⟨d, _, rfl⟩ := List.mem_map.1 hx
      rfl))) ?_
  rw [hdno]
  simp -implicitDefEqProofs (maxSteps := 2000000) (disch := first | omega | (simp only [nx_new, nx_set, List.length_cons, List.length_nil, List.length_map, List.length_set, ne_eq, not_true_eq_false, not_false_eq_true, Nat.succ_ne_zero]; done) | (simp only [nx_new, nx_set, List.length_cons, List.length_nil, List.length_map, List.length_set, ne_eq, not_true_eq_false, not_false_eq_true, Nat.succ_ne_zero]; omega)) only [go_sem, reduceIte, reduceCtorEq, Nat.succ_ne_zero, not_false_eq_true, decide_true, decide_false, Nat.reduceAdd, Nat.reduceMul, Nat.reduceEqDiff, Nat.reduceLeDiff]
  have hnx : H.next < G3.next := by
    have := hkk.next
    simp only [Hp.next_new] at this
    omega
  refine ret_same (G := H) (v := .bool true) .ret (.inr rfl) hw (Nat.le_refl _) (by rw [ares_tmp ret9]; rfl) rfl (fun b hb => by simp -implicitDefEqProofs (maxSteps := 2000000) (disch := first | omega | (simp only [nx_new, nx_set, List.length_cons, List.length_nil, List.length_map, List.length_set, ne_eq, not_true_eq_false, not_false_eq_true, Nat.succ_ne_zero]; done) | (simp only [nx_new, nx_set, List.length_cons, List.length_nil, List.length_map, List.length_set, ne_eq, not_true_eq_false, not_false_eq_true, Nat.succ_ne_zero]; omega)) only [go_sem, reduceIte, reduceCtorEq, Nat.succ_ne_zero, not_false_eq_true, decide_true, decide_false, Nat.reduceAdd, Nat.reduceMul, Nat.reduceEqDiff, Nat.reduceLeDiff, hkk.get]) ⟨rfl, rfl⟩

theorem n10 : Try.f10.ntmps = 16 := rfl
theorem ret10 : Try.f10.results = #[.tmp 2] := rfl
theorem few_spec (H : Hp) (a : Option Addr) (n : Nat) : ACalls Try.prog 10 [.slice a n n] H (fun v H' => v = .bool (decide (n ≤ 20) || decide (199 ≤ n) && decide (n ≤ 201)) ∧ H' = H) := by
  refine ACalls_enter Try.func10 (by kernel_rfl) rfl (by kernel_rfl) (by simp [n10]) fun hw hr => AWP_of_awp ?_
  simp -implicitDefEqProofs (maxSteps := 2000000) (disch := first | omega | (simp only [nx_new, nx_set, List.length_cons, List.length_nil, List.length_map, List.length_set, ne_eq, not_true_eq_false, not_false_eq_true, Nat.succ_ne_zero]; done) | (simp only [nx_new, nx_set, List.length_cons, List.length_nil, List.length_map, List.length_set, ne_eq, not_true_eq_false, not_false_eq_true, Nat.succ_ne_zero]; omega)) only [go_sem, reduceIte, reduceCtorEq, Nat.succ_ne_zero, not_false_eq_true, decide_true, decide_false, Nat.reduceAdd, Nat.reduceMul, Nat.reduceEqDiff, Nat.reduceLeDiff]
  refine guardS_split (fun hc => ?_) (fun hc => ?_)
  · have hp := of_decide_eq_true hc
    simp -implicitDefEqProofs (maxSteps := 2000000) (disch := first | omega | (simp only [nx_new, nx_set, List.length_cons, List.length_nil, List.length_map, List.length_set, ne_eq, not_true_eq_false, not_false_eq_true, Nat.succ_ne_zero]; done) | (simp only [nx_new, nx_set, List.length_cons, List.length_nil, List.length_map, List.length_set, ne_eq, not_true_eq_false, not_false_eq_true, Nat.succ_ne_zero]; omega)) only [go_sem, reduceIte, reduceCtorEq, Nat.succ_ne_zero, not_false_eq_true, decide_true, decide_false, Nat.reduceAdd, Nat.reduceMul, Nat.reduceEqDiff, Nat.reduceLeDiff, hc]
    exact ret_r (v := .bool true) (by rw [ares_tmp ret10]; rfl) ⟨by rw [decide_eq_true (show n ≤ 20 by omega)]; rfl, rfl⟩
  · have hp := of_decide_eq_false hc
    simp -implicitDefEqProofs (maxSteps := 2000000) (disch := first | omega | (simp only [nx_new, nx_set, List.length_cons, List.length_nil, List.length_map, List.length_set, ne_eq, not_true_eq_false, not_false_eq_true, Nat.succ_ne_zero]; done) | (simp only [nx_new, nx_set, List.length_cons, List.length_nil, List.length_map, List.length_set, ne_eq, not_true_eq_false, not_false_eq_true, Nat.succ_ne_zero]; omega)) only [go_sem, reduceIte, reduceCtorEq, Nat.succ_ne_zero, not_false_eq_true, decide_true, decide_false, Nat.reduceAdd, Nat.reduceMul, Nat.reduceEqDiff, Nat.reduceLeDiff, hc]
    refine guardS_split (fun hd => ?_) (fun hd => ?_)
    · have hp2 := of_decide_eq_true hd
      simp -implicitDefEqProofs (maxSteps := 2000000) (disch := first | omega | (simp only [nx_new, nx_set, List.length_cons, List.length_nil, List.length_map, List.length_set, ne_eq, not_true_eq_false, not_false_eq_true, Nat.succ_ne_zero]; done) | (simp only [nx_new, nx_set, List.length_cons, List.length_nil, List.length_map, List.length_set, ne_eq, not_true_eq_false, not_false_eq_true, Nat.succ_ne_zero]; omega)) only [go_sem, reduceIte, reduceCtorEq, Nat.succ_ne_zero, not_false_eq_true, decide_true, decide_false, Nat.reduceAdd, Nat.reduceMul, Nat.reduceEqDiff, Nat.reduceLeDiff, hd]
      refine ret_r (v := .bool (decide ((n : Int) ≤ 201))) (by rw [ares_tmp ret10]; rfl) ⟨?_, rfl⟩
      rw [decide_eq_false (show ¬n ≤ 20 by omega), decide_eq_true (show 199 ≤ n by omega), Bool.false_or, Bool.true_and]
      congr 1
      exact decide_eq_decide.2 (by omega)
    · have hp2 := of_decide_eq_false hd
      simp -implicitDefEqProofs (maxSteps := 2000000) (disch := first | omega | (simp only [nx_new, nx_set, List.length_cons, List.length_nil, List.length_map, List.length_set, ne_eq, not_true_eq_false, not_false_eq_true, Nat.succ_ne_zero]; done) | (simp only [nx_new, nx_set, List.length_cons, List.length_nil, List.length_map, List.length_set, ne_eq, not_true_eq_false, not_false_eq_true, Nat.succ_ne_zero]; omega)) only [go_sem, reduceIte, reduceCtorEq, Nat.succ_ne_zero, not_false_eq_true, decide_true, decide_false, Nat.reduceAdd, Nat.reduceMul, Nat.reduceEqDiff, Nat.reduceLeDiff, hd]
      exact ret_r (v := .bool false) (by rw [ares_tmp ret10]; rfl) ⟨by rw [decide_eq_false (show ¬n ≤ 20 by omega), decide_eq_false (show ¬199 ≤ n by omega)]; rfl, rfl⟩
end Go.Proofs.Ytalijeodmmlfjaa
