/- The chapter's examples. -/
import Derived.Test.YtejpfdhlpcgfkaaVg
set_option linter.unusedVariables false
set_option linter.unusedSimpArgs false
set_option linter.unusedSectionVars false
namespace Go.Proofs.Ytejpfdhlpcgfkaa
open Go.Abs Go.Sm
set_option maxHeartbeats 8000000
set_option maxRecDepth 100000
instance (key : Nat → Int) (x y : Nat) : Decidable (bf key x y) := inferInstanceAs (Decidable (key x < key y ∨ (key x = key y ∧ x < y)))
theorem order_unique {u : List Cal} {Y Y' : List Nat} (h : Order u Y) (h' : Order u Y') : Y = Y' :=
  List.Perm.eq_of_pairwise (le := bf fun i => -(u.getD i cal0).at_) (fun a b _ _ h1 h2 => by
    simp only [bf, bef] at h1 h2
    omega) h.2 h'.2 (h.1.trans h'.1.symm)
theorem srt_eq {l s : List Int} (hp : s.Perm l) (hs : s.Pairwise (· ≤ ·)) : srt l = s := by
  refine List.Perm.eq_of_pairwise (le := fun a b : Int => a ≤ b) (fun a b _ _ h1 h2 => Int.le_antisymm h1 h2) ?_ hs ((List.mergeSort_perm _ _).trans hp.symm)
  have := List.pairwise_mergeSort (le := fun x y : Int => decide (x ≤ y)) (fun a b c h1 h2 => by simp at *; omega) (fun a b => by simp; omega) l
  exact this.imp fun h => by simpa using h
theorem med3 : med [7, 9, 5] = 7 := by
  rw [med, srt_eq (s := [5, 7, 9]) (by decide) (by decide)]; rfl
theorem med2 : med [9, 5] = 5 := by
  rw [med, srt_eq (s := [5, 9]) (by decide) (by decide)]; rfl
theorem med4 : med [4, 1, 3, 2] = 2 := by
  rw [med, srt_eq (s := [1, 2, 3, 4]) (by decide) (by decide)]; rfl
theorem n17 : Try.f17.ntmps = 16 := rfl
theorem ret17 : Try.f17.results = #[.cell 6 42] := rfl
def dk (at_ kn n : Int) : Cal := ⟨1, 0, -1, at_, kn, n, n, n, n⟩
theorem dark_spec (H : Hp) (at_ kn n : Int) : ACalls Try.prog 17 [.int .i64 at_, .int .i64 kn, .int .i64 n] H (fun v H' => v = .agg (dk at_ kn n).cells.toArray ∧ Keeps H H') := by
  rw [cal_agg]
  refine ACalls_enter Try.func17 (by kernel_rfl) rfl (by kernel_rfl) (by simp [n17]) fun hw hr => AWP_of_awp ?_
  simp -implicitDefEqProofs (maxSteps := 2000000) (disch := first | omega | (simp only [nx_new, nx_set, List.length_cons, List.length_nil, List.length_map, List.length_set, ne_eq, not_true_eq_false, not_false_eq_true, Nat.succ_ne_zero]; done) | (simp only [nx_new, nx_set, List.length_cons, List.length_nil, List.length_map, List.length_set, ne_eq, not_true_eq_false, not_false_eq_true, Nat.succ_ne_zero]; omega)) only [go_sem, reduceIte, reduceCtorEq, Nat.succ_ne_zero, not_false_eq_true, decide_true, decide_false, Nat.reduceAdd, Nat.reduceMul, Nat.reduceEqDiff, Nat.reduceLeDiff]
  exact ret_r (v := .agg #[.int .i64 1, .int .i64 0, .int .i64 (-1), .int .i64 at_, .int .i64 kn, .int .i64 n, .int .i64 n, .int .i64 n, .int .i64 n]) (by rw [ares_cell ret17]; simp -implicitDefEqProofs (maxSteps := 2000000) (disch := first | omega | (simp only [nx_new, nx_set, List.length_cons, List.length_nil, List.length_map, List.length_set, ne_eq, not_true_eq_false, not_false_eq_true, Nat.succ_ne_zero]; done) | (simp only [nx_new, nx_set, List.length_cons, List.length_nil, List.length_map, List.length_set, ne_eq, not_true_eq_false, not_false_eq_true, Nat.succ_ne_zero]; omega)) only [go_sem, reduceIte, reduceCtorEq, Nat.succ_ne_zero, not_false_eq_true, decide_true, decide_false, Nat.reduceAdd, Nat.reduceMul, Nat.reduceEqDiff, Nat.reduceLeDiff]) ⟨rfl, Keeps.new _ _⟩
def hl : List Cal := [dk 10 10 5, dk 20 20 9, dk 30 50 7]
theorem head1 {v : Value} (h : MasterR hl ⟨1, 0, -1, 40, 60⟩ v) : v = .tuple #[pxs 7 7 7 7, .int .i64 0] := by
  rcases h with ⟨h, _⟩ | ⟨_, h, _⟩ | ⟨_, _, Y, hY, rfl⟩
  · exact absurd h (by decide)
  · exact absurd h (by decide)
  · have hu : usedL hl ⟨1, 0, -1, 40, 60⟩ = [dk 30 50 7, dk 20 20 9, dk 10 10 5] := rfl
    rw [hu] at hY ⊢
    obtain rfl := order_unique hY (Y' := [0, 1, 2]) ⟨by decide, by decide⟩
    have e : ∀ p, p < 4 → pixV [dk 30 50 7, dk 20 20 9, dk 10 10 5] [0, 1, 2] p = 7 := fun p hp => by
      match p, hp with
      | 0, _ => exact med3
      | 1, _ => exact med3
      | 2, _ => exact med3
      | 3, _ => exact med3
    rw [e 0 (by decide), e 1 (by decide), e 2 (by decide), e 3 (by decide)]
theorem head2 {v : Value} (h : MasterR hl ⟨1, 0, -1, 40, 40⟩ v) : v = .tuple #[pxs 5 5 5 5, .int .i64 0] := by
  rcases h with ⟨h, _⟩ | ⟨_, h, _⟩ | ⟨_, _, Y, hY, rfl⟩
  · exact absurd h (by decide)
  · exact absurd h (by decide)
  · have hu : usedL hl ⟨1, 0, -1, 40, 40⟩ = [dk 20 20 9, dk 10 10 5] := rfl
    rw [hu] at hY ⊢
    obtain rfl := order_unique hY (Y' := [0, 1]) ⟨by decide, by decide⟩
    have e : ∀ p, p < 4 → pixV [dk 20 20 9, dk 10 10 5] [0, 1] p = 5 := fun p hp => by
      match p, hp with
      | 0, _ => exact med2
      | 1, _ => exact med2
      | 2, _ => exact med2
      | 3, _ => exact med2
    rw [e 0 (by decide), e 1 (by decide), e 2 (by decide), e 3 (by decide)]
theorem head3 {v : Value} (h : MasterR hl ⟨1, 0, -1, 9, 60⟩ v) : v = .tuple #[pxs 0 0 0 0, .int .i64 10] := by
  rcases h with ⟨h, _⟩ | ⟨_, _, h⟩ | ⟨_, h, _⟩
  · exact absurd h (by decide)
  · exact h
  · exact absurd (by decide) h
theorem n9 : Try.f9.ntmps = 72 := rfl
theorem ret9 : Try.f9.results = #[.tmp 0] := rfl
theorem head_spec (H : Hp) : ACalls Try.prog 9 [] H (fun v H' => v = .bool true ∧ Keeps H H') := by
  refine ACalls_enter Try.func9 (by kernel_rfl) rfl (by kernel_rfl) (by simp [n9]) fun hw hr => AWP_step ?_
  simp -implicitDefEqProofs (maxSteps := 2000000) (disch := first | omega | (simp only [nx_new, nx_set, List.length_cons, List.length_nil, List.length_map, List.length_set, ne_eq, not_true_eq_false, not_false_eq_true, Nat.succ_ne_zero]; done) | (simp only [nx_new, nx_set, List.length_cons, List.length_nil, List.length_map, List.length_set, ne_eq, not_true_eq_false, not_false_eq_true, Nat.succ_ne_zero]; omega)) only [go_sem, reduceIte, reduceCtorEq, Nat.succ_ne_zero, not_false_eq_true, decide_true, decide_false, Nat.reduceAdd, Nat.reduceMul, Nat.reduceEqDiff, Nat.reduceLeDiff]
  have hd := fun (G : Hp) (a b c : Int) => dark_spec G a b c
  simp only [cal_agg, dk] at hd
  refine AWP_step ?_
  simp -implicitDefEqProofs (maxSteps := 2000000) (disch := first | omega | (simp only [nx_new, nx_set, List.length_cons, List.length_nil, List.length_map, List.length_set, ne_eq, not_true_eq_false, not_false_eq_true, Nat.succ_ne_zero]; done) | (simp only [nx_new, nx_set, List.length_cons, List.length_nil, List.length_map, List.length_set, ne_eq, not_true_eq_false, not_false_eq_true, Nat.succ_ne_zero]; omega)) only [go_sem, reduceIte, reduceCtorEq, Nat.succ_ne_zero, not_false_eq_true, decide_true, decide_false, Nat.reduceAdd, Nat.reduceMul, Nat.reduceEqDiff, Nat.reduceLeDiff]
  refine (hd _ _ _ _).mono ?_
  rintro _ G1 ⟨rfl, k1⟩
  simp -implicitDefEqProofs (maxSteps := 2000000) (disch := first | omega | (simp only [nx_new, nx_set, List.length_cons, List.length_nil, List.length_map, List.length_set, ne_eq, not_true_eq_false, not_false_eq_true, Nat.succ_ne_zero]; done) | (simp only [nx_new, nx_set, List.length_cons, List.length_nil, List.length_map, List.length_set, ne_eq, not_true_eq_false, not_false_eq_true, Nat.succ_ne_zero]; omega)) only [go_sem, reduceIte, reduceCtorEq, Nat.succ_ne_zero, not_false_eq_true, decide_true, decide_false, Nat.reduceAdd, Nat.reduceMul, Nat.reduceEqDiff, Nat.reduceLeDiff]
  refine (hd _ _ _ _).mono ?_
  rintro _ G2 ⟨rfl, k2⟩
  simp -implicitDefEqProofs (maxSteps := 2000000) (disch := first | omega | (simp only [nx_new, nx_set, List.length_cons, List.length_nil, List.length_map, List.length_set, ne_eq, not_true_eq_false, not_false_eq_true, Nat.succ_ne_zero]; done) | (simp only [nx_new, nx_set, List.length_cons, List.length_nil, List.length_map, List.length_set, ne_eq, not_true_eq_false, not_false_eq_true, Nat.succ_ne_zero]; omega)) only [go_sem, reduceIte, reduceCtorEq, Nat.succ_ne_zero, not_false_eq_true, decide_true, decide_false, Nat.reduceAdd, Nat.reduceMul, Nat.reduceEqDiff, Nat.reduceLeDiff]
  refine (hd _ _ _ _).mono ?_
  rintro _ G3 ⟨rfl, k3⟩
  simp -implicitDefEqProofs (maxSteps := 2000000) (disch := first | omega | (simp only [nx_new, nx_set, List.length_cons, List.length_nil, List.length_map, List.length_set, ne_eq, not_true_eq_false, not_false_eq_true, Nat.succ_ne_zero]; done) | (simp only [nx_new, nx_set, List.length_cons, List.length_nil, List.length_map, List.length_set, ne_eq, not_true_eq_false, not_false_eq_true, Nat.succ_ne_zero]; omega)) only [go_sem, reduceIte, reduceCtorEq, Nat.succ_ne_zero, not_false_eq_true, decide_true, decide_false, Nat.reduceAdd, Nat.reduceMul, Nat.reduceEqDiff, Nat.reduceLeDiff]
  obtain ⟨G4, e4⟩ : ∃ X, X = G3.new (.row ((hl.map Cal.cells).flatten) true 9) := ⟨_, rfl⟩
  have e4' := e4
  simp only [hl, List.map_cons, List.map_nil, List.flatten_cons, List.flatten_nil, Cal.cells, dk, List.cons_append, List.nil_append, List.append_nil] at e4'
  rw [← e4']
  have k4 : Keeps G3 G4 := by rw [e4]; exact Keeps.new _ _
  have hel : Elems G4 (some ⟨G3.next, 0, none⟩) 9 (hl.map Cal.cells) := by rw [e4]; exact Elems.row (Nat.lt_succ_self _) (Hp.get_new_same _ _ _ rfl) (cells_len _)
  clear e4 e4'
  refine AWP_step ?_
  simp -implicitDefEqProofs (maxSteps := 2000000) (disch := first | omega | (simp only [nx_new, nx_set, List.length_cons, List.length_nil, List.length_map, List.length_set, ne_eq, not_true_eq_false, not_false_eq_true, Nat.succ_ne_zero]; done) | (simp only [nx_new, nx_set, List.length_cons, List.length_nil, List.length_map, List.length_set, ne_eq, not_true_eq_false, not_false_eq_true, Nat.succ_ne_zero]; omega)) only [go_sem, reduceIte, reduceCtorEq, Nat.succ_ne_zero, not_false_eq_true, decide_true, decide_false, Nat.reduceAdd, Nat.reduceMul, Nat.reduceEqDiff, Nat.reduceLeDiff]
  refine (master_spec G4 (some ⟨G3.next, 0, none⟩) hl ⟨1, 0, -1, 40, 60⟩ (by decide) hel).mono ?_
  rintro v G5 ⟨hm, k5⟩
  rw [head1 hm, pxs]
  simp -implicitDefEqProofs (maxSteps := 2000000) (disch := first | omega | (simp only [nx_new, nx_set, List.length_cons, List.length_nil, List.length_map, List.length_set, ne_eq, not_true_eq_false, not_false_eq_true, Nat.succ_ne_zero]; done) | (simp only [nx_new, nx_set, List.length_cons, List.length_nil, List.length_map, List.length_set, ne_eq, not_true_eq_false, not_false_eq_true, Nat.succ_ne_zero]; omega)) only [go_sem, reduceIte, reduceCtorEq, Nat.succ_ne_zero, not_false_eq_true, decide_true, decide_false, Nat.reduceAdd, Nat.reduceMul, Nat.reduceEqDiff, Nat.reduceLeDiff]
  refine AWP_step ?_
  simp -implicitDefEqProofs (maxSteps := 2000000) (disch := first | omega | (simp only [nx_new, nx_set, List.length_cons, List.length_nil, List.length_map, List.length_set, ne_eq, not_true_eq_false, not_false_eq_true, Nat.succ_ne_zero]; done) | (simp only [nx_new, nx_set, List.length_cons, List.length_nil, List.length_map, List.length_set, ne_eq, not_true_eq_false, not_false_eq_true, Nat.succ_ne_zero]; omega)) only [go_sem, reduceIte, reduceCtorEq, Nat.succ_ne_zero, not_false_eq_true, decide_true, decide_false, Nat.reduceAdd, Nat.reduceMul, Nat.reduceEqDiff, Nat.reduceLeDiff]
  refine (master_spec _ (some ⟨G3.next, 0, none⟩) hl ⟨1, 0, -1, 40, 40⟩ (by decide) ((hel.grows k5.grows).grows (Grows.new _ _))).mono ?_
  rintro v2 G6 ⟨hm2, k6⟩
  rw [head2 hm2, pxs]
  simp -implicitDefEqProofs (maxSteps := 2000000) (disch := first | omega | (simp only [nx_new, nx_set, List.length_cons, List.length_nil, List.length_map, List.length_set, ne_eq, not_true_eq_false, not_false_eq_true, Nat.succ_ne_zero]; done) | (simp only [nx_new, nx_set, List.length_cons, List.length_nil, List.length_map, List.length_set, ne_eq, not_true_eq_false, not_false_eq_true, Nat.succ_ne_zero]; omega)) only [go_sem, reduceIte, reduceCtorEq, Nat.succ_ne_zero, not_false_eq_true, decide_true, decide_false, Nat.reduceAdd, Nat.reduceMul, Nat.reduceEqDiff, Nat.reduceLeDiff]
  refine AWP_step ?_
  simp -implicitDefEqProofs (maxSteps := 2000000) (disch := first | omega | (simp only [nx_new, nx_set, List.length_cons, List.length_nil, List.length_map, List.length_set, ne_eq, not_true_eq_false, not_false_eq_true, Nat.succ_ne_zero]; done) | (simp only [nx_new, nx_set, List.length_cons, List.length_nil, List.length_map, List.length_set, ne_eq, not_true_eq_false, not_false_eq_true, Nat.succ_ne_zero]; omega)) only [go_sem, reduceIte, reduceCtorEq, Nat.succ_ne_zero, not_false_eq_true, decide_true, decide_false, Nat.reduceAdd, Nat.reduceMul, Nat.reduceEqDiff, Nat.reduceLeDiff]
  refine (master_spec _ (some ⟨G3.next, 0, none⟩) hl ⟨1, 0, -1, 9, 60⟩ (by decide) ((((hel.grows k5.grows).grows (Grows.new _ _)).grows k6.grows).grows (Grows.new _ _))).mono ?_
  rintro v3 G7 ⟨hm3, k7⟩
  rw [head3 hm3, pxs]
  simp -implicitDefEqProofs (maxSteps := 2000000) (disch := first | omega | (simp only [nx_new, nx_set, List.length_cons, List.length_nil, List.length_map, List.length_set, ne_eq, not_true_eq_false, not_false_eq_true, Nat.succ_ne_zero]; done) | (simp only [nx_new, nx_set, List.length_cons, List.length_nil, List.length_map, List.length_set, ne_eq, not_true_eq_false, not_false_eq_true, Nat.succ_ne_zero]; omega)) only [go_sem, reduceIte, reduceCtorEq, Nat.succ_ne_zero, not_false_eq_true, decide_true, decide_false, Nat.reduceAdd, Nat.reduceMul, Nat.reduceEqDiff, Nat.reduceLeDiff]
  refine AWP_step ?_
  simp -implicitDefEqProofs (maxSteps := 2000000) (disch := first | omega | (simp only [nx_new, nx_set, List.length_cons, List.length_nil, List.length_map, List.length_set, ne_eq, not_true_eq_false, not_false_eq_true, Nat.succ_ne_zero]; done) | (simp only [nx_new, nx_set, List.length_cons, List.length_nil, List.length_map, List.length_set, ne_eq, not_true_eq_false, not_false_eq_true, Nat.succ_ne_zero]; omega)) only [go_sem, reduceIte, reduceCtorEq, Nat.succ_ne_zero, not_false_eq_true, decide_true, decide_false, Nat.reduceAdd, Nat.reduceMul, Nat.reduceEqDiff, Nat.reduceLeDiff]
  have md := median_spec ((G7.new (.row [.int .i64 0, .int .i64 0, .int .i64 0, .int .i64 0] true 0)).new (.row [.int .i64 4, .int .i64 1, .int .i64 3, .int .i64 2] true 1)) (some ⟨G7.next + 1, 0, none⟩) [4, 1, 3, 2] (by decide)
    (Elems.row (Nat.lt_succ_self _) (Hp.get_new_same _ _ _ rfl) (ic_len _))
  rw [show medV [4, 1, 3, 2] = 2 from med4, show medE [4, 1, 3, 2] = 0 from rfl] at md
  refine md.mono ?_
  rintro _ G8 ⟨rfl, k8⟩
  simp -implicitDefEqProofs (maxSteps := 2000000) (disch := first | omega | (simp only [nx_new, nx_set, List.length_cons, List.length_nil, List.length_map, List.length_set, ne_eq, not_true_eq_false, not_false_eq_true, Nat.succ_ne_zero]; done) | (simp only [nx_new, nx_set, List.length_cons, List.length_nil, List.length_map, List.length_set, ne_eq, not_true_eq_false, not_false_eq_true, Nat.succ_ne_zero]; omega)) only [go_sem, reduceIte, reduceCtorEq, Nat.succ_ne_zero, not_false_eq_true, decide_true, decide_false, Nat.reduceAdd, Nat.reduceMul, Nat.reduceEqDiff, Nat.reduceLeDiff]
  refine AWP_step ?_
  simp -implicitDefEqProofs (maxSteps := 2000000) (disch := first | omega | (simp only [nx_new, nx_set, List.length_cons, List.length_nil, List.length_map, List.length_set, ne_eq, not_true_eq_false, not_false_eq_true, Nat.succ_ne_zero]; done) | (simp only [nx_new, nx_set, List.length_cons, List.length_nil, List.length_map, List.length_set, ne_eq, not_true_eq_false, not_false_eq_true, Nat.succ_ne_zero]; omega)) only [go_sem, reduceIte, reduceCtorEq, Nat.succ_ne_zero, not_false_eq_true, decide_true, decide_false, Nat.reduceAdd, Nat.reduceMul, Nat.reduceEqDiff, Nat.reduceLeDiff]
  have mn := median_spec G8 none [] (by decide) Elems.nil
  rw [show medV [] = 0 from rfl, show medE [] = 10 from rfl] at mn
  refine mn.mono ?_
  rintro _ G9 ⟨rfl, k9⟩
  simp -implicitDefEqProofs (maxSteps := 2000000) (disch := first | omega | (simp only [nx_new, nx_set, List.length_cons, List.length_nil, List.length_map, List.length_set, ne_eq, not_true_eq_false, not_false_eq_true, Nat.succ_ne_zero]; done) | (simp only [nx_new, nx_set, List.length_cons, List.length_nil, List.length_map, List.length_set, ne_eq, not_true_eq_false, not_false_eq_true, Nat.succ_ne_zero]; omega)) only [go_sem, reduceIte, reduceCtorEq, Nat.succ_ne_zero, not_false_eq_true, decide_true, decide_false, Nat.reduceAdd, Nat.reduceMul, Nat.reduceEqDiff, Nat.reduceLeDiff]
  have K2 := (Keeps.new G7 (.row [.int .i64 0, .int .i64 0, .int .i64 0, .int .i64 0] true 0)).trans ((Keeps.new _ _).trans (k8.trans k9))
  have K1 := (Keeps.refl _).trans (k7.trans K2)
  have K0 := k6.trans ((Keeps.new _ _).trans K1)
  have x2 : aload G9 ⟨G5.next, 0, none⟩ 4 = some [.int .i64 7, .int .i64 7, .int .i64 7, .int .i64 7] := (aload_row ((K0.get _ (Nat.lt_succ_self _)).trans (Hp.get_new_same _ _ _ rfl)) (by simp)).trans rfl
  have x4 : aload G9 ⟨G6.next, 0, none⟩ 4 = some [.int .i64 5, .int .i64 5, .int .i64 5, .int .i64 5] := (aload_row ((K1.get _ (Nat.lt_succ_self _)).trans (Hp.get_new_same _ _ _ rfl)) (by simp)).trans rfl
  refine AWP_of_awp ?_
  simp -implicitDefEqProofs (maxSteps := 2000000) (disch := first | omega | (simp only [nx_new, nx_set, List.length_cons, List.length_nil, List.length_map, List.length_set, ne_eq, not_true_eq_false, not_false_eq_true, Nat.succ_ne_zero]; done) | (simp only [nx_new, nx_set, List.length_cons, List.length_nil, List.length_map, List.length_set, ne_eq, not_true_eq_false, not_false_eq_true, Nat.succ_ne_zero]; omega)) only [go_sem, reduceIte, reduceCtorEq, Nat.succ_ne_zero, not_false_eq_true, decide_true, decide_false, Nat.reduceAdd, Nat.reduceMul, Nat.reduceEqDiff, Nat.reduceLeDiff, x2, x4]
  exact ret_r (v := .bool true) (by rw [ares_tmp ret9]; rfl) ⟨rfl, k1.trans (k2.trans (k3.trans (k4.trans (k5.trans ((Keeps.new _ _).trans K0)))))⟩
end Go.Proofs.Ytejpfdhlpcgfkaa
