/- MasterMatchesReference. -/
import Derived.Test.YtejpfdhlpcgfkaaVq
import Derived.Test.YtejpfdhlpcgfkaaVm
set_option linter.unusedVariables false
set_option linter.unusedSimpArgs false
set_option linter.unusedSectionVars false
namespace Go.Proofs.Ytejpfdhlpcgfkaa
open Go.Abs Go.Sm
set_option maxHeartbeats 8000000
set_option maxRecDepth 100000
theorem used_nil {l : List Cal} {w : Want} {S : List Nat} (hp : S.Perm (apps l w)) : usedL l w = [] ↔ S = [] := by
  rw [used_apps, List.map_eq_nil_iff, List.reverse_eq_nil_iff]
  constructor
  · intro h; rw [h] at hp; exact hp.eq_nil
  · rintro rfl; exact hp.symm.eq_nil
theorem rp_eq {l : List Cal} {w : Want} {S Y : List Nat} (hp : S.Perm (apps l w)) (hs : S.Pairwise (bfL l)) (hY : Order (usedL l w) Y) (p : Nat) : rp l S p = pixV (usedL l w) Y p := by
  obtain ⟨S', h1, h2, h3⟩ := order_S hY
  obtain rfl := S_unique hp hs h1 h2
  have e := congrArg (fun L => (L.take 5).map fun c => Cal.pix c p) h3
  simp only [← List.map_take, List.map_map] at e
  rw [rp, pixV]
  congr 1
theorem master_ref {l : List Cal} {w : Want} {S : List Nat} (hp : S.Perm (apps l w)) (hs : S.Pairwise (bfL l)) {v v' : Value} (h : MasterR l w v) (h' : RefR l w S v') : v = v' := by
  have hn := used_nil (S := S) hp
  rcases h with ⟨h1, rfl⟩ | ⟨h1, h2, rfl⟩ | ⟨h1, h2, Y, hY, rfl⟩ <;> rcases h' with ⟨g1, rfl⟩ | ⟨g1, g2, rfl⟩ | ⟨g1, g2, rfl⟩
  · rfl
  · rw [h1] at g1; cases g1
  · rw [h1] at g1; cases g1
  · rw [h1] at g1; cases g1
  · rfl
  · exact absurd (hn.1 h2) g2
  · rw [h1] at g1; cases g1
  · exact absurd (hn.2 g2) h2
  · rw [rp_eq hp hs hY, rp_eq hp hs hY, rp_eq hp hs hY, rp_eq hp hs hY]
theorem n3 : Try.f3.ntmps = 85 := rfl
theorem ret3 : Try.f3.results = #[.tmp 14] := rfl
theorem match_law (H : Hp) (a a2 : Option Addr) (l : List Cal) (ns : List Int) (wk wt wf wa wn : Int) (he : Elems H a 9 (l.map Cal.cells)) (he2 : Elems H a2 1 (ns.map ic)) :
    ACalls Try.prog 3 [.slice a l.length l.length, .int .i64 wk, .int .i64 wt, .int .i64 wf, .int .i64 wa, .int .i64 wn, .slice a2 ns.length ns.length] H (fun v H' => v = .bool true) := by
  refine ACalls_enter Try.func3 (by kernel_rfl) rfl (by kernel_rfl) (by simp [n3]) fun hw hr => AWP_of_awp ?_
  simp -implicitDefEqProofs (maxSteps := 2000000) (disch := first | omega | (simp only [nx_new, nx_set, List.length_cons, List.length_nil, List.length_map, List.length_set, ne_eq, not_true_eq_false, not_false_eq_true, Nat.succ_ne_zero]; done) | (simp only [nx_new, nx_set, List.length_cons, List.length_nil, List.length_map, List.length_set, ne_eq, not_true_eq_false, not_false_eq_true, Nat.succ_ne_zero]; omega)) only [go_sem, reduceIte, reduceCtorEq, Nat.succ_ne_zero, not_false_eq_true, decide_true, decide_false, Nat.reduceAdd, Nat.reduceMul, Nat.reduceEqDiff, Nat.reduceLeDiff]
  refine (head_spec H).mono ?_
  rintro _ G0 ⟨rfl, k0⟩
  simp -implicitDefEqProofs (maxSteps := 2000000) (disch := first | omega | (simp only [nx_new, nx_set, List.length_cons, List.length_nil, List.length_map, List.length_set, ne_eq, not_true_eq_false, not_false_eq_true, Nat.succ_ne_zero]; done) | (simp only [nx_new, nx_set, List.length_cons, List.length_nil, List.length_map, List.length_set, ne_eq, not_true_eq_false, not_false_eq_true, Nat.succ_ne_zero]; omega)) only [go_sem, reduceIte, reduceCtorEq, Nat.succ_ne_zero, not_false_eq_true, decide_true, decide_false, Nat.reduceAdd, Nat.reduceMul, Nat.reduceEqDiff, Nat.reduceLeDiff]
  refine ACalls.use_eq (few_spec _ _ _) ?_
  cases hfew : decide ((l.length : Int) ≤ 20) with
  | false =>
    simp -implicitDefEqProofs (maxSteps := 2000000) (disch := first | omega | (simp only [nx_new, nx_set, List.length_cons, List.length_nil, List.length_map, List.length_set, ne_eq, not_true_eq_false, not_false_eq_true, Nat.succ_ne_zero]; done) | (simp only [nx_new, nx_set, List.length_cons, List.length_nil, List.length_map, List.length_set, ne_eq, not_true_eq_false, not_false_eq_true, Nat.succ_ne_zero]; omega)) only [go_sem, reduceIte, reduceCtorEq, Nat.succ_ne_zero, not_false_eq_true, decide_true, decide_false, Nat.reduceAdd, Nat.reduceMul, Nat.reduceEqDiff, Nat.reduceLeDiff]
    exact ret_r (v := .bool true) (by rw [ares_tmp ret3]; rfl) rfl
  | true =>
    have hl : l.length ≤ 20 := by have := of_decide_eq_true hfew; omega
    simp -implicitDefEqProofs (maxSteps := 2000000) (disch := first | omega | (simp only [nx_new, nx_set, List.length_cons, List.length_nil, List.length_map, List.length_set, ne_eq, not_true_eq_false, not_false_eq_true, Nat.succ_ne_zero]; done) | (simp only [nx_new, nx_set, List.length_cons, List.length_nil, List.length_map, List.length_set, ne_eq, not_true_eq_false, not_false_eq_true, Nat.succ_ne_zero]; omega)) only [go_sem, reduceIte, reduceCtorEq, Nat.succ_ne_zero, not_false_eq_true, decide_true, decide_false, Nat.reduceAdd, Nat.reduceMul, Nat.reduceEqDiff, Nat.reduceLeDiff]
    refine condS_split (fun hc => ?_) (fun hc => ?_)
    · simp -implicitDefEqProofs (maxSteps := 2000000) (disch := first | omega | (simp only [nx_new, nx_set, List.length_cons, List.length_nil, List.length_map, List.length_set, ne_eq, not_true_eq_false, not_false_eq_true, Nat.succ_ne_zero]; done) | (simp only [nx_new, nx_set, List.length_cons, List.length_nil, List.length_map, List.length_set, ne_eq, not_true_eq_false, not_false_eq_true, Nat.succ_ne_zero]; omega)) only [go_sem, reduceIte, reduceCtorEq, Nat.succ_ne_zero, not_false_eq_true, decide_true, decide_false, Nat.reduceAdd, Nat.reduceMul, Nat.reduceEqDiff, Nat.reduceLeDiff, hc]
      exact ret_r (v := .bool true) (by rw [ares_tmp ret3]; rfl) rfl
    have hns : ns.length ≤ 100 := by have := of_decide_eq_false hc; omega
    have hul : (usedL l ⟨wk, wt, wf, wa, wn⟩).length ≤ 20 := by
      refine Nat.le_trans (List.length_filter_le _ _) ?_
      rw [List.length_reverse]; exact hl
    simp -implicitDefEqProofs (maxSteps := 2000000) (disch := first | omega | (simp only [nx_new, nx_set, List.length_cons, List.length_nil, List.length_map, List.length_set, ne_eq, not_true_eq_false, not_false_eq_true, Nat.succ_ne_zero]; done) | (simp only [nx_new, nx_set, List.length_cons, List.length_nil, List.length_map, List.length_set, ne_eq, not_true_eq_false, not_false_eq_true, Nat.succ_ne_zero]; omega)) only [go_sem, reduceIte, reduceCtorEq, Nat.succ_ne_zero, not_false_eq_true, decide_true, decide_false, Nat.reduceAdd, Nat.reduceMul, Nat.reduceEqDiff, Nat.reduceLeDiff, hc]
    refine (master_spec G0 a l ⟨wk, wt, wf, wa, wn⟩ (by omega) hul (he.grows k0.grows)).mono ?_
    rintro v1 G1 ⟨m1, k1⟩
    obtain ⟨S, hp, hs⟩ := exists_S l ⟨wk, wt, wf, wa, wn⟩
    obtain ⟨p0, p1, p2, p3, er, rfl⟩ := masterR_form m1
    simp only [pxs] at m1 ⊢
    simp -implicitDefEqProofs (maxSteps := 2000000) (disch := first | omega | (simp only [nx_new, nx_set, List.length_cons, List.length_nil, List.length_map, List.length_set, ne_eq, not_true_eq_false, not_false_eq_true, Nat.succ_ne_zero]; done) | (simp only [nx_new, nx_set, List.length_cons, List.length_nil, List.length_map, List.length_set, ne_eq, not_true_eq_false, not_false_eq_true, Nat.succ_ne_zero]; omega)) only [go_sem, reduceIte, reduceCtorEq, Nat.succ_ne_zero, not_false_eq_true, decide_true, decide_false, Nat.reduceAdd, Nat.reduceMul, Nat.reduceEqDiff, Nat.reduceLeDiff]
    refine (refmaster_spec _ a l ⟨wk, wt, wf, wa, wn⟩ S (by omega) (((he.grows k0.grows).grows k1.grows).grows (Grows.new _ _)) hp hs).mono ?_
    rintro v2 G2 ⟨m2, k2⟩
    have hv := master_ref hp hs m1 m2
    subst hv
    have hgn : G1.next + 1 ≤ G2.next := k2.next
    have x2 : aload G2 ⟨G1.next, 0, none⟩ 4 = some [.int .i64 p0, .int .i64 p1, .int .i64 p2, .int .i64 p3] := (aload_row ((k2.get _ (Nat.lt_succ_self _)).trans (Hp.get_new_same _ _ _ rfl)) (by simp)).trans rfl
    simp -implicitDefEqProofs (maxSteps := 2000000) (disch := first | omega | (simp only [nx_new, nx_set, List.length_cons, List.length_nil, List.length_map, List.length_set, ne_eq, not_true_eq_false, not_false_eq_true, Nat.succ_ne_zero]; done) | (simp only [nx_new, nx_set, List.length_cons, List.length_nil, List.length_map, List.length_set, ne_eq, not_true_eq_false, not_false_eq_true, Nat.succ_ne_zero]; omega)) only [go_sem, reduceIte, reduceCtorEq, Nat.succ_ne_zero, not_false_eq_true, decide_true, decide_false, Nat.reduceAdd, Nat.reduceMul, Nat.reduceEqDiff, Nat.reduceLeDiff]
    obtain ⟨G3, e3⟩ : ∃ X, X = G2.new (.row [.int .i64 p0, .int .i64 p1, .int .i64 p2, .int .i64 p3] true 0) := ⟨_, rfl⟩
    rw [← e3]
    have k3 : Keeps G2 G3 := by rw [e3]; exact Keeps.new _ _
    have y2 : G3.get G2.next = .row [.int .i64 p0, .int .i64 p1, .int .i64 p2, .int .i64 p3] true 0 := by rw [e3]; exact Hp.get_new_same _ _ _ rfl
    have n3' : G3.next = G2.next + 1 := by rw [e3]; rfl
    clear e3
    have heN := ((((he2.grows k0.grows).grows k1.grows).grows (Grows.new _ (.row [.int .i64 p0, .int .i64 p1, .int .i64 p2, .int .i64 p3] true 0))).grows k2.grows).grows k3.grows
    refine (median_spec G3 a2 ns (by omega) heN).mono ?_
    rintro _ G4 ⟨rfl, k4⟩
    simp -implicitDefEqProofs (maxSteps := 2000000) (disch := first | omega | (simp only [nx_new, nx_set, List.length_cons, List.length_nil, List.length_map, List.length_set, ne_eq, not_true_eq_false, not_false_eq_true, Nat.succ_ne_zero]; done) | (simp only [nx_new, nx_set, List.length_cons, List.length_nil, List.length_map, List.length_set, ne_eq, not_true_eq_false, not_false_eq_true, Nat.succ_ne_zero]; omega)) only [go_sem, reduceIte, reduceCtorEq, Nat.succ_ne_zero, not_false_eq_true, decide_true, decide_false, Nat.reduceAdd, Nat.reduceMul, Nat.reduceEqDiff, Nat.reduceLeDiff]
    refine ACalls.use_eq (refmed_spec G4 a2 ns (by omega) (heN.grows k4.grows)) ?_
    have x2' : aload G4 ⟨G1.next, 0, none⟩ 4 = some [.int .i64 p0, .int .i64 p1, .int .i64 p2, .int .i64 p3] := by
      rw [k4.ld _ _ _ (by omega), k3.ld _ _ _ (by omega)]; exact x2
    have y2' : aload G4 ⟨G2.next, 0, none⟩ 4 = some [.int .i64 p0, .int .i64 p1, .int .i64 p2, .int .i64 p3] := (aload_row ((k4.get _ (by omega)).trans y2) (by simp)).trans rfl
    simp -implicitDefEqProofs (maxSteps := 2000000) (disch := first | omega | (simp only [nx_new, nx_set, List.length_cons, List.length_nil, List.length_map, List.length_set, ne_eq, not_true_eq_false, not_false_eq_true, Nat.succ_ne_zero]; done) | (simp only [nx_new, nx_set, List.length_cons, List.length_nil, List.length_map, List.length_set, ne_eq, not_true_eq_false, not_false_eq_true, Nat.succ_ne_zero]; omega)) only [go_sem, reduceIte, reduceCtorEq, Nat.succ_ne_zero, not_false_eq_true, decide_true, decide_false, Nat.reduceAdd, Nat.reduceMul, Nat.reduceEqDiff, Nat.reduceLeDiff, x2', y2']
    exact ret_r (v := .bool true) (by rw [ares_tmp ret3]; rfl) rfl
end Go.Proofs.Ytejpfdhlpcgfkaa
