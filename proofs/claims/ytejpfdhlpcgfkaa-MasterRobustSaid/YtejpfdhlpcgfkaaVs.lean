/- MasterRobust. -/
import Derived.Test.YtejpfdhlpcgfkaaVm
import Derived.Test.YtejpfdhlpcgfkaaVn
set_option linter.unusedVariables false
set_option linter.unusedSimpArgs false
set_option linter.unusedSectionVars false
namespace Go.Proofs.Ytejpfdhlpcgfkaa
open Go.Abs Go.Sm
set_option maxHeartbeats 8000000
set_option maxRecDepth 100000
def Cal.pd (c : Cal) : List Value := [.int .i64 c.v0, .int .i64 c.v1, .int .i64 c.v2, .int .i64 c.v3]
theorem pd_len (l : List Cal) : ∀ x, x ∈ l.map Cal.pd → x.length = 4 := by
  intro x hx
  obtain ⟨c, _, rfl⟩ := List.mem_map.1 hx
  rfl
theorem pd_flat (l : List Cal) : ((l.map Cal.pd).flatten).length = l.length * 4 := by rw [flat_len (pd_len l), List.length_map]
theorem pd_cell (c : Cal) {k : Nat} (hk : k < 4) : c.pd[k]? = some (.int .i64 (c.pix k)) := by
  match k, hk with
  | 0, _ => rfl
  | 1, _ => rfl
  | 2, _ => rfl
  | 3, _ => rfl
theorem pixR_get (f : Nat → Int) {p : Nat} (hp : p < 4) : (pixR f 4)[p]? = some (.int .i64 (f p)) := by
  match p, hp with
  | 0, _ => rfl
  | 1, _ => rfl
  | 2, _ => rfl
  | 3, _ => rfl
def xsP (U : List Cal) (p : Nat) : List Int := U.map fun c => c.pix p
theorem xsP_len (U : List Cal) (p : Nat) : (xsP U p).length = U.length := List.length_map _
theorem used_U (l : List Cal) (w : Want) : usedL l w = (l.filter w.app).reverse := List.filter_reverse
theorem perm_xs {U : List Cal} {Y : List Nat} (h : Order U.reverse Y) (p : Nat) : (Y.map fun i => (U.reverse.getD i cal0).pix p).Perm (xsP U p) := by
  have h1 := h.1.map fun i => (U.reverse.getD i cal0).pix p
  have h2 : (List.range U.reverse.length).map (fun i => (U.reverse.getD i cal0).pix p) = U.reverse.map fun c => c.pix p := by
    apply List.ext_getElem
    · simp
    · intro i g1 g2
      have hi : i < U.reverse.length := by simpa using g2
      simp only [List.getElem_map, List.getElem_range, List.getD_eq_getElem?_getD, List.getElem?_eq_getElem hi, Option.getD_some]
  rw [h2] at h1
  exact h1.trans ((List.reverse_perm U).map _)
theorem pix_mem {U : List Cal} {Y : List Nat} (h : Order U.reverse Y) (h0 : U ≠ []) (p : Nat) : pixV U.reverse Y p ∈ xsP U p := by
  have hl : Y.length = U.length := by rw [h.1.length_eq, List.length_range, List.length_reverse]
  have hU : 0 < U.length := List.length_pos_iff.2 h0
  have h1 : pixV U.reverse Y p ∈ (Y.take 5).map fun i => (U.reverse.getD i cal0).pix p := med_mem (by rw [List.length_map, List.length_take]; omega)
  rw [List.map_take] at h1
  exact (perm_xs h p).mem_iff.1 (List.mem_of_mem_take h1)
theorem med_most {l : List Int} (h5 : l.length = 5) {x : Int} (h3 : 3 ≤ l.count x) : med l = x := by
  have h0 : l.length ≠ 0 := by omega
  have h1 := low_k h0
  have h2 := le_split l x
  have h4 := List.countP_le_length (p := fun y => decide (y ≤ x)) (l := l)
  rcases Int.lt_trichotomy (med l) x with h | h | h
  · have := le_mono l h
    omega
  · exact h
  · have := below_k h0 h
    omega
theorem pix_most {U : List Cal} {Y : List Nat} (h : Order U.reverse Y) (h5 : U.length = 5) {p : Nat} {x : Int} (h3 : 3 ≤ (xsP U p).count x) : pixV U.reverse Y p = x := by
  have hl : Y.length = U.length := by rw [h.1.length_eq, List.length_range, List.length_reverse]
  rw [pixV, List.take_of_length_le (by omega), med_perm (perm_xs h p)]
  exact med_most (by rw [xsP_len]; exact h5) h3
theorem aload_sub9 {H : Hp} {b o : Nat} {c : Cal} (h : aload H ⟨b, o, none⟩ 9 = some c.cells) : aload H ⟨b, o + 5, none⟩ 4 = some c.pd := by
  cases hg : H.get b with
  | dead => simp [aload, hg] at h
  | row cs own k =>
    simp only [aload, hg] at h ⊢
    split at h
    · rename_i hl
      injection h with h
      have e : (cs.drop (o + 5)).take 4 = (((cs.drop o).take 9).drop 5).take 4 := by
        rw [List.drop_take, List.take_take, List.drop_drop]; rfl
      rw [if_pos (by omega), e, h]
      rfl
    · cases h
theorem n6 : Try.f6.ntmps = 163 := rfl
theorem ret6 : Try.f6.results = #[.tmp 12] := rfl
theorem robust_law (H : Hp) (a : Option Addr) (l : List Cal) (wk wt wf wa wn : Int) (he : Elems H a 9 (l.map Cal.cells)) :
    ACalls Try.prog 6 [.slice a l.length l.length, .int .i64 wk, .int .i64 wt, .int .i64 wf, .int .i64 wa, .int .i64 wn] H (fun v H' => v = .bool true) := by
  have hap := fun G c => app15_spec G c ⟨wk, wt, wf, wa, wn⟩
  refine ACalls_enter Try.func6 (by kernel_rfl) rfl (by kernel_rfl) (by simp [n6]) fun hw hr => AWP_of_awp ?_
  simp -implicitDefEqProofs (maxSteps := 2000000) (disch := first | omega | (simp only [nx_new, nx_set, List.length_cons, List.length_nil, List.length_map, List.length_set, ne_eq, not_true_eq_false, not_false_eq_true, Nat.succ_ne_zero]; done) | (simp only [nx_new, nx_set, List.length_cons, List.length_nil, List.length_map, List.length_set, ne_eq, not_true_eq_false, not_false_eq_true, Nat.succ_ne_zero]; omega)) only [go_sem, reduceIte, reduceCtorEq, Nat.succ_ne_zero, not_false_eq_true, decide_true, decide_false, Nat.reduceAdd, Nat.reduceMul, Nat.reduceEqDiff, Nat.reduceLeDiff]
  refine (head_spec H).mono ?_
  rintro _ G0 ⟨rfl, k0⟩
  simp -implicitDefEqProofs (maxSteps := 2000000) (disch := first | omega | (simp only [nx_new, nx_set, List.length_cons, List.length_nil, List.length_map, List.length_set, ne_eq, not_true_eq_false, not_false_eq_true, Nat.succ_ne_zero]; done) | (simp only [nx_new, nx_set, List.length_cons, List.length_nil, List.length_map, List.length_set, ne_eq, not_true_eq_false, not_false_eq_true, Nat.succ_ne_zero]; omega)) only [go_sem, reduceIte, reduceCtorEq, Nat.succ_ne_zero, not_false_eq_true, decide_true, decide_false, Nat.reduceAdd, Nat.reduceMul, Nat.reduceEqDiff, Nat.reduceLeDiff]
  refine ACalls.use_eq (few_spec _ _ _) ?_
  cases hfew : decide ((l.length : Int) ≤ 20) with
  | false =>
    simp -implicitDefEqProofs (maxSteps := 2000000) (disch := first | omega | (simp only [nx_new, nx_set, List.length_cons, List.length_nil, List.length_map, List.length_set, ne_eq, not_true_eq_false, not_false_eq_true, Nat.succ_ne_zero]; done) | (simp only [nx_new, nx_set, List.length_cons, List.length_nil, List.length_map, List.length_set, ne_eq, not_true_eq_false, not_false_eq_true, Nat.succ_ne_zero]; omega)) only [go_sem, reduceIte, reduceCtorEq, Nat.succ_ne_zero, not_false_eq_true, decide_true, decide_false, Nat.reduceAdd, Nat.reduceMul, Nat.reduceEqDiff, Nat.reduceLeDiff]
    exact ret_r (v := .bool true) (by rw [ares_tmp ret6]; rfl) rfl
  | true =>
    have hl : l.length ≤ 20 := by have := of_decide_eq_true hfew; omega
    have hul : (usedL l ⟨wk, wt, wf, wa, wn⟩).length ≤ 20 := by
      refine Nat.le_trans (List.length_filter_le _ _) ?_
      rw [List.length_reverse]; exact hl
    simp -implicitDefEqProofs (maxSteps := 2000000) (disch := first | omega | (simp only [nx_new, nx_set, List.length_cons, List.length_nil, List.length_map, List.length_set, ne_eq, not_true_eq_false, not_false_eq_true, Nat.succ_ne_zero]; done) | (simp only [nx_new, nx_set, List.length_cons, List.length_nil, List.length_map, List.length_set, ne_eq, not_true_eq_false, not_false_eq_true, Nat.succ_ne_zero]; omega)) only [go_sem, reduceIte, reduceCtorEq, Nat.succ_ne_zero, not_false_eq_true, decide_true, decide_false, Nat.reduceAdd, Nat.reduceMul, Nat.reduceEqDiff, Nat.reduceLeDiff]
    refine (master_spec G0 a l ⟨wk, wt, wf, wa, wn⟩ (by omega) hul (he.grows k0.grows)).mono ?_
    rintro v1 G1 ⟨m1, k1⟩
    rcases m1 with ⟨_, rfl⟩ | ⟨_, _, rfl⟩ | ⟨_, hun, Y, hY, rfl⟩
    · simp only [pxs]
      simp -implicitDefEqProofs (maxSteps := 2000000) (disch := first | omega | (simp only [nx_new, nx_set, List.length_cons, List.length_nil, List.length_map, List.length_set, ne_eq, not_true_eq_false, not_false_eq_true, Nat.succ_ne_zero]; done) | (simp only [nx_new, nx_set, List.length_cons, List.length_nil, List.length_map, List.length_set, ne_eq, not_true_eq_false, not_false_eq_true, Nat.succ_ne_zero]; omega)) only [go_sem, reduceIte, reduceCtorEq, Nat.succ_ne_zero, not_false_eq_true, decide_true, decide_false, Nat.reduceAdd, Nat.reduceMul, Nat.reduceEqDiff, Nat.reduceLeDiff]
      exact ret_r (v := .bool true) (by rw [ares_tmp ret6]; rfl) rfl
    · simp only [pxs]
      simp -implicitDefEqProofs (maxSteps := 2000000) (disch := first | omega | (simp only [nx_new, nx_set, List.length_cons, List.length_nil, List.length_map, List.length_set, ne_eq, not_true_eq_false, not_false_eq_true, Nat.succ_ne_zero]; done) | (simp only [nx_new, nx_set, List.length_cons, List.length_nil, List.length_map, List.length_set, ne_eq, not_true_eq_false, not_false_eq_true, Nat.succ_ne_zero]; omega)) only [go_sem, reduceIte, reduceCtorEq, Nat.succ_ne_zero, not_false_eq_true, decide_true, decide_false, Nat.reduceAdd, Nat.reduceMul, Nat.reduceEqDiff, Nat.reduceLeDiff]
      exact ret_r (v := .bool true) (by rw [ares_tmp ret6]; rfl) rfl
    rw [used_U] at hun hY ⊢
    have hU0 : l.filter (Want.app ⟨wk, wt, wf, wa, wn⟩) ≠ [] := fun h => hun (by rw [h]; rfl)
    have hmem := pix_mem hY hU0
    have hmost := fun h5 p x => @pix_most _ Y hY h5 p x
    generalize pixV (l.filter (Want.app ⟨wk, wt, wf, wa, wn⟩)).reverse Y = A at *
    simp only [pxs]
    simp -implicitDefEqProofs (maxSteps := 2000000) (disch := first | omega | (simp only [nx_new, nx_set, List.length_cons, List.length_nil, List.length_map, List.length_set, ne_eq, not_true_eq_false, not_false_eq_true, Nat.succ_ne_zero]; done) | (simp only [nx_new, nx_set, List.length_cons, List.length_nil, List.length_map, List.length_set, ne_eq, not_true_eq_false, not_false_eq_true, Nat.succ_ne_zero]; omega)) only [go_sem, reduceIte, reduceCtorEq, Nat.succ_ne_zero, not_false_eq_true, decide_true, decide_false, Nat.reduceAdd, Nat.reduceMul, Nat.reduceEqDiff, Nat.reduceLeDiff]
    obtain ⟨G2, e2⟩ : ∃ X, X = G1.new (.row [.int .i64 (A 0), .int .i64 (A 1), .int .i64 (A 2), .int .i64 (A 3)] true 0) := ⟨_, rfl⟩
    rw [← e2]
    have k2 : Keeps G1 G2 := by rw [e2]; exact Keeps.new _ _
    have g2 : G2.get G1.next = .row (pixR A 4) true 0 := by rw [e2]; exact Hp.get_new_same _ _ _ rfl
    have n2 : G2.next = G1.next + 1 := by rw [e2]; rfl
    clear e2
    have he2 := ((he.grows k0.grows).grows k1.grows).grows k2.grows
    refine AWP_loop (σ := Nat × Hp × Option Addr) (fun s => [(17, .int .i64 s.1), (16, .slice s.2.2 ((l.take s.1).filter (Want.app ⟨wk, wt, wf, wa, wn⟩)).length ((l.take s.1).filter (Want.app ⟨wk, wt, wf, wa, wn⟩)).length), (14, .pointer (some ⟨G1.next, 0, none⟩)), (13, .bool true), (0, .slice a l.length l.length), (1, .int .i64 wk), (2, .int .i64 wt), (3, .int .i64 wf), (4, .int .i64 wa), (5, .int .i64 wn)]) (fun s => s.2.1)
      (fun s => s.1 ≤ l.length ∧ Keeps G2 s.2.1 ∧ OwnSl G2.next s.2.1 s.2.2 4 (((l.take s.1).filter (Want.app ⟨wk, wt, wf, wa, wn⟩)).map Cal.pd).flatten) (fun s => l.length - s.1) (0, G2, none) ⟨Nat.zero_le _, Keeps.refl _, OwnSl.none⟩ (Weak.sub ?_) ?_
    · simp only [List.take_zero, List.filter_nil]
      (simp -implicitDefEqProofs (disch := omega) only [Abs.Sub, get_cons_eq, get_cons_ne, and_self, Option.some.injEq, Value.int.injEq, Value.slice.injEq, true_and, and_true, Int.natCast_zero, Int.natCast_add, Int.natCast_one, List.length_nil]; try omega)
    rintro ⟨i, G, o⟩ ⟨hi, hk, ho⟩
    simp only at hi hk ho ⊢
    refine AWP_of_awp ?_
    have hkn := hk.next
    by_cases hlt : i < l.length
    · obtain ⟨b0, o0, rfl, hload⟩ := cal_at (he2.grows hk.grows) i hlt
      have htk := List.take_succ_eq_append_getElem hlt
      have hld : ∀ X, Keeps G2 X → aload X ⟨b0, o0 + i * 9 + 5, none⟩ 4 = some l[i].pd := fun X hX => by
        obtain ⟨b', o', e', hl'⟩ := cal_at (he2.grows hX.grows) i hlt
        cases e'
        exact aload_sub9 hl'
      generalize l[i] = c at *
      have hac := hap G c
      rw [cal_agg] at hac
      rw [Cal.cells] at hload
      have kg : Keeps G (G.new (.row c.cells true 0)) := Keeps.new _ _
      generalize G.new (.row c.cells true 0) = M at *
      have kM := hk.trans kg
      simp -implicitDefEqProofs (maxSteps := 2000000) (disch := first | omega | (simp only [nx_new, nx_set, List.length_cons, List.length_nil, List.length_map, List.length_set, ne_eq, not_true_eq_false, not_false_eq_true, Nat.succ_ne_zero]; done) | (simp only [nx_new, nx_set, List.length_cons, List.length_nil, List.length_map, List.length_set, ne_eq, not_true_eq_false, not_false_eq_true, Nat.succ_ne_zero]; omega)) only [go_sem, reduceIte, reduceCtorEq, Nat.succ_ne_zero, not_false_eq_true, decide_true, decide_false, Nat.reduceAdd, Nat.reduceMul, Nat.reduceEqDiff, Nat.reduceLeDiff, hload]
      refine ACalls.use_eq hac ?_
      cases hwa : Want.app ⟨wk, wt, wf, wa, wn⟩ c with
      | false =>
        have hft : (l.take (i + 1)).filter (Want.app ⟨wk, wt, wf, wa, wn⟩) = (l.take i).filter (Want.app ⟨wk, wt, wf, wa, wn⟩) := by
          rw [htk, List.filter_append]; simp [hwa]
        simp -implicitDefEqProofs (maxSteps := 2000000) (disch := first | omega | (simp only [nx_new, nx_set, List.length_cons, List.length_nil, List.length_map, List.length_set, ne_eq, not_true_eq_false, not_false_eq_true, Nat.succ_ne_zero]; done) | (simp only [nx_new, nx_set, List.length_cons, List.length_nil, List.length_map, List.length_set, ne_eq, not_true_eq_false, not_false_eq_true, Nat.succ_ne_zero]; omega)) only [go_sem, reduceIte, reduceCtorEq, Nat.succ_ne_zero, not_false_eq_true, decide_true, decide_false, Nat.reduceAdd, Nat.reduceMul, Nat.reduceEqDiff, Nat.reduceLeDiff]
        exact ⟨(i + 1, M, o), ⟨hlt, kM, by simp only [hft]; exact ho.keeps kg⟩, by simp only; omega, Weak.sub (by simp only [hft]; (simp -implicitDefEqProofs (disch := omega) only [Abs.Sub, get_cons_eq, get_cons_ne, and_self, Option.some.injEq, Value.int.injEq, Value.slice.injEq, true_and, and_true, Int.natCast_zero, Int.natCast_add, Int.natCast_one, List.length_nil]; try omega))⟩
      | true =>
        have hft : (l.take (i + 1)).filter (Want.app ⟨wk, wt, wf, wa, wn⟩) = (l.take i).filter (Want.app ⟨wk, wt, wf, wa, wn⟩) ++ [c] := by
          rw [htk, List.filter_append]; simp [hwa]
        have hul2 : ((l.take i).filter (Want.app ⟨wk, wt, wf, wa, wn⟩)).length ≤ 20 := by
          refine Nat.le_trans (List.length_filter_le _ _) ?_
          rw [List.length_take]; omega
        have hpv := hld M kM
        rw [Cal.pd] at hpv
        have ho2 := ho.keeps kg
        generalize (l.take i).filter (Want.app ⟨wk, wt, wf, wa, wn⟩) = U at *
        simp -implicitDefEqProofs (maxSteps := 2000000) (disch := first | omega | (simp only [nx_new, nx_set, List.length_cons, List.length_nil, List.length_map, List.length_set, ne_eq, not_true_eq_false, not_false_eq_true, Nat.succ_ne_zero]; done) | (simp only [nx_new, nx_set, List.length_cons, List.length_nil, List.length_map, List.length_set, ne_eq, not_true_eq_false, not_false_eq_true, Nat.succ_ne_zero]; omega)) only [go_sem, reduceIte, reduceCtorEq, Nat.succ_ne_zero, not_false_eq_true, decide_true, decide_false, Nat.reduceAdd, Nat.reduceMul, Nat.reduceEqDiff, Nat.reduceLeDiff, hpv]
        obtain ⟨M3, hap3, hn3, hg3, hold⟩ := append_own (P := Try.prog) u37 u37 ts27 tb27 tz27 rfl (by decide) (by decide) (G := M.new (.row c.pd true 4)) (lo := G2.next) (n := U.length) (c := U.length) (m := 1) (c' := 1) (r := M.next) (ro := 0) (xs := c.pd) (ho2.keeps (Keeps.new _ _))
          (by rw [Cal.pd]; simp -implicitDefEqProofs (maxSteps := 2000000) (disch := first | omega | (simp only [nx_new, nx_set, List.length_cons, List.length_nil, List.length_map, List.length_set, ne_eq, not_true_eq_false, not_false_eq_true, Nat.succ_ne_zero]; done) | (simp only [nx_new, nx_set, List.length_cons, List.length_nil, List.length_map, List.length_set, ne_eq, not_true_eq_false, not_false_eq_true, Nat.succ_ne_zero]; omega)) only [go_sem, reduceIte, reduceCtorEq, Nat.succ_ne_zero, not_false_eq_true, decide_true, decide_false, Nat.reduceAdd, Nat.reduceMul, Nat.reduceEqDiff, Nat.reduceLeDiff]) rfl (by decide) (pd_flat U) (by omega)
        rw [Cal.pd] at hap3
        rw [hap3]
        have hn3' : M3.next = M.next + 1 + 1 := hn3
        have hg3' : M3.get (M.next + 1) = .row ((U.map Cal.pd).flatten ++ c.pd) true 4 := hg3
        have hkM := kM.next
        simp -implicitDefEqProofs (maxSteps := 2000000) (disch := first | omega | (simp only [nx_new, nx_set, List.length_cons, List.length_nil, List.length_map, List.length_set, ne_eq, not_true_eq_false, not_false_eq_true, Nat.succ_ne_zero]; done) | (simp only [nx_new, nx_set, List.length_cons, List.length_nil, List.length_map, List.length_set, ne_eq, not_true_eq_false, not_false_eq_true, Nat.succ_ne_zero]; omega)) only [go_sem, reduceIte, reduceCtorEq, Nat.succ_ne_zero, not_false_eq_true, decide_true, decide_false, Nat.reduceAdd, Nat.reduceMul, Nat.reduceEqDiff, Nat.reduceLeDiff]
        refine ⟨(i + 1, M3, some ⟨M.next + 1, 0, none⟩), ⟨hlt, ⟨by simp only; omega, fun b hb => ?_⟩, .inr ⟨M.next + 1, rfl, by omega, by simp only; omega, ?_⟩⟩, by simp only; omega, Weak.sub (by simp only [hft, List.length_append, List.length_singleton]; (simp -implicitDefEqProofs (disch := omega) only [Abs.Sub, get_cons_eq, get_cons_ne, and_self, Option.some.injEq, Value.int.injEq, Value.slice.injEq, true_and, and_true, Int.natCast_zero, Int.natCast_add, Int.natCast_one, List.length_nil]; try omega))⟩
        · rw [hold b (by simp only [Hp.next_new]; omega) (ho2.lo_ne hb), Hp.get_new_ne _ _ _ (by omega)]
          exact kM.get b hb
        · rw [hg3', hft, List.map_append, List.flatten_append]; simp
    · obtain rfl : i = l.length := by omega
      rw [List.take_of_length_le (Nat.le_refl _)] at ho ⊢
      have hUl : (l.filter (Want.app ⟨wk, wt, wf, wa, wn⟩)).length ≤ 20 := Nat.le_trans (List.length_filter_le _ _) hl
      generalize l.filter (Want.app ⟨wk, wt, wf, wa, wn⟩) = U at *
      have hU : 0 < U.length := List.length_pos_iff.2 hU0
      have hel := ho.elems (pd_len U) (by decide)
      have hx : ∀ (p j : Nat), p < 4 → (hj : j < U.length) → ∃ b ob, o = some ⟨b, ob, none⟩ ∧ load1 G ⟨b, ob + j * 4 + p, none⟩ = some (.int .i64 ((xsP U p).getD j 0)) := fun p j hp hj => by
        obtain ⟨b, ob, e, hb, hld⟩ := hel j (by rw [List.length_map]; exact hj)
        refine ⟨b, ob, e, ?_⟩
        rw [load1_part hld hp, List.getElem_map, pd_cell _ hp]
        simp [xsP, List.getD_eq_getElem?_getD, List.getElem?_eq_getElem hj]
      have gA : ∀ p, p < 4 → load1 G ⟨G1.next, p, none⟩ = some (.int .i64 (A p)) := fun p hp => by
        rw [l1_row _ _ _ _ _ ((hk.get _ (by omega)).trans g2)]
        exact pixR_get A hp
      obtain ⟨b, ob, eo, q0⟩ := hx 0 0 (by decide) hU
      subst eo
      have hxx : ∀ (p j : Nat), p < 4 → (hj : j < U.length) → load1 G ⟨b, ob + j * 4 + p, none⟩ = some (.int .i64 ((xsP U p).getD j 0)) := fun p j hp hj => by
        obtain ⟨b', ob', e', h'⟩ := hx p j hp hj
        cases e'; exact h'
      simp -implicitDefEqProofs (maxSteps := 2000000) (disch := first | omega | (simp only [nx_new, nx_set, List.length_cons, List.length_nil, List.length_map, List.length_set, ne_eq, not_true_eq_false, not_false_eq_true, Nat.succ_ne_zero]; done) | (simp only [nx_new, nx_set, List.length_cons, List.length_nil, List.length_map, List.length_set, ne_eq, not_true_eq_false, not_false_eq_true, Nat.succ_ne_zero]; omega)) only [go_sem, reduceIte, reduceCtorEq, Nat.succ_ne_zero, not_false_eq_true, decide_true, decide_false, Nat.reduceAdd, Nat.reduceMul, Nat.reduceEqDiff, Nat.reduceLeDiff]
      refine AWP_loop (σ := Nat) (fun p => [(18, .int .i64 p), (16, .slice (some ⟨b, ob, none⟩) U.length U.length), (14, .pointer (some ⟨G1.next, 0, none⟩)), (13, .bool true)]) (fun _ => G) (fun p => p ≤ 4) (fun p => 4 - p) 0 (Nat.zero_le _) (Weak.sub ?_) ?_
      · (simp -implicitDefEqProofs (disch := omega) only [Abs.Sub, get_cons_eq, get_cons_ne, and_self, Option.some.injEq, Value.int.injEq, Value.slice.injEq, true_and, and_true, Int.natCast_zero, Int.natCast_add, Int.natCast_one, List.length_nil]; try omega)
      intro p hp
      refine AWP_of_awp ?_
      by_cases hp4 : p < 4
      · have x0 := hxx p 0 hp4 hU
        rw [Nat.zero_mul, Nat.add_zero] at x0
        have xj := fun j hj => hxx p j hp4 hj
        have hA := gA p hp4
        have hmp := hmem p
        have hmo := fun h5 x => hmost h5 p x
        have hxl := xsP_len U p
        generalize xsP U p = xs at *
        generalize A p = Ap at *
        simp -implicitDefEqProofs (maxSteps := 2000000) (disch := first | omega | (simp only [nx_new, nx_set, List.length_cons, List.length_nil, List.length_map, List.length_set, ne_eq, not_true_eq_false, not_false_eq_true, Nat.succ_ne_zero]; done) | (simp only [nx_new, nx_set, List.length_cons, List.length_nil, List.length_map, List.length_set, ne_eq, not_true_eq_false, not_false_eq_true, Nat.succ_ne_zero]; omega)) only [go_sem, reduceIte, reduceCtorEq, Nat.succ_ne_zero, not_false_eq_true, decide_true, decide_false, Nat.reduceAdd, Nat.reduceMul, Nat.reduceEqDiff, Nat.reduceLeDiff]
        refine AWP_draw_fast mo (by kernel_rfl) ?_
        simp -implicitDefEqProofs (maxSteps := 2000000) (disch := first | omega | (simp only [nx_new, nx_set, List.length_cons, List.length_nil, List.length_map, List.length_set, ne_eq, not_true_eq_false, not_false_eq_true, Nat.succ_ne_zero]; done) | (simp only [nx_new, nx_set, List.length_cons, List.length_nil, List.length_map, List.length_set, ne_eq, not_true_eq_false, not_false_eq_true, Nat.succ_ne_zero]; omega)) only [go_sem, reduceIte, reduceCtorEq, Nat.succ_ne_zero, not_false_eq_true, decide_true, decide_false, Nat.reduceAdd, Nat.reduceMul, Nat.reduceEqDiff, Nat.reduceLeDiff, x0]
        refine AWP_loop (σ := Nat × Int × Int) (fun s => [(21, .int .i64 s.1), (19, .int .i64 s.2.1), (20, .int .i64 s.2.2), (18, .int .i64 p), (16, .slice (some ⟨b, ob, none⟩) U.length U.length), (14, .pointer (some ⟨G1.next, 0, none⟩)), (13, .bool true)]) (fun _ => G)
          (fun s => s.1 ≤ U.length ∧ ∀ j : Nat, j < s.1 → s.2.1 ≤ xs.getD j 0 ∧ xs.getD j 0 ≤ s.2.2) (fun s => U.length - s.1) (0, xs.getD 0 0, xs.getD 0 0) ⟨Nat.zero_le _, fun j h => by simp only at h; omega⟩ (Weak.sub ?_) ?_
        · (simp -implicitDefEqProofs (disch := omega) only [Abs.Sub, get_cons_eq, get_cons_ne, and_self, Option.some.injEq, Value.int.injEq, Value.slice.injEq, true_and, and_true, Int.natCast_zero, Int.natCast_add, Int.natCast_one, List.length_nil]; try omega)
        rintro ⟨i, lo, hi2⟩ ⟨hiU, hbnd⟩
        simp only at hiU hbnd ⊢
        refine AWP_of_awp ?_
        by_cases hiL : i < U.length
        · have xi := xj i hiL
          have hmi := fun h5 => hmo h5 (xs.getD i 0)
          have hnew : ∀ j : Nat, j < i + 1 → min lo (xs.getD i 0) ≤ xs.getD j 0 ∧ xs.getD j 0 ≤ max hi2 (xs.getD i 0) := fun j hj => by
            rcases Nat.lt_or_ge j i with h3 | h3
            · have := hbnd j h3; omega
            · obtain rfl : j = i := by omega
              omega
          generalize ey : xs.getD i 0 = y at *
          simp -implicitDefEqProofs (maxSteps := 2000000) (disch := first | omega | (simp only [nx_new, nx_set, List.length_cons, List.length_nil, List.length_map, List.length_set, ne_eq, not_true_eq_false, not_false_eq_true, Nat.succ_ne_zero]; done) | (simp only [nx_new, nx_set, List.length_cons, List.length_nil, List.length_map, List.length_set, ne_eq, not_true_eq_false, not_false_eq_true, Nat.succ_ne_zero]; omega)) only [go_sem, reduceIte, reduceCtorEq, Nat.succ_ne_zero, not_false_eq_true, decide_true, decide_false, Nat.reduceAdd, Nat.reduceMul, Nat.reduceEqDiff, Nat.reduceLeDiff]
          refine AWP_draw_fast mo (by kernel_rfl) ?_
          simp -implicitDefEqProofs (maxSteps := 2000000) (disch := first | omega | (simp only [nx_new, nx_set, List.length_cons, List.length_nil, List.length_map, List.length_set, ne_eq, not_true_eq_false, not_false_eq_true, Nat.succ_ne_zero]; done) | (simp only [nx_new, nx_set, List.length_cons, List.length_nil, List.length_map, List.length_set, ne_eq, not_true_eq_false, not_false_eq_true, Nat.succ_ne_zero]; omega)) only [go_sem, reduceIte, reduceCtorEq, Nat.succ_ne_zero, not_false_eq_true, decide_true, decide_false, Nat.reduceAdd, Nat.reduceMul, Nat.reduceEqDiff, Nat.reduceLeDiff, xi]
          refine AWP_loop (σ := Nat) (fun k => [(23, .int .i64 k), (22, .int .i64 ((xs.take k).count y)), (21, .int .i64 i), (19, .int .i64 (min lo y)), (20, .int .i64 (max hi2 y)), (18, .int .i64 p), (16, .slice (some ⟨b, ob, none⟩) U.length U.length), (14, .pointer (some ⟨G1.next, 0, none⟩)), (13, .bool true)]) (fun _ => G)
            (fun k => k ≤ U.length) (fun k => U.length - k) 0 (Nat.zero_le _) (Weak.sub ?_) ?_
          · simp only [List.take_zero, List.count_nil]
            (simp -implicitDefEqProofs (disch := omega) only [Abs.Sub, get_cons_eq, get_cons_ne, and_self, Option.some.injEq, Value.int.injEq, Value.slice.injEq, true_and, and_true, Int.natCast_zero, Int.natCast_add, Int.natCast_one, List.length_nil]; try omega)
          intro k hk2
          refine AWP_of_awp ?_
          have hcl := List.count_le_length (a := y) (l := xs.take k)
          rw [List.length_take] at hcl
          by_cases hkL : k < U.length
          · have xk := xj k hkL
            have hkx : k < xs.length := by omega
            have hcs : (xs.take (k + 1)).count y = (xs.take k).count y + if xs.getD k 0 == y then 1 else 0 := by
              rw [List.take_succ_eq_append_getElem hkx, List.count_append, List.getD_eq_getElem?_getD, List.getElem?_eq_getElem hkx]; simp [List.count_cons]
            generalize xs.getD k 0 = z at *
            simp -implicitDefEqProofs (maxSteps := 2000000) (disch := first | omega | (simp only [nx_new, nx_set, List.length_cons, List.length_nil, List.length_map, List.length_set, ne_eq, not_true_eq_false, not_false_eq_true, Nat.succ_ne_zero]; done) | (simp only [nx_new, nx_set, List.length_cons, List.length_nil, List.length_map, List.length_set, ne_eq, not_true_eq_false, not_false_eq_true, Nat.succ_ne_zero]; omega)) only [go_sem, reduceIte, reduceCtorEq, Nat.succ_ne_zero, not_false_eq_true, decide_true, decide_false, Nat.reduceAdd, Nat.reduceMul, Nat.reduceEqDiff, Nat.reduceLeDiff]
            refine AWP_draw_fast mo (by kernel_rfl) ?_
            cases hzy : (z == y) with
            | true =>
              rw [hzy, if_pos rfl] at hcs
              simp -implicitDefEqProofs (maxSteps := 2000000) (disch := first | omega | (simp only [nx_new, nx_set, List.length_cons, List.length_nil, List.length_map, List.length_set, ne_eq, not_true_eq_false, not_false_eq_true, Nat.succ_ne_zero]; done) | (simp only [nx_new, nx_set, List.length_cons, List.length_nil, List.length_map, List.length_set, ne_eq, not_true_eq_false, not_false_eq_true, Nat.succ_ne_zero]; omega)) only [go_sem, reduceIte, reduceCtorEq, Nat.succ_ne_zero, not_false_eq_true, decide_true, decide_false, Nat.reduceAdd, Nat.reduceMul, Nat.reduceEqDiff, Nat.reduceLeDiff, xi, xk, hzy]
              exact ⟨k + 1, hkL, by omega, Weak.sub (by simp only [hcs]; (simp -implicitDefEqProofs (disch := omega) only [Abs.Sub, get_cons_eq, get_cons_ne, and_self, Option.some.injEq, Value.int.injEq, Value.slice.injEq, true_and, and_true, Int.natCast_zero, Int.natCast_add, Int.natCast_one, List.length_nil]; try omega))⟩
            | false =>
              rw [hzy, if_neg (by decide)] at hcs
              simp -implicitDefEqProofs (maxSteps := 2000000) (disch := first | omega | (simp only [nx_new, nx_set, List.length_cons, List.length_nil, List.length_map, List.length_set, ne_eq, not_true_eq_false, not_false_eq_true, Nat.succ_ne_zero]; done) | (simp only [nx_new, nx_set, List.length_cons, List.length_nil, List.length_map, List.length_set, ne_eq, not_true_eq_false, not_false_eq_true, Nat.succ_ne_zero]; omega)) only [go_sem, reduceIte, reduceCtorEq, Nat.succ_ne_zero, not_false_eq_true, decide_true, decide_false, Nat.reduceAdd, Nat.reduceMul, Nat.reduceEqDiff, Nat.reduceLeDiff, xi, xk, hzy]
              exact ⟨k + 1, hkL, by omega, Weak.sub (by simp only [hcs, Nat.add_zero]; (simp -implicitDefEqProofs (disch := omega) only [Abs.Sub, get_cons_eq, get_cons_ne, and_self, Option.some.injEq, Value.int.injEq, Value.slice.injEq, true_and, and_true, Int.natCast_zero, Int.natCast_add, Int.natCast_one, List.length_nil]; try omega))⟩
          · obtain rfl : k = U.length := by omega
            have e : xs.take U.length = xs := List.take_of_length_le (by omega)
            rw [e] at hcl ⊢
            simp -implicitDefEqProofs (maxSteps := 2000000) (disch := first | omega | (simp only [nx_new, nx_set, List.length_cons, List.length_nil, List.length_map, List.length_set, ne_eq, not_true_eq_false, not_false_eq_true, Nat.succ_ne_zero]; done) | (simp only [nx_new, nx_set, List.length_cons, List.length_nil, List.length_map, List.length_set, ne_eq, not_true_eq_false, not_false_eq_true, Nat.succ_ne_zero]; omega)) only [go_sem, reduceIte, reduceCtorEq, Nat.succ_ne_zero, not_false_eq_true, decide_true, decide_false, Nat.reduceAdd, Nat.reduceMul, Nat.reduceEqDiff, Nat.reduceLeDiff]
            refine AWP_draw_fast mo (by kernel_rfl) ?_
            by_cases h5 : U.length = 5
            · by_cases h3 : 3 ≤ xs.count y
              · have hne : (Ap != y) = false := by rw [hmi h5 h3]; simp
                simp -implicitDefEqProofs (maxSteps := 2000000) (disch := first | omega | (simp only [nx_new, nx_set, List.length_cons, List.length_nil, List.length_map, List.length_set, ne_eq, not_true_eq_false, not_false_eq_true, Nat.succ_ne_zero]; done) | (simp only [nx_new, nx_set, List.length_cons, List.length_nil, List.length_map, List.length_set, ne_eq, not_true_eq_false, not_false_eq_true, Nat.succ_ne_zero]; omega)) only [go_sem, reduceIte, reduceCtorEq, Nat.succ_ne_zero, not_false_eq_true, decide_true, decide_false, Nat.reduceAdd, Nat.reduceMul, Nat.reduceEqDiff, Nat.reduceLeDiff, xi, hA, hne]
                exact ⟨(i + 1, min lo y, max hi2 y), ⟨hiL, hnew⟩, by simp only; omega, Weak.sub (by (simp -implicitDefEqProofs (disch := omega) only [Abs.Sub, get_cons_eq, get_cons_ne, and_self, Option.some.injEq, Value.int.injEq, Value.slice.injEq, true_and, and_true, Int.natCast_zero, Int.natCast_add, Int.natCast_one, List.length_nil]; try omega))⟩
              · simp -implicitDefEqProofs (maxSteps := 2000000) (disch := first | omega | (simp only [nx_new, nx_set, List.length_cons, List.length_nil, List.length_map, List.length_set, ne_eq, not_true_eq_false, not_false_eq_true, Nat.succ_ne_zero]; done) | (simp only [nx_new, nx_set, List.length_cons, List.length_nil, List.length_map, List.length_set, ne_eq, not_true_eq_false, not_false_eq_true, Nat.succ_ne_zero]; omega)) only [go_sem, reduceIte, reduceCtorEq, Nat.succ_ne_zero, not_false_eq_true, decide_true, decide_false, Nat.reduceAdd, Nat.reduceMul, Nat.reduceEqDiff, Nat.reduceLeDiff]
                exact ⟨(i + 1, min lo y, max hi2 y), ⟨hiL, hnew⟩, by simp only; omega, Weak.sub (by (simp -implicitDefEqProofs (disch := omega) only [Abs.Sub, get_cons_eq, get_cons_ne, and_self, Option.some.injEq, Value.int.injEq, Value.slice.injEq, true_and, and_true, Int.natCast_zero, Int.natCast_add, Int.natCast_one, List.length_nil]; try omega))⟩
            · simp -implicitDefEqProofs (maxSteps := 2000000) (disch := first | omega | (simp only [nx_new, nx_set, List.length_cons, List.length_nil, List.length_map, List.length_set, ne_eq, not_true_eq_false, not_false_eq_true, Nat.succ_ne_zero]; done) | (simp only [nx_new, nx_set, List.length_cons, List.length_nil, List.length_map, List.length_set, ne_eq, not_true_eq_false, not_false_eq_true, Nat.succ_ne_zero]; omega)) only [go_sem, reduceIte, reduceCtorEq, Nat.succ_ne_zero, not_false_eq_true, decide_true, decide_false, Nat.reduceAdd, Nat.reduceMul, Nat.reduceEqDiff, Nat.reduceLeDiff]
              exact ⟨(i + 1, min lo y, max hi2 y), ⟨hiL, hnew⟩, by simp only; omega, Weak.sub (by (simp -implicitDefEqProofs (disch := omega) only [Abs.Sub, get_cons_eq, get_cons_ne, and_self, Option.some.injEq, Value.int.injEq, Value.slice.injEq, true_and, and_true, Int.natCast_zero, Int.natCast_add, Int.natCast_one, List.length_nil]; try omega))⟩
        · obtain ⟨j, hj, hje⟩ := List.getElem_of_mem hmp
          have hb2 := hbnd j (by omega)
          rw [List.getD_eq_getElem?_getD, List.getElem?_eq_getElem hj, Option.getD_some, hje] at hb2
          simp -implicitDefEqProofs (maxSteps := 2000000) (disch := first | omega | (simp only [nx_new, nx_set, List.length_cons, List.length_nil, List.length_map, List.length_set, ne_eq, not_true_eq_false, not_false_eq_true, Nat.succ_ne_zero]; done) | (simp only [nx_new, nx_set, List.length_cons, List.length_nil, List.length_map, List.length_set, ne_eq, not_true_eq_false, not_false_eq_true, Nat.succ_ne_zero]; omega)) only [go_sem, reduceIte, reduceCtorEq, Nat.succ_ne_zero, not_false_eq_true, decide_true, decide_false, Nat.reduceAdd, Nat.reduceMul, Nat.reduceEqDiff, Nat.reduceLeDiff, hA]
          exact ⟨p + 1, hp4, by omega, Weak.sub (by (simp -implicitDefEqProofs (disch := omega) only [Abs.Sub, get_cons_eq, get_cons_ne, and_self, Option.some.injEq, Value.int.injEq, Value.slice.injEq, true_and, and_true, Int.natCast_zero, Int.natCast_add, Int.natCast_one, List.length_nil]; try omega))⟩
      · obtain rfl : p = 4 := by omega
        simp -implicitDefEqProofs (maxSteps := 2000000) (disch := first | omega | (simp only [nx_new, nx_set, List.length_cons, List.length_nil, List.length_map, List.length_set, ne_eq, not_true_eq_false, not_false_eq_true, Nat.succ_ne_zero]; done) | (simp only [nx_new, nx_set, List.length_cons, List.length_nil, List.length_map, List.length_set, ne_eq, not_true_eq_false, not_false_eq_true, Nat.succ_ne_zero]; omega)) only [go_sem, reduceIte, reduceCtorEq, Nat.succ_ne_zero, not_false_eq_true, decide_true, decide_false, Nat.reduceAdd, Nat.reduceMul, Nat.reduceEqDiff, Nat.reduceLeDiff]
        exact ret_r (v := .bool true) (by rw [ares_tmp ret6]; rfl) rfl
end Go.Proofs.Ytejpfdhlpcgfkaa
