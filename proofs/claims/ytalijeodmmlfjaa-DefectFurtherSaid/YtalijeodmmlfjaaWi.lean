/- DefectBetween. -/
import Derived.Test.YtalijeodmmlfjaaMc
import Derived.Test.YtalijeodmmlfjaaAbsU
set_option linter.unusedVariables false
set_option linter.unusedSimpArgs false
set_option linter.unusedSectionVars false
namespace Go.Proofs.Ytalijeodmmlfjaa
open Go.Abs
set_option maxHeartbeats 8000000
set_option maxRecDepth 100000

theorem b_eqlB (a b : Bool) : abin Try.prog .eql 4 (.bool a) (.bool b) = some (.bool (a == b)) := by simp [abin, aeq, u4]
theorem ChangesL_len {l : List D} (tel one two : Int) (hl : l.length ≤ 200) : (ChangesL l tel one two).length ≤ 1000 := by
  unfold ChangesL
  split
  · rename_i h
    have h1 := (scanL_facts (in_of (by simp only [argsB, Bool.and_eq_true] at h; exact h.1.1)) tel one two ((bordL l).length - 1)).1
    have h2 := bordL_len l
    show (scanL l tel one two (bordL l) ((bordL l).length - 1)).length ≤ 1000
    omega
  · exact Nat.zero_le _
theorem argsB_iff {l : List D} {tel one two : Int} : argsB l tel one two = true ↔ (validB l = true ∧ inB 5 [tel] = true) ∧ 0 ≤ one ∧ one ≤ 38399 ∧ 0 ≤ two ∧ two ≤ 38399 := by
  simp only [argsB, Bool.and_eq_true, inB, List.all_cons, List.all_nil, Bool.and_true, decide_eq_true_eq]
  constructor
  · rintro ⟨h, ⟨a, b⟩, c, d⟩; exact ⟨h, a, b, c, d⟩
  · rintro ⟨h, a, b, c, d⟩; exact ⟨h, ⟨a, b⟩, c, d⟩
theorem errB_or (l : List D) (tel one two : Int) : (argsB l tel one two = true ∧ errB l tel one two = 0) ∨ (argsB l tel one two = false ∧ errB l tel one two = 1) := by
  unfold errB
  cases argsB l tel one two
  · exact .inr ⟨rfl, rfl⟩
  · exact .inl ⟨rfl, rfl⟩
theorem mask_ext {l : List D} {tel v v' k k' : Int} (h : ∀ i, i < 4 → (maskB l tel v k)[i]? = (maskB l tel v' k')[i]?) : maskB l tel v k = maskB l tel v' k' := by
  apply List.ext_getElem?
  intro i
  by_cases hi : i < 4
  · exact h i hi
  · rw [List.getElem?_eq_none (by rw [maskB_length]; omega), List.getElem?_eq_none (by rw [maskB_length]; omega)]
theorem mask_mid {l : List D} {tel m a b c : Int} (hab : a ≤ b) (hbc : b ≤ c) (h : maskB l tel m a = maskB l tel m c) : maskB l tel m a = maskB l tel m b := by
  refine mask_ext fun i hi => ?_
  have h1 := maskB_mono (l := l) (tel := tel) (valid := m) hab hi
  have h2 := maskB_mono (l := l) (tel := tel) (valid := m) hbc hi
  rw [← h] at h2
  rw [maskB_get _ _ _ _ hi] at h1 h2 ⊢
  rw [maskB_get _ _ _ _ hi] at h1 h2 ⊢
  simp only [Option.some.injEq] at h1 h2 ⊢
  rw [Bool.eq_iff_iff]
  exact ⟨h1, h2⟩
theorem differ_mid {l : List D} {tel m a b c : Int} (hab : a ≤ b) (hbc : b ≤ c) : differ l tel a c m ↔ differ l tel a b m ∨ differ l tel b c m := by
  unfold differ
  constructor
  · intro h
    by_cases h1 : maskB l tel m a = maskB l tel m b
    · exact .inr (by rw [← h1]; exact h)
    · exact .inl h1
  · intro h he
    have e1 := mask_mid hab hbc he
    rcases h with h | h
    · exact h e1
    · exact h (e1.symm.trans he)

theorem n8 : Try.f8.ntmps = 103 := rfl
theorem ret8 : Try.f8.results = #[.tmp 12] := rfl
theorem between_spec (H : Hp) (a : Option Addr) (l : List D) (tel one two three m : Int) (he : Elems H a 5 (l.map D.cells)) :
    ACalls Try.prog 8 [.slice a l.length l.length, .int .i64 tel, .int .i64 one, .int .i64 two, .int .i64 three, .int .i64 m] H (fun v H' => v = .bool true) := by
  refine ACalls_enter Try.func8 (by kernel_rfl) rfl (by kernel_rfl) (by simp [n8]) fun hw hr => AWP_of_awp ?_
  simp -implicitDefEqProofs (maxSteps := 2000000) (disch := first | omega | (simp only [nx_new, nx_set, List.length_cons, List.length_nil, List.length_map, List.length_set, ne_eq, not_true_eq_false, not_false_eq_true, Nat.succ_ne_zero]; done) | (simp only [nx_new, nx_set, List.length_cons, List.length_nil, List.length_map, List.length_set, ne_eq, not_true_eq_false, not_false_eq_true, Nat.succ_ne_zero]; omega)) only [go_sem, reduceIte, reduceCtorEq, Nat.succ_ne_zero, not_false_eq_true, decide_true, decide_false, Nat.reduceAdd, Nat.reduceMul, Nat.reduceEqDiff, Nat.reduceLeDiff]
  refine ACalls.use_eq (head_spec _) ?_
  simp -implicitDefEqProofs (maxSteps := 2000000) (disch := first | omega | (simp only [nx_new, nx_set, List.length_cons, List.length_nil, List.length_map, List.length_set, ne_eq, not_true_eq_false, not_false_eq_true, Nat.succ_ne_zero]; done) | (simp only [nx_new, nx_set, List.length_cons, List.length_nil, List.length_map, List.length_set, ne_eq, not_true_eq_false, not_false_eq_true, Nat.succ_ne_zero]; omega)) only [go_sem, reduceIte, reduceCtorEq, Nat.succ_ne_zero, not_false_eq_true, decide_true, decide_false, Nat.reduceAdd, Nat.reduceMul, Nat.reduceEqDiff, Nat.reduceLeDiff]
  refine condS_split (fun hc => ?_) (fun hc => ?_)
  · simp -implicitDefEqProofs (maxSteps := 2000000) (disch := first | omega | (simp only [nx_new, nx_set, List.length_cons, List.length_nil, List.length_map, List.length_set, ne_eq, not_true_eq_false, not_false_eq_true, Nat.succ_ne_zero]; done) | (simp only [nx_new, nx_set, List.length_cons, List.length_nil, List.length_map, List.length_set, ne_eq, not_true_eq_false, not_false_eq_true, Nat.succ_ne_zero]; omega)) only [go_sem, reduceIte, reduceCtorEq, Nat.succ_ne_zero, not_false_eq_true, decide_true, decide_false, Nat.reduceAdd, Nat.reduceMul, Nat.reduceEqDiff, Nat.reduceLeDiff, hc]
    exact ret_r (v := .bool true) (by rw [ares_tmp ret8]; rfl) rfl
  · have hlen : l.length ≤ 20 := by have := of_decide_eq_false hc; omega
    have hl : l.length ≤ 9223372036854775806 := by omega
    simp -implicitDefEqProofs (maxSteps := 2000000) (disch := first | omega | (simp only [nx_new, nx_set, List.length_cons, List.length_nil, List.length_map, List.length_set, ne_eq, not_true_eq_false, not_false_eq_true, Nat.succ_ne_zero]; done) | (simp only [nx_new, nx_set, List.length_cons, List.length_nil, List.length_map, List.length_set, ne_eq, not_true_eq_false, not_false_eq_true, Nat.succ_ne_zero]; omega)) only [go_sem, reduceIte, reduceCtorEq, Nat.succ_ne_zero, not_false_eq_true, decide_true, decide_false, Nat.reduceAdd, Nat.reduceMul, Nat.reduceEqDiff, Nat.reduceLeDiff, hc]
    have hx1 : min (min one two) three ≤ max (min one two) (min (max one two) three) := by omega
    have hx2 : max (min one two) (min (max one two) three) ≤ max (max one two) three := by omega
    generalize min (min one two) three = x at *
    generalize max (min one two) (min (max one two) three) = y at *
    generalize max (max one two) three = z at *
    refine (Changes_spec _ _ l tel x y hl he).mono ?_
    rintro _ G1 ⟨o1, rfl, hk1, hs1⟩
    simp -implicitDefEqProofs (maxSteps := 2000000) (disch := first | omega | (simp only [nx_new, nx_set, List.length_cons, List.length_nil, List.length_map, List.length_set, ne_eq, not_true_eq_false, not_false_eq_true, Nat.succ_ne_zero]; done) | (simp only [nx_new, nx_set, List.length_cons, List.length_nil, List.length_map, List.length_set, ne_eq, not_true_eq_false, not_false_eq_true, Nat.succ_ne_zero]; omega)) only [go_sem, reduceIte, reduceCtorEq, Nat.succ_ne_zero, not_false_eq_true, decide_true, decide_false, Nat.reduceAdd, Nat.reduceMul, Nat.reduceEqDiff, Nat.reduceLeDiff]
    refine (Changes_spec _ _ l tel y z hl (he.grows hk1.grows)).mono ?_
    rintro _ G2 ⟨o2, rfl, hk2, hs2⟩
    simp -implicitDefEqProofs (maxSteps := 2000000) (disch := first | omega | (simp only [nx_new, nx_set, List.length_cons, List.length_nil, List.length_map, List.length_set, ne_eq, not_true_eq_false, not_false_eq_true, Nat.succ_ne_zero]; done) | (simp only [nx_new, nx_set, List.length_cons, List.length_nil, List.length_map, List.length_set, ne_eq, not_true_eq_false, not_false_eq_true, Nat.succ_ne_zero]; omega)) only [go_sem, reduceIte, reduceCtorEq, Nat.succ_ne_zero, not_false_eq_true, decide_true, decide_false, Nat.reduceAdd, Nat.reduceMul, Nat.reduceEqDiff, Nat.reduceLeDiff]
    refine (Changes_spec _ _ l tel x z hl (he.grows (hk1.trans hk2).grows)).mono ?_
    rintro _ G3 ⟨o3, rfl, hk3, hs3⟩
    have hs1' := hs1.grows (hk2.trans hk3).grows
    have hs2' := hs2.grows hk3.grows
    have l1 := ChangesL_len (l := l) tel x y (by omega)
    have l2 := ChangesL_len (l := l) tel y z (by omega)
    have l3 := ChangesL_len (l := l) tel x z (by omega)
    rcases errB_or l tel x y with ⟨ha, e1⟩ | ⟨ha, e1⟩ <;> rw [e1]
    · rcases errB_or l tel y z with ⟨hb, e2⟩ | ⟨hb, e2⟩ <;> rw [e2]
      · have hxy := argsB_iff.1 ha
        have hyz := argsB_iff.1 hb
        have hcc : argsB l tel x z = true := argsB_iff.2 ⟨hxy.1, hxy.2.1, hxy.2.2.1, hyz.2.2.2⟩
        have e3 : errB l tel x z = 0 := by simp [errB, hcc]
        rw [e3]
        have hin := in_of hxy.1.1
        have v1 : insideB (ChangesL l tel x y) m = decide (0 ≤ m ∧ m < 38400 ∧ differ l tel x y m) := by rw [ChangesL, if_pos ha, changes_inside hin]
        have v2 : insideB (ChangesL l tel y z) m = decide (0 ≤ m ∧ m < 38400 ∧ differ l tel y z m) := by rw [ChangesL, if_pos hb, changes_inside hin]
        have v3 : insideB (ChangesL l tel x z) m = (insideB (ChangesL l tel x y) m || insideB (ChangesL l tel y z) m) := by
          rw [v1, v2, ChangesL, if_pos hcc, changes_inside hin, Bool.eq_iff_iff]
          simp only [Bool.or_eq_true, decide_eq_true_eq, differ_mid hx1 hx2]
          constructor
          · rintro ⟨p, q, r | r⟩
            · exact .inl ⟨p, q, r⟩
            · exact .inr ⟨p, q, r⟩
          · rintro (⟨p, q, r⟩ | ⟨p, q, r⟩)
            · exact ⟨p, q, .inl r⟩
            · exact ⟨p, q, .inr r⟩
        simp -implicitDefEqProofs (maxSteps := 2000000) (disch := first | omega | (simp only [nx_new, nx_set, List.length_cons, List.length_nil, List.length_map, List.length_set, ne_eq, not_true_eq_false, not_false_eq_true, Nat.succ_ne_zero]; done) | (simp only [nx_new, nx_set, List.length_cons, List.length_nil, List.length_map, List.length_set, ne_eq, not_true_eq_false, not_false_eq_true, Nat.succ_ne_zero]; omega)) only [go_sem, reduceIte, reduceCtorEq, Nat.succ_ne_zero, not_false_eq_true, decide_true, decide_false, Nat.reduceAdd, Nat.reduceMul, Nat.reduceEqDiff, Nat.reduceLeDiff]
        refine ACalls.use_eq (inside_spec _ _ (ChangesL l tel x z) m (by omega) hs3) ?_
        simp -implicitDefEqProofs (maxSteps := 2000000) (disch := first | omega | (simp only [nx_new, nx_set, List.length_cons, List.length_nil, List.length_map, List.length_set, ne_eq, not_true_eq_false, not_false_eq_true, Nat.succ_ne_zero]; done) | (simp only [nx_new, nx_set, List.length_cons, List.length_nil, List.length_map, List.length_set, ne_eq, not_true_eq_false, not_false_eq_true, Nat.succ_ne_zero]; omega)) only [go_sem, reduceIte, reduceCtorEq, Nat.succ_ne_zero, not_false_eq_true, decide_true, decide_false, Nat.reduceAdd, Nat.reduceMul, Nat.reduceEqDiff, Nat.reduceLeDiff]
        refine ACalls.use_eq (inside_spec _ _ (ChangesL l tel x y) m (by omega) hs1') ?_
        simp -implicitDefEqProofs (maxSteps := 2000000) (disch := first | omega | (simp only [nx_new, nx_set, List.length_cons, List.length_nil, List.length_map, List.length_set, ne_eq, not_true_eq_false, not_false_eq_true, Nat.succ_ne_zero]; done) | (simp only [nx_new, nx_set, List.length_cons, List.length_nil, List.length_map, List.length_set, ne_eq, not_true_eq_false, not_false_eq_true, Nat.succ_ne_zero]; omega)) only [go_sem, reduceIte, reduceCtorEq, Nat.succ_ne_zero, not_false_eq_true, decide_true, decide_false, Nat.reduceAdd, Nat.reduceMul, Nat.reduceEqDiff, Nat.reduceLeDiff]
        rw [v3]
        generalize insideB (ChangesL l tel x y) m = p1 at *
        cases p1 with
        | true =>
          simp -implicitDefEqProofs (maxSteps := 2000000) (disch := first | omega | (simp only [nx_new, nx_set, List.length_cons, List.length_nil, List.length_map, List.length_set, ne_eq, not_true_eq_false, not_false_eq_true, Nat.succ_ne_zero]; done) | (simp only [nx_new, nx_set, List.length_cons, List.length_nil, List.length_map, List.length_set, ne_eq, not_true_eq_false, not_false_eq_true, Nat.succ_ne_zero]; omega)) only [go_sem, reduceIte, reduceCtorEq, Nat.succ_ne_zero, not_false_eq_true, decide_true, decide_false, Nat.reduceAdd, Nat.reduceMul, Nat.reduceEqDiff, Nat.reduceLeDiff, b_eqlB]
          exact ret_r (v := .bool true) (by rw [ares_tmp ret8]; rfl) rfl
        | false =>
          simp -implicitDefEqProofs (maxSteps := 2000000) (disch := first | omega | (simp only [nx_new, nx_set, List.length_cons, List.length_nil, List.length_map, List.length_set, ne_eq, not_true_eq_false, not_false_eq_true, Nat.succ_ne_zero]; done) | (simp only [nx_new, nx_set, List.length_cons, List.length_nil, List.length_map, List.length_set, ne_eq, not_true_eq_false, not_false_eq_true, Nat.succ_ne_zero]; omega)) only [go_sem, reduceIte, reduceCtorEq, Nat.succ_ne_zero, not_false_eq_true, decide_true, decide_false, Nat.reduceAdd, Nat.reduceMul, Nat.reduceEqDiff, Nat.reduceLeDiff]
          refine ACalls.use_eq (inside_spec _ _ (ChangesL l tel y z) m (by omega) hs2') ?_
          simp -implicitDefEqProofs (maxSteps := 2000000) (disch := first | omega | (simp only [nx_new, nx_set, List.length_cons, List.length_nil, List.length_map, List.length_set, ne_eq, not_true_eq_false, not_false_eq_true, Nat.succ_ne_zero]; done) | (simp only [nx_new, nx_set, List.length_cons, List.length_nil, List.length_map, List.length_set, ne_eq, not_true_eq_false, not_false_eq_true, Nat.succ_ne_zero]; omega)) only [go_sem, reduceIte, reduceCtorEq, Nat.succ_ne_zero, not_false_eq_true, decide_true, decide_false, Nat.reduceAdd, Nat.reduceMul, Nat.reduceEqDiff, Nat.reduceLeDiff, b_eqlB, beq_self_eq_true]
          exact ret_r (v := .bool true) (by rw [ares_tmp ret8]; rfl) rfl
      · simp -implicitDefEqProofs (maxSteps := 2000000) (disch := first | omega | (simp only [nx_new, nx_set, List.length_cons, List.length_nil, List.length_map, List.length_set, ne_eq, not_true_eq_false, not_false_eq_true, Nat.succ_ne_zero]; done) | (simp only [nx_new, nx_set, List.length_cons, List.length_nil, List.length_map, List.length_set, ne_eq, not_true_eq_false, not_false_eq_true, Nat.succ_ne_zero]; omega)) only [go_sem, reduceIte, reduceCtorEq, Nat.succ_ne_zero, not_false_eq_true, decide_true, decide_false, Nat.reduceAdd, Nat.reduceMul, Nat.reduceEqDiff, Nat.reduceLeDiff]
        exact ret_r (v := .bool true) (by rw [ares_tmp ret8]; rfl) rfl
    · simp -implicitDefEqProofs (maxSteps := 2000000) (disch := first | omega | (simp only [nx_new, nx_set, List.length_cons, List.length_nil, List.length_map, List.length_set, ne_eq, not_true_eq_false, not_false_eq_true, Nat.succ_ne_zero]; done) | (simp only [nx_new, nx_set, List.length_cons, List.length_nil, List.length_map, List.length_set, ne_eq, not_true_eq_false, not_false_eq_true, Nat.succ_ne_zero]; omega)) only [go_sem, reduceIte, reduceCtorEq, Nat.succ_ne_zero, not_false_eq_true, decide_true, decide_false, Nat.reduceAdd, Nat.reduceMul, Nat.reduceEqDiff, Nat.reduceLeDiff]
      exact ret_r (v := .bool true) (by rw [ares_tmp ret8]; rfl) rfl
end Go.Proofs.Ytalijeodmmlfjaa
