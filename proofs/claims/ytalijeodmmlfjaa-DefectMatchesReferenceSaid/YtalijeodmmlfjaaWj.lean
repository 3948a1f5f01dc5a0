/- DefectChanges. -/
import Derived.Test.YtalijeodmmlfjaaMc
import Derived.Test.YtalijeodmmlfjaaWi
import Derived.Test.YtalijeodmmlfjaaAbsW
set_option linter.unusedVariables false
set_option linter.unusedSimpArgs false
set_option linter.unusedSectionVars false
namespace Go.Proofs.Ytalijeodmmlfjaa
open Go.Abs
set_option maxHeartbeats 8000000
set_option maxRecDepth 100000

theorem normF_get : ∀ {l : List (Int × Int)} {lo : Int} (_ : NormF lo l) (i : Nat) (h : i < l.length), lo ≤ l[i].1 ∧ l[i].1 ≤ l[i].2 ∧ (∀ h0 : 0 < i, (l[i - 1]'(by omega)).2 + 2 ≤ l[i].1)
  | s :: l, lo, hn, 0, h => ⟨hn.1, hn.2.1, fun h0 => by omega⟩
  | s :: l, lo, hn, i + 1, h => by
    have h' : i < l.length := by simpa using h
    obtain ⟨a, b, c⟩ := normF_get hn.2.2 i h'
    have h1 := hn.1
    have h2 := hn.2.1
    refine ⟨by simp only [List.getElem_cons_succ]; omega, b, fun _ => ?_⟩
    cases i with
    | zero => simpa using a
    | succ i => have := c (by omega); simpa using this
theorem changesL_same (l : List D) (hl : ∀ d, d ∈ l → d.In) (tel one two : Int) : changesL l tel one two = changesL l tel two one :=
  changes_same hl hl fun m _ _ => by unfold differ; exact ⟨fun h e => h e.symm, fun h e => h e.symm⟩
theorem changesL_eq (l : List D) (hl : ∀ d, d ∈ l → d.In) (tel one : Int) : changesL l tel one one = [] :=
  norm_unique (lo := 0) (changes_norm hl _ _ _) trivial fun m => by
    rw [changes_inside hl, decide_eq_false (by unfold differ; simp)]; rfl

theorem n5 : Try.f5.ntmps = 182 := rfl
theorem ret5 : Try.f5.results = #[.tmp 10] := rfl
theorem changes_law (H : Hp) (a : Option Addr) (l : List D) (tel one two m : Int) (he : Elems H a 5 (l.map D.cells)) :
    ACalls Try.prog 5 [.slice a l.length l.length, .int .i64 tel, .int .i64 one, .int .i64 two, .int .i64 m] H (fun v H' => v = .bool true) := by
  refine ACalls_enter Try.func5 (by kernel_rfl) rfl (by kernel_rfl) (by simp [n5]) fun hw hr => AWP_of_awp ?_
  simp -implicitDefEqProofs (maxSteps := 2000000) (disch := first | omega | (simp only [nx_new, nx_set, List.length_cons, List.length_nil, List.length_map, List.length_set, ne_eq, not_true_eq_false, not_false_eq_true, Nat.succ_ne_zero]; done) | (simp only [nx_new, nx_set, List.length_cons, List.length_nil, List.length_map, List.length_set, ne_eq, not_true_eq_false, not_false_eq_true, Nat.succ_ne_zero]; omega)) only [go_sem, reduceIte, reduceCtorEq, Nat.succ_ne_zero, not_false_eq_true, decide_true, decide_false, Nat.reduceAdd, Nat.reduceMul, Nat.reduceEqDiff, Nat.reduceLeDiff]
  refine ACalls.use_eq (head_spec _) ?_
  simp -implicitDefEqProofs (maxSteps := 2000000) (disch := first | omega | (simp only [nx_new, nx_set, List.length_cons, List.length_nil, List.length_map, List.length_set, ne_eq, not_true_eq_false, not_false_eq_true, Nat.succ_ne_zero]; done) | (simp only [nx_new, nx_set, List.length_cons, List.length_nil, List.length_map, List.length_set, ne_eq, not_true_eq_false, not_false_eq_true, Nat.succ_ne_zero]; omega)) only [go_sem, reduceIte, reduceCtorEq, Nat.succ_ne_zero, not_false_eq_true, decide_true, decide_false, Nat.reduceAdd, Nat.reduceMul, Nat.reduceEqDiff, Nat.reduceLeDiff]
  refine condS_split (fun hc => ?_) (fun hc => ?_)
  · simp -implicitDefEqProofs (maxSteps := 2000000) (disch := first | omega | (simp only [nx_new, nx_set, List.length_cons, List.length_nil, List.length_map, List.length_set, ne_eq, not_true_eq_false, not_false_eq_true, Nat.succ_ne_zero]; done) | (simp only [nx_new, nx_set, List.length_cons, List.length_nil, List.length_map, List.length_set, ne_eq, not_true_eq_false, not_false_eq_true, Nat.succ_ne_zero]; omega)) only [go_sem, reduceIte, reduceCtorEq, Nat.succ_ne_zero, not_false_eq_true, decide_true, decide_false, Nat.reduceAdd, Nat.reduceMul, Nat.reduceEqDiff, Nat.reduceLeDiff, hc]
    exact ret_r (v := .bool true) (by rw [ares_tmp ret5]; rfl) rfl
  · have hlen : l.length ≤ 20 := by have := of_decide_eq_false hc; omega
    have hl : l.length ≤ 9223372036854775806 := by omega
    simp -implicitDefEqProofs (maxSteps := 2000000) (disch := first | omega | (simp only [nx_new, nx_set, List.length_cons, List.length_nil, List.length_map, List.length_set, ne_eq, not_true_eq_false, not_false_eq_true, Nat.succ_ne_zero]; done) | (simp only [nx_new, nx_set, List.length_cons, List.length_nil, List.length_map, List.length_set, ne_eq, not_true_eq_false, not_false_eq_true, Nat.succ_ne_zero]; omega)) only [go_sem, reduceIte, reduceCtorEq, Nat.succ_ne_zero, not_false_eq_true, decide_true, decide_false, Nat.reduceAdd, Nat.reduceMul, Nat.reduceEqDiff, Nat.reduceLeDiff, hc]
    refine (Changes_spec _ _ l tel one two hl he).mono ?_
    rintro _ G1 ⟨o1, rfl, hk1, hs1⟩
    rcases errB_or l tel one two with ⟨ha, e1⟩ | ⟨ha, e1⟩ <;> rw [e1]
    · have hxy := argsB_iff.1 ha
      have hin := in_of hxy.1.1
      have ha2 : argsB l tel two one = true := argsB_iff.2 ⟨hxy.1, hxy.2.2.2.1, hxy.2.2.2.2, hxy.2.1, hxy.2.2.1⟩
      have ha3 : argsB l tel one one = true := argsB_iff.2 ⟨hxy.1, hxy.2.1, hxy.2.2.1, hxy.2.1, hxy.2.2.1⟩
      have e2 : errB l tel two one = 0 := by simp [errB, ha2]
      have e3 : errB l tel one one = 0 := by simp [errB, ha3]
      have c1 : ChangesL l tel one two = changesL l tel one two := by rw [ChangesL, if_pos ha]
      have c2 : ChangesL l tel two one = changesL l tel one two := by rw [ChangesL, if_pos ha2, changesL_same l hin]
      have c3 : ChangesL l tel one one = [] := by rw [ChangesL, if_pos ha3, changesL_eq l hin]
      have hlx := ChangesL_len (l := l) tel one two (by omega)
      have hnorm := changes_norm hin tel one two
      have hlt := changes_lt hin tel one two
      have hins := changes_inside hin tel one two m
      rw [c1] at hs1 hlx ⊢
      simp -implicitDefEqProofs (maxSteps := 2000000) (disch := first | omega | (simp only [nx_new, nx_set, List.length_cons, List.length_nil, List.length_map, List.length_set, ne_eq, not_true_eq_false, not_false_eq_true, Nat.succ_ne_zero]; done) | (simp only [nx_new, nx_set, List.length_cons, List.length_nil, List.length_map, List.length_set, ne_eq, not_true_eq_false, not_false_eq_true, Nat.succ_ne_zero]; omega)) only [go_sem, reduceIte, reduceCtorEq, Nat.succ_ne_zero, not_false_eq_true, decide_true, decide_false, Nat.reduceAdd, Nat.reduceMul, Nat.reduceEqDiff, Nat.reduceLeDiff]
      refine (Changes_spec _ _ l tel two one hl (he.grows hk1.grows)).mono ?_
      rintro _ G2 ⟨o2, rfl, hk2, hs2⟩
      rw [e2, c2]
      rw [c2] at hs2
      simp -implicitDefEqProofs (maxSteps := 2000000) (disch := first | omega | (simp only [nx_new, nx_set, List.length_cons, List.length_nil, List.length_map, List.length_set, ne_eq, not_true_eq_false, not_false_eq_true, Nat.succ_ne_zero]; done) | (simp only [nx_new, nx_set, List.length_cons, List.length_nil, List.length_map, List.length_set, ne_eq, not_true_eq_false, not_false_eq_true, Nat.succ_ne_zero]; omega)) only [go_sem, reduceIte, reduceCtorEq, Nat.succ_ne_zero, not_false_eq_true, decide_true, decide_false, Nat.reduceAdd, Nat.reduceMul, Nat.reduceEqDiff, Nat.reduceLeDiff]
      refine (Changes_spec _ _ l tel one one hl (he.grows (hk1.trans hk2).grows)).mono ?_
      rintro _ G3 ⟨o3, rfl, hk3, hs3⟩
      rw [e3, c3]
      have hs1' := hs1.grows (hk2.trans hk3).grows
      have hs2' := hs2.grows hk3.grows
      have hkH := (hk1.trans hk2).trans hk3
      generalize changesL l tel one two = xs at *
      simp -implicitDefEqProofs (maxSteps := 2000000) (disch := first | omega | (simp only [nx_new, nx_set, List.length_cons, List.length_nil, List.length_map, List.length_set, ne_eq, not_true_eq_false, not_false_eq_true, Nat.succ_ne_zero]; done) | (simp only [nx_new, nx_set, List.length_cons, List.length_nil, List.length_map, List.length_set, ne_eq, not_true_eq_false, not_false_eq_true, Nat.succ_ne_zero]; omega)) only [go_sem, reduceIte, reduceCtorEq, Nat.succ_ne_zero, not_false_eq_true, decide_true, decide_false, Nat.reduceAdd, Nat.reduceMul, Nat.reduceEqDiff, Nat.reduceLeDiff]
      refine ACalls.use_eq (spans_spec _ _ _ xs xs (by omega) (by omega) hs1' hs2') ?_
      rw [decide_eq_true rfl]
      simp -implicitDefEqProofs (maxSteps := 2000000) (disch := first | omega | (simp only [nx_new, nx_set, List.length_cons, List.length_nil, List.length_map, List.length_set, ne_eq, not_true_eq_false, not_false_eq_true, Nat.succ_ne_zero]; done) | (simp only [nx_new, nx_set, List.length_cons, List.length_nil, List.length_map, List.length_set, ne_eq, not_true_eq_false, not_false_eq_true, Nat.succ_ne_zero]; omega)) only [go_sem, reduceIte, reduceCtorEq, Nat.succ_ne_zero, not_false_eq_true, decide_true, decide_false, Nat.reduceAdd, Nat.reduceMul, Nat.reduceEqDiff, Nat.reduceLeDiff]
      refine AWP_loop (σ := Nat) (fun k => [(18, .int .i64 k), (12, .slice o1 xs.length xs.length), (11, .bool true), (0, .slice a l.length l.length), (1, .int .i64 tel), (2, .int .i64 one), (3, .int .i64 two), (4, .int .i64 m)])
        (fun _ => G3) (fun k => k ≤ xs.length) (fun k => xs.length - k) 0 (Nat.zero_le _) (Weak.sub ?_) ?_
      · simp -implicitDefEqProofs (disch := omega) only [Abs.Sub, get_cons_eq, get_cons_ne, and_self, Int.natCast_zero, Int.natCast_add, Int.natCast_one]
      · rintro k hk
        refine AWP_of_awp ?_
        by_cases hlt2 : k < xs.length
        · obtain ⟨b1, o, rfl, hb1, hl1⟩ := hs1' k (by simpa using hlt2)
          have hg := normF_get hnorm k hlt2
          have hg2 := hlt xs[k] (List.getElem_mem hlt2)
          simp only [List.getElem_map, spc] at hl1
          have hprev : 0 < k → ∃ u, load1 G3 ⟨b1, o + (k - 1) * 2 + 1, none⟩ = some (.int .i64 u) ∧ u + 2 ≤ xs[k].1 ∧ -1 ≤ u ∧ u ≤ 38400 := fun h0 => by
            obtain ⟨b2, o', he2, _, hl2⟩ := hs1' (k - 1) (by simp; omega)
            simp only [Option.some.injEq, Addr.mk.injEq] at he2
            obtain ⟨rfl, rfl, _⟩ := he2
            simp only [List.getElem_map, spc] at hl2
            have hp := normF_get hnorm (k - 1) (by omega)
            exact ⟨_, (load1_part (i := 1) hl2 (by simp)).trans rfl, hg.2.2 h0, by omega, by have := hlt xs[k - 1] (List.getElem_mem _); omega⟩
          generalize xs[k] = s at *
          obtain ⟨f, u⟩ := s
          simp only at hl1 hg hg2 hprev
          have h1 : load1 G3 ⟨b1, o + k * 2, none⟩ = some (.int .i64 f) := (load1_part (i := 0) hl1 (by simp)).trans rfl
          have h2 : load1 G3 ⟨b1, o + k * 2 + 1, none⟩ = some (.int .i64 u) := (load1_part (i := 1) hl1 (by simp)).trans rfl
          simp -implicitDefEqProofs (maxSteps := 2000000) (disch := first | omega | (simp only [nx_new, nx_set, List.length_cons, List.length_nil, List.length_map, List.length_set, ne_eq, not_true_eq_false, not_false_eq_true, Nat.succ_ne_zero]; done) | (simp only [nx_new, nx_set, List.length_cons, List.length_nil, List.length_map, List.length_set, ne_eq, not_true_eq_false, not_false_eq_true, Nat.succ_ne_zero]; omega)) only [go_sem, reduceIte, reduceCtorEq, Nat.succ_ne_zero, not_false_eq_true, decide_true, decide_false, Nat.reduceAdd, Nat.reduceMul, Nat.reduceEqDiff, Nat.reduceLeDiff]
          refine AWP_draw_fast mo (by kernel_rfl) ?_
          by_cases hk0 : 0 < k
          · obtain ⟨u', h3, h4, h5, h6⟩ := hprev hk0
            have hidx : ((k : Int) - 1).toNat = k - 1 := by omega
            simp -implicitDefEqProofs (maxSteps := 2000000) (disch := first | omega | (simp only [nx_new, nx_set, List.length_cons, List.length_nil, List.length_map, List.length_set, ne_eq, not_true_eq_false, not_false_eq_true, Nat.succ_ne_zero]; done) | (simp only [nx_new, nx_set, List.length_cons, List.length_nil, List.length_map, List.length_set, ne_eq, not_true_eq_false, not_false_eq_true, Nat.succ_ne_zero]; omega)) only [go_sem, reduceIte, reduceCtorEq, Nat.succ_ne_zero, not_false_eq_true, decide_true, decide_false, Nat.reduceAdd, Nat.reduceMul, Nat.reduceEqDiff, Nat.reduceLeDiff, h1, h2, h3, hidx]
            refine ⟨k + 1, hlt2, by omega, Weak.sub ?_⟩
            simp -implicitDefEqProofs (disch := omega) only [Abs.Sub, get_cons_eq, get_cons_ne, and_self, Int.natCast_zero, Int.natCast_add, Int.natCast_one]
          · simp -implicitDefEqProofs (maxSteps := 2000000) (disch := first | omega | (simp only [nx_new, nx_set, List.length_cons, List.length_nil, List.length_map, List.length_set, ne_eq, not_true_eq_false, not_false_eq_true, Nat.succ_ne_zero]; done) | (simp only [nx_new, nx_set, List.length_cons, List.length_nil, List.length_map, List.length_set, ne_eq, not_true_eq_false, not_false_eq_true, Nat.succ_ne_zero]; omega)) only [go_sem, reduceIte, reduceCtorEq, Nat.succ_ne_zero, not_false_eq_true, decide_true, decide_false, Nat.reduceAdd, Nat.reduceMul, Nat.reduceEqDiff, Nat.reduceLeDiff, h1, h2]
            refine ⟨k + 1, hlt2, by omega, Weak.sub ?_⟩
            simp -implicitDefEqProofs (disch := omega) only [Abs.Sub, get_cons_eq, get_cons_ne, and_self, Int.natCast_zero, Int.natCast_add, Int.natCast_one]
        · simp -implicitDefEqProofs (maxSteps := 2000000) (disch := first | omega | (simp only [nx_new, nx_set, List.length_cons, List.length_nil, List.length_map, List.length_set, ne_eq, not_true_eq_false, not_false_eq_true, Nat.succ_ne_zero]; done) | (simp only [nx_new, nx_set, List.length_cons, List.length_nil, List.length_map, List.length_set, ne_eq, not_true_eq_false, not_false_eq_true, Nat.succ_ne_zero]; omega)) only [go_sem, reduceIte, reduceCtorEq, Nat.succ_ne_zero, not_false_eq_true, decide_true, decide_false, Nat.reduceAdd, Nat.reduceMul, Nat.reduceEqDiff, Nat.reduceLeDiff]
          refine ACalls.use_eq (Mask_spec _ _ l tel m one hl (he.grows hkH.grows)) ?_
          obtain ⟨x1, y1, z1, u1, q1⟩ := vb4 _ (MaskB_length l tel m one)
          rw [maskV_of q1]
          simp -implicitDefEqProofs (maxSteps := 2000000) (disch := first | omega | (simp only [nx_new, nx_set, List.length_cons, List.length_nil, List.length_map, List.length_set, ne_eq, not_true_eq_false, not_false_eq_true, Nat.succ_ne_zero]; done) | (simp only [nx_new, nx_set, List.length_cons, List.length_nil, List.length_map, List.length_set, ne_eq, not_true_eq_false, not_false_eq_true, Nat.succ_ne_zero]; omega)) only [go_sem, reduceIte, reduceCtorEq, Nat.succ_ne_zero, not_false_eq_true, decide_true, decide_false, Nat.reduceAdd, Nat.reduceMul, Nat.reduceEqDiff, Nat.reduceLeDiff]
          refine ACalls.use_eq (Mask_spec _ _ l tel m two hl ((he.grows hkH.grows).grows (Grows.new _ _))) ?_
          obtain ⟨x2, y2, z2, u2, q2⟩ := vb4 _ (MaskB_length l tel m two)
          rw [maskV_of q2]
          simp -implicitDefEqProofs (maxSteps := 2000000) (disch := first | omega | (simp only [nx_new, nx_set, List.length_cons, List.length_nil, List.length_map, List.length_set, ne_eq, not_true_eq_false, not_false_eq_true, Nat.succ_ne_zero]; done) | (simp only [nx_new, nx_set, List.length_cons, List.length_nil, List.length_map, List.length_set, ne_eq, not_true_eq_false, not_false_eq_true, Nat.succ_ne_zero]; omega)) only [go_sem, reduceIte, reduceCtorEq, Nat.succ_ne_zero, not_false_eq_true, decide_true, decide_false, Nat.reduceAdd, Nat.reduceMul, Nat.reduceEqDiff, Nat.reduceLeDiff]
          by_cases hm : 0 ≤ m ∧ m ≤ 38399
          · have hb1 : argsB l tel m one = true := argsB_iff.2 ⟨hxy.1, hm.1, hm.2, hxy.2.1, hxy.2.2.1⟩
            have hb2 : argsB l tel m two = true := argsB_iff.2 ⟨hxy.1, hm.1, hm.2, hxy.2.2.2.1, hxy.2.2.2.2⟩
            have f1 : errB l tel m one = 0 := by simp [errB, hb1]
            have f2 : errB l tel m two = 0 := by simp [errB, hb2]
            rw [f1, f2]
            rw [MaskB, if_pos hb1] at q1
            rw [MaskB, if_pos hb2] at q2
            have hval : insideB xs m = !(decide ([x1, y1, z1, u1] = [x2, y2, z2, u2])) := by
              rw [hins, ← decide_not]
              refine decide_eq_decide.2 ?_
              unfold differ
              rw [q1, q2]
              exact ⟨fun h => h.2.2, fun h => ⟨by omega, by omega, h⟩⟩
            simp -implicitDefEqProofs (maxSteps := 2000000) (disch := first | omega | (simp only [nx_new, nx_set, List.length_cons, List.length_nil, List.length_map, List.length_set, ne_eq, not_true_eq_false, not_false_eq_true, Nat.succ_ne_zero]; done) | (simp only [nx_new, nx_set, List.length_cons, List.length_nil, List.length_map, List.length_set, ne_eq, not_true_eq_false, not_false_eq_true, Nat.succ_ne_zero]; omega)) only [go_sem, reduceIte, reduceCtorEq, Nat.succ_ne_zero, not_false_eq_true, decide_true, decide_false, Nat.reduceAdd, Nat.reduceMul, Nat.reduceEqDiff, Nat.reduceLeDiff]
            refine AWP_draw_fast mo (by kernel_rfl) ?_
            simp -implicitDefEqProofs (maxSteps := 2000000) (disch := first | omega | (simp only [nx_new, nx_set, List.length_cons, List.length_nil, List.length_map, List.length_set, ne_eq, not_true_eq_false, not_false_eq_true, Nat.succ_ne_zero]; done) | (simp only [nx_new, nx_set, List.length_cons, List.length_nil, List.length_map, List.length_set, ne_eq, not_true_eq_false, not_false_eq_true, Nat.succ_ne_zero]; omega)) only [go_sem, reduceIte, reduceCtorEq, Nat.succ_ne_zero, not_false_eq_true, decide_true, decide_false, Nat.reduceAdd, Nat.reduceMul, Nat.reduceEqDiff, Nat.reduceLeDiff]
            refine ACalls.use_eq (inside_spec _ _ xs m (by omega) ((hs1'.grows (Grows.new _ _)).grows (Grows.new _ _))) ?_
            rw [hval]
            have hfin : ((!((x1 == x2) && ((y1 == y2) && ((z1 == z2) && (u1 == u2))))) == !decide ([x1, y1, z1, u1] = [x2, y2, z2, u2])) = true := by
              cases x1 <;> cases x2 <;> cases y1 <;> cases y2 <;> cases z1 <;> cases z2 <;> cases u1 <;> cases u2 <;> rfl
            simp -implicitDefEqProofs (maxSteps := 2000000) (disch := first | omega | (simp only [nx_new, nx_set, List.length_cons, List.length_nil, List.length_map, List.length_set, ne_eq, not_true_eq_false, not_false_eq_true, Nat.succ_ne_zero]; done) | (simp only [nx_new, nx_set, List.length_cons, List.length_nil, List.length_map, List.length_set, ne_eq, not_true_eq_false, not_false_eq_true, Nat.succ_ne_zero]; omega)) only [go_sem, reduceIte, reduceCtorEq, Nat.succ_ne_zero, not_false_eq_true, decide_true, decide_false, Nat.reduceAdd, Nat.reduceMul, Nat.reduceEqDiff, Nat.reduceLeDiff, b_eqlB, hfin]
            exact ret_r (v := .bool true) (by rw [ares_tmp ret5]; rfl) rfl
          · have hb1 : argsB l tel m one = false := by
              rw [Bool.eq_false_iff]; intro h; exact hm ⟨(argsB_iff.1 h).2.1, (argsB_iff.1 h).2.2.1⟩
            have hb2 : argsB l tel m two = false := by
              rw [Bool.eq_false_iff]; intro h; exact hm ⟨(argsB_iff.1 h).2.1, (argsB_iff.1 h).2.2.1⟩
            have f1 : errB l tel m one = 1 := by simp [errB, hb1]
            have f2 : errB l tel m two = 1 := by simp [errB, hb2]
            rw [f1, f2]
            simp -implicitDefEqProofs (maxSteps := 2000000) (disch := first | omega | (simp only [nx_new, nx_set, List.length_cons, List.length_nil, List.length_map, List.length_set, ne_eq, not_true_eq_false, not_false_eq_true, Nat.succ_ne_zero]; done) | (simp only [nx_new, nx_set, List.length_cons, List.length_nil, List.length_map, List.length_set, ne_eq, not_true_eq_false, not_false_eq_true, Nat.succ_ne_zero]; omega)) only [go_sem, reduceIte, reduceCtorEq, Nat.succ_ne_zero, not_false_eq_true, decide_true, decide_false, Nat.reduceAdd, Nat.reduceMul, Nat.reduceEqDiff, Nat.reduceLeDiff]
            by_cases h0 : m < 0
            · simp -implicitDefEqProofs (maxSteps := 2000000) (disch := first | omega | (simp only [nx_new, nx_set, List.length_cons, List.length_nil, List.length_map, List.length_set, ne_eq, not_true_eq_false, not_false_eq_true, Nat.succ_ne_zero]; done) | (simp only [nx_new, nx_set, List.length_cons, List.length_nil, List.length_map, List.length_set, ne_eq, not_true_eq_false, not_false_eq_true, Nat.succ_ne_zero]; omega)) only [go_sem, reduceIte, reduceCtorEq, Nat.succ_ne_zero, not_false_eq_true, decide_true, decide_false, Nat.reduceAdd, Nat.reduceMul, Nat.reduceEqDiff, Nat.reduceLeDiff]
              exact ret_r (v := .bool true) (by rw [ares_tmp ret5]; rfl) rfl
            · simp -implicitDefEqProofs (maxSteps := 2000000) (disch := first | omega | (simp only [nx_new, nx_set, List.length_cons, List.length_nil, List.length_map, List.length_set, ne_eq, not_true_eq_false, not_false_eq_true, Nat.succ_ne_zero]; done) | (simp only [nx_new, nx_set, List.length_cons, List.length_nil, List.length_map, List.length_set, ne_eq, not_true_eq_false, not_false_eq_true, Nat.succ_ne_zero]; omega)) only [go_sem, reduceIte, reduceCtorEq, Nat.succ_ne_zero, not_false_eq_true, decide_true, decide_false, Nat.reduceAdd, Nat.reduceMul, Nat.reduceEqDiff, Nat.reduceLeDiff]
              exact ret_r (v := .bool true) (by rw [ares_tmp ret5]; rfl) rfl
    · have c1 : ChangesL l tel one two = [] := by rw [ChangesL, ha]; rfl
      rw [c1]
      simp -implicitDefEqProofs (maxSteps := 2000000) (disch := first | omega | (simp only [nx_new, nx_set, List.length_cons, List.length_nil, List.length_map, List.length_set, ne_eq, not_true_eq_false, not_false_eq_true, Nat.succ_ne_zero]; done) | (simp only [nx_new, nx_set, List.length_cons, List.length_nil, List.length_map, List.length_set, ne_eq, not_true_eq_false, not_false_eq_true, Nat.succ_ne_zero]; omega)) only [go_sem, reduceIte, reduceCtorEq, Nat.succ_ne_zero, not_false_eq_true, decide_true, decide_false, Nat.reduceAdd, Nat.reduceMul, Nat.reduceEqDiff, Nat.reduceLeDiff]
      exact ret_r (v := .bool true) (by rw [ares_tmp ret5]; rfl) rfl
end Go.Proofs.Ytalijeodmmlfjaa
