/- The reference's Latest and Master, walked. -/
import Derived.Test.YtejpfdhlpcgfkaaVo
set_option linter.unusedVariables false
set_option linter.unusedSimpArgs false
set_option linter.unusedSectionVars false
namespace Go.Proofs.Ytejpfdhlpcgfkaa
open Go.Abs Go.Sm
set_option maxHeartbeats 8000000
set_option maxRecDepth 100000
theorem aload_sub {H : Hp} {b o n i m : Nat} {cs : List Value} (h : aload H ⟨b, o, none⟩ n = some cs) (hi : i + m ≤ n) : aload H ⟨b, o + i, none⟩ m = some ((cs.drop i).take m) := by
  cases hg : H.get b with
  | dead => simp [aload, hg] at h
  | row c own k =>
    simp only [aload, hg] at h ⊢
    split at h
    · rename_i hl
      injection h with h
      subst h
      rw [if_pos (by omega), List.drop_take, List.take_take, List.drop_drop, Nat.min_eq_left (by omega)]
    · cases h
theorem bools_len (n : Nat) (T : List Nat) : (bools n T).length = n := by rw [bools, List.length_map, List.length_range]
theorem n26 : Try.f26.ntmps = 80 := rfl
theorem ret26 : Try.f26.results = #[.tmp 12] := rfl
theorem latest_spec (H : Hp) (a : Option Addr) (l : List Cal) (w : Want) (S : List Nat) (hl : l.length ≤ 1000) (he : Elems H a 9 (l.map Cal.cells)) (hp : S.Perm (apps l w)) (hs : S.Pairwise (bfL l)) :
    ACalls Try.prog 26 [.slice a l.length l.length, .int .i64 w.kind, .int .i64 w.tel, .int .i64 w.fil, .int .i64 w.at_, .int .i64 w.known] H
      (fun v H' => Keeps H H' ∧ ∃ o, v = .slice o (S.take 5).length (S.take 5).length ∧ OwnSl H.next H' o 4 (pcs l (S.take 5)).flatten) := by
  have happ := fun G c => app36_spec G c w
  refine ACalls_enter Try.func26 (by kernel_rfl) rfl (by kernel_rfl) (by simp [n26]) fun hw hr => AWP_of_awp ?_
  simp -implicitDefEqProofs (maxSteps := 2000000) (disch := first | omega | (simp only [nx_new, nx_set, List.length_cons, List.length_nil, List.length_map, List.length_set, ne_eq, not_true_eq_false, not_false_eq_true, Nat.succ_ne_zero]; done) | (simp only [nx_new, nx_set, List.length_cons, List.length_nil, List.length_map, List.length_set, ne_eq, not_true_eq_false, not_false_eq_true, Nat.succ_ne_zero]; omega)) only [go_sem, reduceIte, reduceCtorEq, Nat.succ_ne_zero, not_false_eq_true, decide_true, decide_false, Nat.reduceAdd, Nat.reduceMul, Nat.reduceEqDiff, Nat.reduceLeDiff]
  rw [make_bools H (by omega)]
  have hb0 : (H.new (.row (bools l.length []) true 1)).get H.next = .row (bools l.length (S.take 0)) true 1 := Hp.get_new_same _ _ _ rfl
  have k0 : Keeps H (H.new (.row (bools l.length []) true 1)) := Keeps.new _ _
  have n0 : (H.new (.row (bools l.length []) true 1)).next = H.next + 1 := rfl
  generalize H.new (.row (bools l.length []) true 1) = H1 at *
  simp -implicitDefEqProofs (maxSteps := 2000000) (disch := first | omega | (simp only [nx_new, nx_set, List.length_cons, List.length_nil, List.length_map, List.length_set, ne_eq, not_true_eq_false, not_false_eq_true, Nat.succ_ne_zero]; done) | (simp only [nx_new, nx_set, List.length_cons, List.length_nil, List.length_map, List.length_set, ne_eq, not_true_eq_false, not_false_eq_true, Nat.succ_ne_zero]; omega)) only [go_sem, reduceIte, reduceCtorEq, Nat.succ_ne_zero, not_false_eq_true, decide_true, decide_false, Nat.reduceAdd, Nat.reduceMul, Nat.reduceEqDiff, Nat.reduceLeDiff]
  refine AWP_loop (σ := Nat × Hp × Option Addr) (fun s => [(13, .slice s.2.2 s.1 s.1), (14, .slice (some ⟨H.next, 0, none⟩) l.length l.length), (0, .slice a l.length l.length), (1, .int .i64 w.kind), (2, .int .i64 w.tel), (3, .int .i64 w.fil), (4, .int .i64 w.at_), (5, .int .i64 w.known)]) (fun s => s.2.1)
    (fun s => s.1 ≤ 5 ∧ s.1 ≤ S.length ∧ Keeps H s.2.1 ∧ H.next < s.2.1.next ∧ s.2.1.get H.next = .row (bools l.length (S.take s.1)) true 1 ∧ OwnSl (H.next + 1) s.2.1 s.2.2 4 (pcs l (S.take s.1)).flatten) (fun s => 5 - s.1) (0, H1, none)
    ⟨Nat.zero_le _, Nat.zero_le _, k0, by simp only; omega, hb0, OwnSl.none⟩ (Weak.sub ?_) ?_
  · (simp -implicitDefEqProofs (disch := omega) only [Abs.Sub, get_cons_eq, get_cons_ne, and_self, Option.some.injEq, Value.int.injEq, Value.slice.injEq, true_and, and_true, Int.natCast_zero, Int.natCast_add, Int.natCast_one, List.length_nil]; try omega)
  rintro ⟨r, G, o⟩ ⟨hr5, hrS, hk, hlt, hb, ho⟩
  simp only at hr5 hrS hk hlt hb ho ⊢
  refine AWP_of_awp ?_
  have hfin : S.length ≤ r ∨ r = 5 → Keeps H G ∧ ∃ o', (Value.slice o r r) = .slice o' (S.take 5).length (S.take 5).length ∧ OwnSl H.next G o' 4 (pcs l (S.take 5)).flatten := fun h => by
    have e : S.take 5 = S.take r := by
      rcases h with h | h
      · rw [List.take_of_length_le h, List.take_of_length_le (by omega)]
      · rw [h]
    have e2 : (S.take r).length = r := by rw [List.length_take]; omega
    refine ⟨hk, o, by rw [e, e2], ?_⟩
    rw [e]
    rcases ho with h | ⟨q, h1, h2, h3, h4⟩
    · exact .inl h
    · exact .inr ⟨q, h1, by omega, h3, h4⟩
  by_cases hlt5 : r < 5
  · simp -implicitDefEqProofs (maxSteps := 2000000) (disch := first | omega | (simp only [nx_new, nx_set, List.length_cons, List.length_nil, List.length_map, List.length_set, ne_eq, not_true_eq_false, not_false_eq_true, Nat.succ_ne_zero]; done) | (simp only [nx_new, nx_set, List.length_cons, List.length_nil, List.length_map, List.length_set, ne_eq, not_true_eq_false, not_false_eq_true, Nat.succ_ne_zero]; omega)) only [go_sem, reduceIte, reduceCtorEq, Nat.succ_ne_zero, not_false_eq_true, decide_true, decide_false, Nat.reduceAdd, Nat.reduceMul, Nat.reduceEqDiff, Nat.reduceLeDiff]
    refine AWP_loop (σ := Nat × Int × Hp) (fun s => [(16, .int .i64 s.1), (15, .int .i64 s.2.1), (13, .slice o r r), (14, .slice (some ⟨H.next, 0, none⟩) l.length l.length), (0, .slice a l.length l.length), (1, .int .i64 w.kind), (2, .int .i64 w.tel), (3, .int .i64 w.fil), (4, .int .i64 w.at_), (5, .int .i64 w.known)]) (fun s => s.2.2)
      (fun s => s.1 ≤ l.length ∧ Keeps G s.2.2 ∧ bestI l w (S.take r) s.1 s.2.1) (fun s => l.length - s.1) (0, -1, G) ⟨Nat.zero_le _, Keeps.refl _, .inl ⟨rfl, fun i h => by simp only at h; omega⟩⟩ (Weak.sub ?_) ?_
    · (simp -implicitDefEqProofs (disch := omega) only [Abs.Sub, get_cons_eq, get_cons_ne, and_self, Option.some.injEq, Value.int.injEq, Value.slice.injEq, true_and, and_true, Int.natCast_zero, Int.natCast_add, Int.natCast_one, List.length_nil]; try omega)
    rintro ⟨k, bst, M⟩ ⟨hkl, hkM, hbest⟩
    simp only at hkl hkM hbest ⊢
    refine AWP_of_awp ?_
    have gM : M.get H.next = .row (bools l.length (S.take r)) true 1 := (hkM.get _ hlt).trans hb
    have hHM := (hk.trans hkM)
    have heM := he.grows hHM.grows
    by_cases hkt : k < l.length
    · have lt0 : load1 M ⟨H.next, k, none⟩ = some (.bool (decide (k ∈ S.take r))) := (l1_row _ _ _ _ _ gM).trans (bools_get hkt)
      have lk := lat_get hkt
      obtain ⟨b0, o0, rfl, hload⟩ := cal_at heM k hkt
      rw [← lk] at hload
      cases htk : decide (k ∈ S.take r) with
      | true =>
        rw [htk] at lt0
        simp -implicitDefEqProofs (maxSteps := 2000000) (disch := first | omega | (simp only [nx_new, nx_set, List.length_cons, List.length_nil, List.length_map, List.length_set, ne_eq, not_true_eq_false, not_false_eq_true, Nat.succ_ne_zero]; done) | (simp only [nx_new, nx_set, List.length_cons, List.length_nil, List.length_map, List.length_set, ne_eq, not_true_eq_false, not_false_eq_true, Nat.succ_ne_zero]; omega)) only [go_sem, reduceIte, reduceCtorEq, Nat.succ_ne_zero, not_false_eq_true, decide_true, decide_false, Nat.reduceAdd, Nat.reduceMul, Nat.reduceEqDiff, Nat.reduceLeDiff]
        refine AWP_draw_fast mo (by kernel_rfl) ?_
        simp -implicitDefEqProofs (maxSteps := 2000000) (disch := first | omega | (simp only [nx_new, nx_set, List.length_cons, List.length_nil, List.length_map, List.length_set, ne_eq, not_true_eq_false, not_false_eq_true, Nat.succ_ne_zero]; done) | (simp only [nx_new, nx_set, List.length_cons, List.length_nil, List.length_map, List.length_set, ne_eq, not_true_eq_false, not_false_eq_true, Nat.succ_ne_zero]; omega)) only [go_sem, reduceIte, reduceCtorEq, Nat.succ_ne_zero, not_false_eq_true, decide_true, decide_false, Nat.reduceAdd, Nat.reduceMul, Nat.reduceEqDiff, Nat.reduceLeDiff, lt0]
        exact ⟨(k + 1, bst, M), ⟨hkt, hkM, best_skip hbest fun h => h.2 (of_decide_eq_true htk)⟩, by simp only; omega, Weak.sub (by (simp -implicitDefEqProofs (disch := omega) only [Abs.Sub, get_cons_eq, get_cons_ne, and_self, Option.some.injEq, Value.int.injEq, Value.slice.injEq, true_and, and_true, Int.natCast_zero, Int.natCast_add, Int.natCast_one, List.length_nil]; try omega))⟩
      | false =>
        have hkn : k ∉ S.take r := of_decide_eq_false htk
        rw [htk] at lt0
        have hap := happ M (lat l k)
        have lat3 : load1 M ⟨b0, o0 + k * 9 + 3, none⟩ = some (.int .i64 (lat l k).at_) := (load1_part hload (i := 3) (by decide)).trans rfl
        obtain ⟨c, ec⟩ : ∃ c, c = lat l k := ⟨_, rfl⟩
        rw [← ec] at hload lat3 hap
        rw [cal_agg] at hap
        rw [Cal.cells] at hload
        have kg : Keeps M (M.new (.row c.cells true 0)) := Keeps.new _ _
        have hg := kg.grows
        have lat3' : load1 (M.new (.row c.cells true 0)) ⟨b0, o0 + k * 9 + 3, none⟩ = some (.int .i64 c.at_) := by
          obtain ⟨b', o', e', hl'⟩ := cal_at (heM.grows hg) k hkt
          cases e'
          rw [← lk, ← ec] at hl'
          exact (load1_part hl' (i := 3) (by decide)).trans rfl
        have hold : ∀ j : Nat, j < l.length → load1 (M.new (.row c.cells true 0)) ⟨b0, o0 + j * 9 + 3, none⟩ = some (.int .i64 (lat l j).at_) := fun j hj => by
          obtain ⟨b', o', e', hl'⟩ := cal_at (heM.grows hg) j hj
          cases e'
          rw [← lat_get hj] at hl'
          exact (load1_part hl' (i := 3) (by decide)).trans rfl
        have hap' : ACalls Try.prog 36 _ M (fun v H' => v = .bool (w.app c) ∧ H' = M.new (.row c.cells true 0)) := hap
        generalize M.new (.row c.cells true 0) = M2 at *
        simp -implicitDefEqProofs (maxSteps := 2000000) (disch := first | omega | (simp only [nx_new, nx_set, List.length_cons, List.length_nil, List.length_map, List.length_set, ne_eq, not_true_eq_false, not_false_eq_true, Nat.succ_ne_zero]; done) | (simp only [nx_new, nx_set, List.length_cons, List.length_nil, List.length_map, List.length_set, ne_eq, not_true_eq_false, not_false_eq_true, Nat.succ_ne_zero]; omega)) only [go_sem, reduceIte, reduceCtorEq, Nat.succ_ne_zero, not_false_eq_true, decide_true, decide_false, Nat.reduceAdd, Nat.reduceMul, Nat.reduceEqDiff, Nat.reduceLeDiff]
        refine AWP_draw_fast mo (by kernel_rfl) ?_
        simp -implicitDefEqProofs (maxSteps := 2000000) (disch := first | omega | (simp only [nx_new, nx_set, List.length_cons, List.length_nil, List.length_map, List.length_set, ne_eq, not_true_eq_false, not_false_eq_true, Nat.succ_ne_zero]; done) | (simp only [nx_new, nx_set, List.length_cons, List.length_nil, List.length_map, List.length_set, ne_eq, not_true_eq_false, not_false_eq_true, Nat.succ_ne_zero]; omega)) only [go_sem, reduceIte, reduceCtorEq, Nat.succ_ne_zero, not_false_eq_true, decide_true, decide_false, Nat.reduceAdd, Nat.reduceMul, Nat.reduceEqDiff, Nat.reduceLeDiff, lt0, hload]
        refine ACalls.use_eq hap' ?_
        cases hwa : w.app c with
        | false =>
          simp -implicitDefEqProofs (maxSteps := 2000000) (disch := first | omega | (simp only [nx_new, nx_set, List.length_cons, List.length_nil, List.length_map, List.length_set, ne_eq, not_true_eq_false, not_false_eq_true, Nat.succ_ne_zero]; done) | (simp only [nx_new, nx_set, List.length_cons, List.length_nil, List.length_map, List.length_set, ne_eq, not_true_eq_false, not_false_eq_true, Nat.succ_ne_zero]; omega)) only [go_sem, reduceIte, reduceCtorEq, Nat.succ_ne_zero, not_false_eq_true, decide_true, decide_false, Nat.reduceAdd, Nat.reduceMul, Nat.reduceEqDiff, Nat.reduceLeDiff, hg]
          exact ⟨(k + 1, bst, M2), ⟨hkt, hkM.trans kg, best_skip hbest fun h => by rw [← ec, hwa] at h; exact absurd h.1 (by decide)⟩, by simp only; omega, Weak.sub (by (simp -implicitDefEqProofs (disch := omega) only [Abs.Sub, get_cons_eq, get_cons_ne, and_self, Option.some.injEq, Value.int.injEq, Value.slice.injEq, true_and, and_true, Int.natCast_zero, Int.natCast_add, Int.natCast_one, List.length_nil]; try omega))⟩
        | true =>
          have hwk : w.app (lat l k) = true := by rw [← ec]; exact hwa
          rcases id hbest with ⟨rfl, _⟩ | ⟨j, rfl, hjk, _⟩
          · simp -implicitDefEqProofs (maxSteps := 2000000) (disch := first | omega | (simp only [nx_new, nx_set, List.length_cons, List.length_nil, List.length_map, List.length_set, ne_eq, not_true_eq_false, not_false_eq_true, Nat.succ_ne_zero]; done) | (simp only [nx_new, nx_set, List.length_cons, List.length_nil, List.length_map, List.length_set, ne_eq, not_true_eq_false, not_false_eq_true, Nat.succ_ne_zero]; omega)) only [go_sem, reduceIte, reduceCtorEq, Nat.succ_ne_zero, not_false_eq_true, decide_true, decide_false, Nat.reduceAdd, Nat.reduceMul, Nat.reduceEqDiff, Nat.reduceLeDiff, hg]
            exact ⟨(k + 1, (k : Int), M2), ⟨hkt, hkM.trans kg, best_first hbest hwk hkn⟩, by simp only; omega, Weak.sub (by (simp -implicitDefEqProofs (disch := omega) only [Abs.Sub, get_cons_eq, get_cons_ne, and_self, Option.some.injEq, Value.int.injEq, Value.slice.injEq, true_and, and_true, Int.natCast_zero, Int.natCast_add, Int.natCast_one, List.length_nil]; try omega))⟩
          · have hj3 := hold j (by omega)
            by_cases hat : (lat l j).at_ ≤ c.at_
            · have d1 : decide ((lat l j).at_ ≤ c.at_) = true := decide_eq_true hat
              simp -implicitDefEqProofs (maxSteps := 2000000) (disch := first | omega | (simp only [nx_new, nx_set, List.length_cons, List.length_nil, List.length_map, List.length_set, ne_eq, not_true_eq_false, not_false_eq_true, Nat.succ_ne_zero]; done) | (simp only [nx_new, nx_set, List.length_cons, List.length_nil, List.length_map, List.length_set, ne_eq, not_true_eq_false, not_false_eq_true, Nat.succ_ne_zero]; omega)) only [go_sem, reduceIte, reduceCtorEq, Nat.succ_ne_zero, not_false_eq_true, decide_true, decide_false, Nat.reduceAdd, Nat.reduceMul, Nat.reduceEqDiff, Nat.reduceLeDiff, hg, hj3, lat3', d1]
              exact ⟨(k + 1, (k : Int), M2), ⟨hkt, hkM.trans kg, best_new hbest hwk hkn (by rw [← ec]; exact hat)⟩, by simp only; omega, Weak.sub (by (simp -implicitDefEqProofs (disch := omega) only [Abs.Sub, get_cons_eq, get_cons_ne, and_self, Option.some.injEq, Value.int.injEq, Value.slice.injEq, true_and, and_true, Int.natCast_zero, Int.natCast_add, Int.natCast_one, List.length_nil]; try omega))⟩
            · have d1 : decide ((lat l j).at_ ≤ c.at_) = false := decide_eq_false hat
              simp -implicitDefEqProofs (maxSteps := 2000000) (disch := first | omega | (simp only [nx_new, nx_set, List.length_cons, List.length_nil, List.length_map, List.length_set, ne_eq, not_true_eq_false, not_false_eq_true, Nat.succ_ne_zero]; done) | (simp only [nx_new, nx_set, List.length_cons, List.length_nil, List.length_map, List.length_set, ne_eq, not_true_eq_false, not_false_eq_true, Nat.succ_ne_zero]; omega)) only [go_sem, reduceIte, reduceCtorEq, Nat.succ_ne_zero, not_false_eq_true, decide_true, decide_false, Nat.reduceAdd, Nat.reduceMul, Nat.reduceEqDiff, Nat.reduceLeDiff, hg, hj3, lat3', d1]
              exact ⟨(k + 1, (j : Int), M2), ⟨hkt, hkM.trans kg, best_old hbest (by rw [← ec]; omega)⟩, by simp only; omega, Weak.sub (by (simp -implicitDefEqProofs (disch := omega) only [Abs.Sub, get_cons_eq, get_cons_ne, and_self, Option.some.injEq, Value.int.injEq, Value.slice.injEq, true_and, and_true, Int.natCast_zero, Int.natCast_add, Int.natCast_one, List.length_nil]; try omega))⟩
    · obtain rfl : k = l.length := by omega
      rcases hbest with ⟨rfl, hno⟩ | ⟨j, rfl, hjl, hja, hjn, hmax⟩
      · simp -implicitDefEqProofs (maxSteps := 2000000) (disch := first | omega | (simp only [nx_new, nx_set, List.length_cons, List.length_nil, List.length_map, List.length_set, ne_eq, not_true_eq_false, not_false_eq_true, Nat.succ_ne_zero]; done) | (simp only [nx_new, nx_set, List.length_cons, List.length_nil, List.length_map, List.length_set, ne_eq, not_true_eq_false, not_false_eq_true, Nat.succ_ne_zero]; omega)) only [go_sem, reduceIte, reduceCtorEq, Nat.succ_ne_zero, not_false_eq_true, decide_true, decide_false, Nat.reduceAdd, Nat.reduceMul, Nat.reduceEqDiff, Nat.reduceLeDiff]
        have hfin2 := hfin (.inl (none_is hp hno))
        obtain ⟨_, o', e', ho'⟩ := hfin2
        exact ret_r (v := .slice o r r) (by rw [ares_tmp ret26]; rfl) ⟨hHM, o', e', ho'.keeps hkM⟩
      · obtain ⟨hrl, hSr⟩ := best_is hp hs hjl hja hjn hmax
        obtain ⟨b0, o0, rfl, hload⟩ := cal_at heM j hjl
        have hpv : ∀ X, Keeps H X → aload X ⟨b0, o0 + j * 9 + 5, none⟩ 4 = some (lat l j).pc := fun X hX => by
          obtain ⟨b', o', e', hl'⟩ := cal_at (he.grows hX.grows) j hjl
          cases e'
          rw [← lat_get hjl] at hl'
          exact aload_sub hl' (i := 5) (m := 4) (by decide)
        have htk : S.take (r + 1) = S.take r ++ [j] := by rw [List.take_succ_eq_append_getElem hrl, hSr]
        have hbs := bools_set (T := S.take r) hjl
        have hbl := bools_len l.length (S.take r)
        rw [← htk] at hbs
        have hpc : pcs l (S.take (r + 1)) = pcs l (S.take r) ++ [(lat l j).pc] := by rw [htk, pcs, List.map_append]; rfl
        have hpl : (pcs l (S.take r)).flatten.length = r * 4 := by
          rw [flat_len (pcs_len _ _), pcs, List.length_map, List.length_take, Nat.min_eq_left hrS]
        have hnM : H.next < M.next := Nat.lt_of_lt_of_le hlt hkM.next
        have kset : Keeps H (M.set H.next (.row ((bools l.length (S.take r)).set j (.bool true)) true 1)) := hHM.set (Nat.le_refl _)
        have hpv2 := hpv _ kset
        have ho2 : OwnSl (H.next + 1) (M.set H.next (.row ((bools l.length (S.take r)).set j (.bool true)) true 1)) o 4 (pcs l (S.take r)).flatten := by
          rcases ho.keeps hkM with h | ⟨q, h1, h2, h3, h4⟩
          · exact .inl h
          · exact .inr ⟨q, h1, h2, h3, by rw [Hp.get_set_ne _ _ _ _ (by omega)]; exact h4⟩
        have gset : (M.set H.next (.row ((bools l.length (S.take r)).set j (.bool true)) true 1)).get H.next = .row (bools l.length (S.take (r + 1))) true 1 := by
          rw [hbs]; exact Hp.get_set_same _ _ _ _ rfl
        have nset : (M.set H.next (.row ((bools l.length (S.take r)).set j (.bool true)) true 1)).next = M.next := rfl
        rw [Cal.pc] at hpv2
        simp -implicitDefEqProofs (maxSteps := 2000000) (disch := first | omega | (simp only [nx_new, nx_set, List.length_cons, List.length_nil, List.length_map, List.length_set, ne_eq, not_true_eq_false, not_false_eq_true, Nat.succ_ne_zero]; done) | (simp only [nx_new, nx_set, List.length_cons, List.length_nil, List.length_map, List.length_set, ne_eq, not_true_eq_false, not_false_eq_true, Nat.succ_ne_zero]; omega)) only [go_sem, reduceIte, reduceCtorEq, Nat.succ_ne_zero, not_false_eq_true, decide_true, decide_false, Nat.reduceAdd, Nat.reduceMul, Nat.reduceEqDiff, Nat.reduceLeDiff, gM]
        generalize M.set H.next (.row ((bools l.length (S.take r)).set j (.bool true)) true 1) = M2 at *
        simp -implicitDefEqProofs (maxSteps := 2000000) (disch := first | omega | (simp only [nx_new, nx_set, List.length_cons, List.length_nil, List.length_map, List.length_set, ne_eq, not_true_eq_false, not_false_eq_true, Nat.succ_ne_zero]; done) | (simp only [nx_new, nx_set, List.length_cons, List.length_nil, List.length_map, List.length_set, ne_eq, not_true_eq_false, not_false_eq_true, Nat.succ_ne_zero]; omega)) only [go_sem, reduceIte, reduceCtorEq, Nat.succ_ne_zero, not_false_eq_true, decide_true, decide_false, Nat.reduceAdd, Nat.reduceMul, Nat.reduceEqDiff, Nat.reduceLeDiff, hpv2]
        obtain ⟨M3, hap, hn3, hg3, hold⟩ := append_own (P := Try.prog) u37 u37 ts27 tb27 tz27 rfl (by decide) (by decide) (G := M2.new (.row (lat l j).pc true 4)) (lo := H.next + 1) (n := r) (c := r) (m := 1) (c' := 1) (r := M2.next) (ro := 0) (xs := (lat l j).pc) (ho2.keeps (Keeps.new _ _))
          (by rw [Cal.pc]; simp -implicitDefEqProofs (maxSteps := 2000000) (disch := first | omega | (simp only [nx_new, nx_set, List.length_cons, List.length_nil, List.length_map, List.length_set, ne_eq, not_true_eq_false, not_false_eq_true, Nat.succ_ne_zero]; done) | (simp only [nx_new, nx_set, List.length_cons, List.length_nil, List.length_map, List.length_set, ne_eq, not_true_eq_false, not_false_eq_true, Nat.succ_ne_zero]; omega)) only [go_sem, reduceIte, reduceCtorEq, Nat.succ_ne_zero, not_false_eq_true, decide_true, decide_false, Nat.reduceAdd, Nat.reduceMul, Nat.reduceEqDiff, Nat.reduceLeDiff]) rfl (by decide) hpl (by omega)
        rw [Cal.pc] at hap
        rw [hap]
        have hn3' : M3.next = M2.next + 1 + 1 := hn3
        have hg3' : M3.get (M2.next + 1) = .row ((pcs l (S.take r)).flatten ++ (lat l j).pc) true 4 := hg3
        have hold' : ∀ b, b < H.next + 1 → M3.get b = M2.get b := fun b hb => by
          rw [hold b (by simp only [Hp.next_new]; omega) (ho2.lo_ne hb), Hp.get_new_ne _ _ _ (by omega)]
        simp -implicitDefEqProofs (maxSteps := 2000000) (disch := first | omega | (simp only [nx_new, nx_set, List.length_cons, List.length_nil, List.length_map, List.length_set, ne_eq, not_true_eq_false, not_false_eq_true, Nat.succ_ne_zero]; done) | (simp only [nx_new, nx_set, List.length_cons, List.length_nil, List.length_map, List.length_set, ne_eq, not_true_eq_false, not_false_eq_true, Nat.succ_ne_zero]; omega)) only [go_sem, reduceIte, reduceCtorEq, Nat.succ_ne_zero, not_false_eq_true, decide_true, decide_false, Nat.reduceAdd, Nat.reduceMul, Nat.reduceEqDiff, Nat.reduceLeDiff]
        refine ⟨(r + 1, M3, some ⟨M2.next + 1, 0, none⟩), ⟨hlt5, hrl, ⟨by simp only; omega, fun b hb => ?_⟩, by simp only; omega, ?_, .inr ⟨M2.next + 1, rfl, by omega, by simp only; omega, ?_⟩⟩, by simp only; omega, Weak.sub (by (simp -implicitDefEqProofs (disch := omega) only [Abs.Sub, get_cons_eq, get_cons_ne, and_self, Option.some.injEq, Value.int.injEq, Value.slice.injEq, true_and, and_true, Int.natCast_zero, Int.natCast_add, Int.natCast_one, List.length_nil]; try omega))⟩
        · rw [hold' b (by omega)]; exact kset.get b hb
        · rw [hold' _ (by omega)]; exact gset
        · rw [hg3', hpc, List.flatten_append]; simp
  · obtain rfl : r = 5 := by omega
    simp -implicitDefEqProofs (maxSteps := 2000000) (disch := first | omega | (simp only [nx_new, nx_set, List.length_cons, List.length_nil, List.length_map, List.length_set, ne_eq, not_true_eq_false, not_false_eq_true, Nat.succ_ne_zero]; done) | (simp only [nx_new, nx_set, List.length_cons, List.length_nil, List.length_map, List.length_set, ne_eq, not_true_eq_false, not_false_eq_true, Nat.succ_ne_zero]; omega)) only [go_sem, reduceIte, reduceCtorEq, Nat.succ_ne_zero, not_false_eq_true, decide_true, decide_false, Nat.reduceAdd, Nat.reduceMul, Nat.reduceEqDiff, Nat.reduceLeDiff]
    exact ret_r (v := .slice o 5 5) (by rw [ares_tmp ret26]; rfl) (hfin (.inr rfl))
end Go.Proofs.Ytejpfdhlpcgfkaa
