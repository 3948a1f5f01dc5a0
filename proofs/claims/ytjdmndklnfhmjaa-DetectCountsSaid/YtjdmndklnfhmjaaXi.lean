/- tallies, only, Confirmed, walked. -/
import Derived.Test.YtjdmndklnfhmjaaXh
import Derived.Test.YtjdmndklnfhmjaaXt
set_option linter.unusedVariables false
set_option linter.unusedSimpArgs false
set_option linter.unusedSectionVars false
namespace Go.Proofs.Ytjdmndklnfhmjaa
open Go.Abs
set_option maxHeartbeats 8000000
set_option maxRecDepth 100000
def okT (x : Tal) : Bool := okP x.t x.c x.f && decide (1 ≤ x.n) && decide (x.n ≤ 1000)
def stepOk (l : List Tal) (i : Nat) : Bool := okT (l.getD i ⟨0, 0, 0, 0⟩) && (decide (i = 0) || ltT (l.getD (i - 1) ⟨0, 0, 0, 0⟩) (l.getD i ⟨0, 0, 0, 0⟩))
def talsOk (l : List Tal) : Bool := (List.range l.length).all (stepOk l) && decide (l.length ≤ 1000)
theorem getD_in {α : Type} {l : List α} {i : Nat} (h : i < l.length) (d : α) : l.getD i d = l[i] := by rw [List.getD_eq_getElem?_getD, List.getElem?_eq_getElem h]; rfl
theorem n30 : Try.f30.ntmps = 46 := rfl
theorem ret30 : Try.f30.results = #[.tmp 2] := rfl
theorem cmp_ge {p q : Pl} : decide (0 ≤ cmpP p q) = !decide (p.lt q) := by
  rw [← decide_not]
  exact decide_eq_decide.2 (by rw [← cmp_lt]; omega)
theorem cmp_geT (x y : Tal) : decide (0 ≤ cmpP x.pl y.pl) = !ltT x y := cmp_ge
theorem tallies_spec (H : Hp) (a : Option Addr) (l : List Tal) (hl : l.length ≤ 1000000) (he : Elems H a 4 (l.map Tal.cells)) :
    ACalls Try.prog 30 [.slice a l.length l.length] H (fun v H' => v = .bool (talsOk l) ∧ Keeps H H') := by
  refine ACalls_enter Try.func30 (by kernel_rfl) rfl (by kernel_rfl) (by simp [n30]) fun hw hr => AWP_of_awp ?_
  simp -implicitDefEqProofs (maxSteps := 2000000) (disch := first | omega | (simp only [nx_new, nx_set, List.length_cons, List.length_nil, List.length_map, List.length_set, ne_eq, not_true_eq_false, not_false_eq_true, Nat.succ_ne_zero]; done) | (simp only [nx_new, nx_set, List.length_cons, List.length_nil, List.length_map, List.length_set, ne_eq, not_true_eq_false, not_false_eq_true, Nat.succ_ne_zero]; omega)) only [go_sem, reduceIte, reduceCtorEq, Nat.succ_ne_zero, not_false_eq_true, decide_true, decide_false, Nat.reduceAdd, Nat.reduceMul, Nat.reduceEqDiff, Nat.reduceLeDiff]
  refine AWP_loop (σ := Nat × Hp) (fun s => [(7, .int .i64 s.1), (6, .int .i64 l.length), (5, .slice a l.length l.length), (0, .slice a l.length l.length)]) (fun s => s.2)
    (fun s => s.1 ≤ l.length ∧ Keeps H s.2 ∧ ∀ i, i < s.1 → stepOk l i = true) (fun s => l.length - s.1) (0, H) ⟨Nat.zero_le _, Keeps.refl _, fun i h => by omega⟩ (Weak.sub ?_) ?_
  · (simp -implicitDefEqProofs (disch := omega) only [Abs.Sub, get_cons_eq, get_cons_ne, and_self, Option.some.injEq, Value.int.injEq, Value.slice.injEq, true_and, and_true, Int.natCast_zero, Int.natCast_add, Int.natCast_one, List.length_nil]; try omega)
  rintro ⟨k, G⟩ ⟨hk4, hk, hok⟩
  simp only at hk4 hk hok ⊢
  have hkn := hk.next
  refine AWP_of_awp ?_
  by_cases hlt : k < l.length
  · obtain ⟨b, o, rfl, hload⟩ := tal_at (he.grows hk.grows) k hlt
    have hbn : b < G.next := by
      obtain ⟨b', o', e, h, _⟩ := (he.grows hk.grows) k (by rw [List.length_map]; exact hlt)
      cases e; exact h
    have hst : ∀ q, q = stepOk l k → q = false → talsOk l = false := fun q h1 h2 => by
      rw [talsOk, Bool.and_eq_false_iff]
      exact .inl (List.all_eq_false.2 ⟨k, List.mem_range.2 hlt, by rw [← h1, h2]; decide⟩)
    have hsk : stepOk l k = (okT l[k] && (decide (k = 0) || ltT (l.getD (k - 1) ⟨0, 0, 0, 0⟩) l[k])) := by
      rw [stepOk, getD_in hlt]
    rw [hsk] at hst
    have hdone : (okT l[k] && (decide (k = 0) || ltT (l.getD (k - 1) ⟨0, 0, 0, 0⟩) l[k])) = true → ∀ i, i < k + 1 → stepOk l i = true := fun h i hi => by
      rcases Nat.lt_succ_iff_lt_or_eq.1 hi with h' | h'
      · exact hok i h'
      · rw [h', hsk]; exact h
    clear hsk
    generalize l[k] = x at *
    obtain ⟨t, c, f, n⟩ := x
    have hof := fun G => at_spec G t c f n
    have hex := fun G => exists_spec G t c f
    simp only [Tal.cells] at hload
    simp only [okT] at hst hdone
    simp -implicitDefEqProofs (maxSteps := 2000000) (disch := first | omega | (simp only [nx_new, nx_set, List.length_cons, List.length_nil, List.length_map, List.length_set, ne_eq, not_true_eq_false, not_false_eq_true, Nat.succ_ne_zero]; done) | (simp only [nx_new, nx_set, List.length_cons, List.length_nil, List.length_map, List.length_set, ne_eq, not_true_eq_false, not_false_eq_true, Nat.succ_ne_zero]; omega)) only [go_sem, reduceIte, reduceCtorEq, Nat.succ_ne_zero, not_false_eq_true, decide_true, decide_false, Nat.reduceAdd, Nat.reduceMul, Nat.reduceEqDiff, Nat.reduceLeDiff, hload]
    obtain ⟨M, eM⟩ : ∃ M, M = G.new (.row [.int .i64 t, .int .i64 c, .int .i64 f, .int .i64 n] true 0) := ⟨_, rfl⟩
    rw [← eM]
    have kM : Keeps G M := by rw [eM]; exact Keeps.new _ _
    have nM : M.next = G.next + 1 := by rw [eM]; rfl
    have gM : M.get G.next = .row [.int .i64 t, .int .i64 c, .int .i64 f, .int .i64 n] true 0 := by rw [eM]; exact Hp.get_new_same _ _ _ rfl
    clear eM
    have la : aload M ⟨G.next, 0, none⟩ 4 = some [.int .i64 t, .int .i64 c, .int .i64 f, .int .i64 n] := aload_row gM (Nat.le_refl 4)
    have l3 : load1 M ⟨G.next, 3, none⟩ = some (.int .i64 n) := (l1_row _ _ _ _ _ gM).trans rfl
    refine AWP_draw_treeN (.list 0 (.list 1 (.list 2 (.list 3 (.list 4 (.list 5 (.list 6 (.list 7 (.list 8 (.list 9 (.list 10 (.list 11 (.list 12 (.list 13 (.list 14 (.list 15 (.list 16 (.list 17 (.list 18 (.list 19 (.list 20 (.list 21 (.list 22 (.list 24 (.list 23 (.list 25 (.list 26 (.list 27 (.list 28 (.list 29 .done)))))))))))))))))))))))))))))) mo (by kernel_rfl) ?_
    simp -implicitDefEqProofs (maxSteps := 2000000) (disch := first | omega | (simp only [nx_new, nx_set, List.length_cons, List.length_nil, List.length_map, List.length_set, ne_eq, not_true_eq_false, not_false_eq_true, Nat.succ_ne_zero]; done) | (simp only [nx_new, nx_set, List.length_cons, List.length_nil, List.length_map, List.length_set, ne_eq, not_true_eq_false, not_false_eq_true, Nat.succ_ne_zero]; omega)) only [go_sem, reduceIte, reduceCtorEq, Nat.succ_ne_zero, not_false_eq_true, decide_true, decide_false, Nat.reduceAdd, Nat.reduceMul, Nat.reduceEqDiff, Nat.reduceLeDiff, la]
    refine (hof _).mono ?_
    rintro _ G2 ⟨rfl, k2⟩
    have kg2 := k2.grows
    simp -implicitDefEqProofs (maxSteps := 2000000) (disch := first | omega | (simp only [nx_new, nx_set, List.length_cons, List.length_nil, List.length_map, List.length_set, ne_eq, not_true_eq_false, not_false_eq_true, Nat.succ_ne_zero]; done) | (simp only [nx_new, nx_set, List.length_cons, List.length_nil, List.length_map, List.length_set, ne_eq, not_true_eq_false, not_false_eq_true, Nat.succ_ne_zero]; omega)) only [go_sem, reduceIte, reduceCtorEq, Nat.succ_ne_zero, not_false_eq_true, decide_true, decide_false, Nat.reduceAdd, Nat.reduceMul, Nat.reduceEqDiff, Nat.reduceLeDiff, kg2]
    refine (hex _).mono ?_
    rintro _ G3 ⟨rfl, k3⟩
    have kg3 := k3.grows
    have k23 := k2.trans k3
    have nG3 := k23.next
    have gG3 : G3.get G.next = .row [.int .i64 t, .int .i64 c, .int .i64 f, .int .i64 n] true 0 := (k23.get _ (by omega)).trans gM
    have l3' : load1 G3 ⟨G.next, 3, none⟩ = some (.int .i64 n) := (l1_row _ _ _ _ _ gG3).trans rfl
    have la' : aload G3 ⟨G.next, 0, none⟩ 4 = some [.int .i64 t, .int .i64 c, .int .i64 f, .int .i64 n] := aload_row gG3 (Nat.le_refl 4)
    have kG3 := (hk.trans kM).trans k23
    cases e0 : okP t c f with
    | false =>
      simp -implicitDefEqProofs (maxSteps := 2000000) (disch := first | omega | (simp only [nx_new, nx_set, List.length_cons, List.length_nil, List.length_map, List.length_set, ne_eq, not_true_eq_false, not_false_eq_true, Nat.succ_ne_zero]; done) | (simp only [nx_new, nx_set, List.length_cons, List.length_nil, List.length_map, List.length_set, ne_eq, not_true_eq_false, not_false_eq_true, Nat.succ_ne_zero]; omega)) only [go_sem, reduceIte, reduceCtorEq, Nat.succ_ne_zero, not_false_eq_true, decide_true, decide_false, Nat.reduceAdd, Nat.reduceMul, Nat.reduceEqDiff, Nat.reduceLeDiff, kg3]
      exact ret_r (v := .bool false) (by rw [ares_tmp ret30]; rfl) ⟨by rw [hst _ rfl (by rw [e0]; rfl)], kG3⟩
    | true =>
      by_cases h1 : n < 1
      · simp -implicitDefEqProofs (maxSteps := 2000000) (disch := first | omega | (simp only [nx_new, nx_set, List.length_cons, List.length_nil, List.length_map, List.length_set, ne_eq, not_true_eq_false, not_false_eq_true, Nat.succ_ne_zero]; done) | (simp only [nx_new, nx_set, List.length_cons, List.length_nil, List.length_map, List.length_set, ne_eq, not_true_eq_false, not_false_eq_true, Nat.succ_ne_zero]; omega)) only [go_sem, reduceIte, reduceCtorEq, Nat.succ_ne_zero, not_false_eq_true, decide_true, decide_false, Nat.reduceAdd, Nat.reduceMul, Nat.reduceEqDiff, Nat.reduceLeDiff, kg3, l3']
        exact ret_r (v := .bool false) (by rw [ares_tmp ret30]; rfl) ⟨by rw [hst _ rfl (by rw [decide_eq_false (by omega : ¬ 1 ≤ n), Bool.and_false, Bool.false_and, Bool.false_and])], kG3⟩
      by_cases h2 : 1000 < n
      · simp -implicitDefEqProofs (maxSteps := 2000000) (disch := first | omega | (simp only [nx_new, nx_set, List.length_cons, List.length_nil, List.length_map, List.length_set, ne_eq, not_true_eq_false, not_false_eq_true, Nat.succ_ne_zero]; done) | (simp only [nx_new, nx_set, List.length_cons, List.length_nil, List.length_map, List.length_set, ne_eq, not_true_eq_false, not_false_eq_true, Nat.succ_ne_zero]; omega)) only [go_sem, reduceIte, reduceCtorEq, Nat.succ_ne_zero, not_false_eq_true, decide_true, decide_false, Nat.reduceAdd, Nat.reduceMul, Nat.reduceEqDiff, Nat.reduceLeDiff, kg3, l3']
        exact ret_r (v := .bool false) (by rw [ares_tmp ret30]; rfl) ⟨by rw [hst _ rfl (by rw [decide_eq_false (by omega : ¬ n ≤ 1000), Bool.and_false, Bool.false_and])], kG3⟩
      have d1 : decide (1 ≤ n) = true := decide_eq_true (by omega)
      have d2 : decide (n ≤ 1000) = true := decide_eq_true (by omega)
      rw [e0, d1, d2] at hst hdone
      simp only [Bool.true_and] at hst hdone
      by_cases h3 : k = 0
      · subst h3
        simp -implicitDefEqProofs (maxSteps := 2000000) (disch := first | omega | (simp only [nx_new, nx_set, List.length_cons, List.length_nil, List.length_map, List.length_set, ne_eq, not_true_eq_false, not_false_eq_true, Nat.succ_ne_zero]; done) | (simp only [nx_new, nx_set, List.length_cons, List.length_nil, List.length_map, List.length_set, ne_eq, not_true_eq_false, not_false_eq_true, Nat.succ_ne_zero]; omega)) only [go_sem, reduceIte, reduceCtorEq, Nat.succ_ne_zero, not_false_eq_true, decide_true, decide_false, Nat.reduceAdd, Nat.reduceMul, Nat.reduceEqDiff, Nat.reduceLeDiff, kg3, l3']
        exact ⟨(1, G3), ⟨hlt, kG3, hdone rfl⟩, by simp only; omega, Weak.sub (by (simp -implicitDefEqProofs (disch := omega) only [Abs.Sub, get_cons_eq, get_cons_ne, and_self, Option.some.injEq, Value.int.injEq, Value.slice.injEq, true_and, and_true, Int.natCast_zero, Int.natCast_add, Int.natCast_one, List.length_nil]; try omega))⟩
      · rw [decide_eq_false h3, Bool.false_or] at hst hdone
        have hk1 : k - 1 < l.length := by omega
        obtain ⟨b', o', e, hload'⟩ := tal_at (he.grows kG3.grows) (k - 1) hk1
        cases e
        have hpk := hok (k - 1) (by omega)
        rw [stepOk, getD_in hk1] at hpk
        rw [getD_in hk1] at hst hdone
        generalize l[k - 1] = y at *
        obtain ⟨t', c', f', n'⟩ := y
        have hof' := fun G => at_spec G t' c' f' n'
        simp only [Bool.and_eq_true, okT] at hpk
        have hs1 := ok_small (p := ⟨t', c', f'⟩) hpk.1.1.1
        have hs2 := ok_small (p := ⟨t, c, f⟩) e0
        have hcm := fun G => compare_spec G ⟨t', c', f'⟩ ⟨t, c, f⟩ hs1 hs2
        simp only [Tal.cells] at hload'
        have hidx : (k : Int) - 1 = ((k - 1 : Nat) : Int) := by omega
        simp -implicitDefEqProofs (maxSteps := 2000000) (disch := first | omega | (simp only [nx_new, nx_set, List.length_cons, List.length_nil, List.length_map, List.length_set, ne_eq, not_true_eq_false, not_false_eq_true, Nat.succ_ne_zero]; done) | (simp only [nx_new, nx_set, List.length_cons, List.length_nil, List.length_map, List.length_set, ne_eq, not_true_eq_false, not_false_eq_true, Nat.succ_ne_zero]; omega)) only [go_sem, reduceIte, reduceCtorEq, Nat.succ_ne_zero, not_false_eq_true, decide_true, decide_false, Nat.reduceAdd, Nat.reduceMul, Nat.reduceEqDiff, Nat.reduceLeDiff, kg3, l3', hidx, hload', la']
        refine (hof' _).mono ?_
        rintro _ G4 ⟨rfl, k4⟩
        have kg4 := k4.grows
        have gG4 : G4.get G.next = .row [.int .i64 t, .int .i64 c, .int .i64 f, .int .i64 n] true 0 := (k4.get _ (by omega)).trans gG3
        have la4 : aload G4 ⟨G.next, 0, none⟩ 4 = some [.int .i64 t, .int .i64 c, .int .i64 f, .int .i64 n] := aload_row gG4 (Nat.le_refl 4)
        simp -implicitDefEqProofs (maxSteps := 2000000) (disch := first | omega | (simp only [nx_new, nx_set, List.length_cons, List.length_nil, List.length_map, List.length_set, ne_eq, not_true_eq_false, not_false_eq_true, Nat.succ_ne_zero]; done) | (simp only [nx_new, nx_set, List.length_cons, List.length_nil, List.length_map, List.length_set, ne_eq, not_true_eq_false, not_false_eq_true, Nat.succ_ne_zero]; omega)) only [go_sem, reduceIte, reduceCtorEq, Nat.succ_ne_zero, not_false_eq_true, decide_true, decide_false, Nat.reduceAdd, Nat.reduceMul, Nat.reduceEqDiff, Nat.reduceLeDiff, kg4]
        refine (hof _).mono ?_
        rintro _ G5 ⟨rfl, k5⟩
        have kg5 := k5.grows
        simp -implicitDefEqProofs (maxSteps := 2000000) (disch := first | omega | (simp only [nx_new, nx_set, List.length_cons, List.length_nil, List.length_map, List.length_set, ne_eq, not_true_eq_false, not_false_eq_true, Nat.succ_ne_zero]; done) | (simp only [nx_new, nx_set, List.length_cons, List.length_nil, List.length_map, List.length_set, ne_eq, not_true_eq_false, not_false_eq_true, Nat.succ_ne_zero]; omega)) only [go_sem, reduceIte, reduceCtorEq, Nat.succ_ne_zero, not_false_eq_true, decide_true, decide_false, Nat.reduceAdd, Nat.reduceMul, Nat.reduceEqDiff, Nat.reduceLeDiff, kg5]
        refine (hcm _).mono ?_
        rintro _ G6 ⟨rfl, k6⟩
        have kg6 := k6.grows
        have kG6 := ((kG3.trans k4).trans k5).trans k6
        simp -implicitDefEqProofs (maxSteps := 2000000) (disch := first | omega | (simp only [nx_new, nx_set, List.length_cons, List.length_nil, List.length_map, List.length_set, ne_eq, not_true_eq_false, not_false_eq_true, Nat.succ_ne_zero]; done) | (simp only [nx_new, nx_set, List.length_cons, List.length_nil, List.length_map, List.length_set, ne_eq, not_true_eq_false, not_false_eq_true, Nat.succ_ne_zero]; omega)) only [go_sem, reduceIte, reduceCtorEq, Nat.succ_ne_zero, not_false_eq_true, decide_true, decide_false, Nat.reduceAdd, Nat.reduceMul, Nat.reduceEqDiff, Nat.reduceLeDiff, kg6]
        refine condS_split (fun hc => ?_) (fun hc => ?_)
        · have h0 := of_decide_eq_true hc
          have hl2 : ltT ⟨t', c', f', n'⟩ ⟨t, c, f, n⟩ = false := decide_eq_false (fun h => by have := cmp_lt.2 h; simp only [Tal.pl] at this; omega)
          simp -implicitDefEqProofs (maxSteps := 2000000) (disch := first | omega | (simp only [nx_new, nx_set, List.length_cons, List.length_nil, List.length_map, List.length_set, ne_eq, not_true_eq_false, not_false_eq_true, Nat.succ_ne_zero]; done) | (simp only [nx_new, nx_set, List.length_cons, List.length_nil, List.length_map, List.length_set, ne_eq, not_true_eq_false, not_false_eq_true, Nat.succ_ne_zero]; omega)) only [go_sem, reduceIte, reduceCtorEq, Nat.succ_ne_zero, not_false_eq_true, decide_true, decide_false, Nat.reduceAdd, Nat.reduceMul, Nat.reduceEqDiff, Nat.reduceLeDiff, hc]
          exact ret_r (v := .bool false) (by rw [ares_tmp ret30]; rfl) ⟨by rw [hst _ rfl hl2], kG6⟩
        · have h0 := of_decide_eq_false hc
          have hl2 : ltT ⟨t', c', f', n'⟩ ⟨t, c, f, n⟩ = true := decide_eq_true (cmp_lt.1 (by simp only [Tal.pl]; omega))
          simp -implicitDefEqProofs (maxSteps := 2000000) (disch := first | omega | (simp only [nx_new, nx_set, List.length_cons, List.length_nil, List.length_map, List.length_set, ne_eq, not_true_eq_false, not_false_eq_true, Nat.succ_ne_zero]; done) | (simp only [nx_new, nx_set, List.length_cons, List.length_nil, List.length_map, List.length_set, ne_eq, not_true_eq_false, not_false_eq_true, Nat.succ_ne_zero]; omega)) only [go_sem, reduceIte, reduceCtorEq, Nat.succ_ne_zero, not_false_eq_true, decide_true, decide_false, Nat.reduceAdd, Nat.reduceMul, Nat.reduceEqDiff, Nat.reduceLeDiff, hc]
          exact ⟨(k + 1, G6), ⟨hlt, kG6, hdone hl2⟩, by simp only; omega, Weak.sub (by (simp -implicitDefEqProofs (disch := omega) only [Abs.Sub, get_cons_eq, get_cons_ne, and_self, Option.some.injEq, Value.int.injEq, Value.slice.injEq, true_and, and_true, Int.natCast_zero, Int.natCast_add, Int.natCast_one, List.length_nil]; try omega))⟩
  · obtain rfl : k = l.length := by omega
    have hall : (List.range l.length).all (stepOk l) = true := List.all_eq_true.2 fun i hi => hok i (List.mem_range.1 hi)
    simp -implicitDefEqProofs (maxSteps := 2000000) (disch := first | omega | (simp only [nx_new, nx_set, List.length_cons, List.length_nil, List.length_map, List.length_set, ne_eq, not_true_eq_false, not_false_eq_true, Nat.succ_ne_zero]; done) | (simp only [nx_new, nx_set, List.length_cons, List.length_nil, List.length_map, List.length_set, ne_eq, not_true_eq_false, not_false_eq_true, Nat.succ_ne_zero]; omega)) only [go_sem, reduceIte, reduceCtorEq, Nat.succ_ne_zero, not_false_eq_true, decide_true, decide_false, Nat.reduceAdd, Nat.reduceMul, Nat.reduceEqDiff, Nat.reduceLeDiff]
    refine ret_r (v := .bool (decide ((l.length : Int) ≤ 1000))) (by rw [ares_tmp ret30]; rfl) ⟨?_, hk⟩
    rw [talsOk, hall, Bool.true_and]
    congr 1
    exact decide_eq_decide.2 (by omega)
end Go.Proofs.Ytjdmndklnfhmjaa
