/- only, Confirmed, walked. -/
import Derived.Test.YtjdmndklnfhmjaaXi
set_option linter.unusedVariables false
set_option linter.unusedSimpArgs false
set_option linter.unusedSectionVars false
namespace Go.Proofs.Ytjdmndklnfhmjaa
open Go.Abs
set_option maxHeartbeats 8000000
set_option maxRecDepth 100000
theorem n38 : Try.f38.ntmps = 8 := rfl
theorem ret38 : Try.f38.results = #[.tmp 3] := rfl
theorem need_spec (H : Hp) (x : Tal) (need : Int) (q : Nat) (hq : H.get q = .row [.int .i64 need] true 0) :
    ACalls Try.prog 38 [.agg x.cells.toArray, .pointer (some ⟨q, 0, none⟩)] H (fun v H' => v = .bool (decide (need ≤ x.n)) ∧ Keeps H H') := by
  obtain ⟨t, c, f, n⟩ := x
  simp only [Tal.cells]
  refine ACalls_enter Try.func38 (by kernel_rfl) rfl (by kernel_rfl) (by simp [n38]) fun hw hr => AWP_of_awp ?_
  have hqn := (hw _ _ _ _ hq).1
  have lq : load1 H ⟨q, 0, none⟩ = some (.int .i64 need) := (l1_row _ _ _ _ _ hq).trans rfl
  simp -implicitDefEqProofs (maxSteps := 2000000) (disch := first | omega | (simp only [nx_new, nx_set, List.length_cons, List.length_nil, List.length_map, List.length_set, ne_eq, not_true_eq_false, not_false_eq_true, Nat.succ_ne_zero]; done) | (simp only [nx_new, nx_set, List.length_cons, List.length_nil, List.length_map, List.length_set, ne_eq, not_true_eq_false, not_false_eq_true, Nat.succ_ne_zero]; omega)) only [go_sem, reduceIte, reduceCtorEq, Nat.succ_ne_zero, not_false_eq_true, decide_true, decide_false, Nat.reduceAdd, Nat.reduceMul, Nat.reduceEqDiff, Nat.reduceLeDiff, lq]
  exact ret_r (v := .bool (decide (need ≤ n))) (by rw [ares_tmp ret38]; rfl) ⟨rfl, Keeps.new _ _⟩
def conf (l : List Tal) (need : Int) : List Tal := l.filter fun x => decide (need ≤ x.n)
theorem n37 : Try.f37.ntmps = 23 := rfl
theorem ret37 : Try.f37.results = #[.tmp 4] := rfl
theorem only_spec (H : Hp) (a : Option Addr) (l : List Tal) (need : Int) (q : Nat) (hl : l.length ≤ 1000000) (he : Elems H a 4 (l.map Tal.cells)) (hq : H.get q = .row [.int .i64 need] true 0) :
    ACalls Try.prog 37 [.slice a l.length l.length, .func (.func 38) #[] #[.pointer (some ⟨q, 0, none⟩)]] H (fun v H' => Keeps H H' ∧ ∃ o, v = .slice o (conf l need).length (conf l need).length ∧ OwnSl H.next H' o 4 ((conf l need).map Tal.cells).flatten) := by
  refine ACalls_enter Try.func37 (by kernel_rfl) rfl (by kernel_rfl) (by simp [n37]) fun hw hr => AWP_of_awp ?_
  have hqn := (hw _ _ _ _ hq).1
  simp -implicitDefEqProofs (maxSteps := 2000000) (disch := first | omega | (simp only [nx_new, nx_set, List.length_cons, List.length_nil, List.length_map, List.length_set, ne_eq, not_true_eq_false, not_false_eq_true, Nat.succ_ne_zero]; done) | (simp only [nx_new, nx_set, List.length_cons, List.length_nil, List.length_map, List.length_set, ne_eq, not_true_eq_false, not_false_eq_true, Nat.succ_ne_zero]; omega)) only [go_sem, reduceIte, reduceCtorEq, Nat.succ_ne_zero, not_false_eq_true, decide_true, decide_false, Nat.reduceAdd, Nat.reduceMul, Nat.reduceEqDiff, Nat.reduceLeDiff]
  refine AWP_loop (σ := Nat × Hp × Option Addr) (fun s => [(10, .int .i64 s.1), (9, .int .i64 l.length), (8, .slice a l.length l.length), (5, .slice s.2.2 (conf (l.take s.1) need).length (conf (l.take s.1) need).length), (1, .func (.func 38) #[] #[.pointer (some ⟨q, 0, none⟩)])]) (fun s => s.2.1)
    (fun s => s.1 ≤ l.length ∧ Keeps H s.2.1 ∧ OwnSl H.next s.2.1 s.2.2 4 ((conf (l.take s.1) need).map Tal.cells).flatten) (fun s => l.length - s.1) (0, H, none) ⟨Nat.zero_le _, Keeps.refl _, OwnSl.none⟩ (Weak.sub ?_) ?_
  · have h0 : (conf (l.take 0) need).length = 0 := rfl
    simp only [h0]
    (simp -implicitDefEqProofs (disch := omega) only [Abs.Sub, get_cons_eq, get_cons_ne, and_self, Option.some.injEq, Value.int.injEq, Value.slice.injEq, true_and, and_true, Int.natCast_zero, Int.natCast_add, Int.natCast_one, List.length_nil]; try omega)
  rintro ⟨k, G, o⟩ ⟨hk4, hk, ho⟩
  simp only at hk4 hk ho ⊢
  have hkn := hk.next
  refine AWP_of_awp ?_
  by_cases hlt : k < l.length
  · obtain ⟨b, ob, rfl, hload⟩ := tal_at (he.grows hk.grows) k hlt
    have htk : conf (l.take (k + 1)) need = conf (l.take k) need ++ if decide (need ≤ l[k].n) = true then [l[k]] else [] := by
      rw [List.take_succ_eq_append_getElem hlt, conf, List.filter_append, conf]
      congr 1
      simp only [List.filter_cons, List.filter_nil]
    have hcl : (conf (l.take k) need).length ≤ k := by
      have := List.length_filter_le (fun x : Tal => decide (need ≤ x.n)) (l.take k)
      rw [List.length_take] at this
      rw [conf]; omega
    have hfl := tals_flat (conf (l.take k) need)
    generalize l[k] = x at *
    have hcall := fun G h => need_spec G x need q h
    have hxc : x.cells = [.int .i64 x.t, .int .i64 x.c, .int .i64 x.f, .int .i64 x.n] := rfl
    rw [hxc] at hload hcall
    simp -implicitDefEqProofs (maxSteps := 2000000) (disch := first | omega | (simp only [nx_new, nx_set, List.length_cons, List.length_nil, List.length_map, List.length_set, ne_eq, not_true_eq_false, not_false_eq_true, Nat.succ_ne_zero]; done) | (simp only [nx_new, nx_set, List.length_cons, List.length_nil, List.length_map, List.length_set, ne_eq, not_true_eq_false, not_false_eq_true, Nat.succ_ne_zero]; omega)) only [go_sem, reduceIte, reduceCtorEq, Nat.succ_ne_zero, not_false_eq_true, decide_true, decide_false, Nat.reduceAdd, Nat.reduceMul, Nat.reduceEqDiff, Nat.reduceLeDiff, hload]
    obtain ⟨M, eM⟩ : ∃ M, M = G.new (.row [.int .i64 x.t, .int .i64 x.c, .int .i64 x.f, .int .i64 x.n] true 0) := ⟨_, rfl⟩
    rw [← eM]
    have kM : Keeps G M := by rw [eM]; exact Keeps.new _ _
    have nM : M.next = G.next + 1 := by rw [eM]; rfl
    have gM : M.get G.next = .row [.int .i64 x.t, .int .i64 x.c, .int .i64 x.f, .int .i64 x.n] true 0 := by rw [eM]; exact Hp.get_new_same _ _ _ rfl
    clear eM
    have la : aload M ⟨G.next, 0, none⟩ 4 = some [.int .i64 x.t, .int .i64 x.c, .int .i64 x.f, .int .i64 x.n] := aload_row gM (Nat.le_refl 4)
    have hqM : M.get q = .row [.int .i64 need] true 0 := ((hk.trans kM).get q hqn).trans hq
    refine (hcall M hqM).mono ?_
    rintro _ G2 ⟨rfl, k2⟩
    have n2 := k2.next
    have g2 : G2.get G.next = .row [.int .i64 x.t, .int .i64 x.c, .int .i64 x.f, .int .i64 x.n] true 0 := (k2.get _ (by omega)).trans gM
    have la2 : aload G2 ⟨G.next, 0, none⟩ 4 = some [.int .i64 x.t, .int .i64 x.c, .int .i64 x.f, .int .i64 x.n] := aload_row g2 (Nat.le_refl 4)
    have kG2 := (hk.trans kM).trans k2
    have ho2 := ho.keeps (kM.trans k2)
    by_cases hn : need ≤ x.n
    · rw [decide_eq_true hn, if_pos rfl] at htk
      rw [decide_eq_true hn]
      simp -implicitDefEqProofs (maxSteps := 2000000) (disch := first | omega | (simp only [nx_new, nx_set, List.length_cons, List.length_nil, List.length_map, List.length_set, ne_eq, not_true_eq_false, not_false_eq_true, Nat.succ_ne_zero]; done) | (simp only [nx_new, nx_set, List.length_cons, List.length_nil, List.length_map, List.length_set, ne_eq, not_true_eq_false, not_false_eq_true, Nat.succ_ne_zero]; omega)) only [go_sem, reduceIte, reduceCtorEq, Nat.succ_ne_zero, not_false_eq_true, decide_true, decide_false, Nat.reduceAdd, Nat.reduceMul, Nat.reduceEqDiff, Nat.reduceLeDiff, la2]
      obtain ⟨G7, hap, h7n, h7g, hold, hob7⟩ := append_own (P := Try.prog) u33 u33 ts37 tb37 tz37 rfl (by decide) (by decide) (G := G2.new (.row [.int .i64 x.t, .int .i64 x.c, .int .i64 x.f, .int .i64 x.n] true 4)) (lo := H.next) (n := (conf (l.take k) need).length) (c := (conf (l.take k) need).length) (m := 1) (c' := 1) (r := G2.next) (ro := 0) (xs := [.int .i64 x.t, .int .i64 x.c, .int .i64 x.f, .int .i64 x.n])
        (ho2.keeps (Keeps.new _ _)) (by simp -implicitDefEqProofs (maxSteps := 2000000) (disch := first | omega | (simp only [nx_new, nx_set, List.length_cons, List.length_nil, List.length_map, List.length_set, ne_eq, not_true_eq_false, not_false_eq_true, Nat.succ_ne_zero]; done) | (simp only [nx_new, nx_set, List.length_cons, List.length_nil, List.length_map, List.length_set, ne_eq, not_true_eq_false, not_false_eq_true, Nat.succ_ne_zero]; omega)) only [go_sem, reduceIte, reduceCtorEq, Nat.succ_ne_zero, not_false_eq_true, decide_true, decide_false, Nat.reduceAdd, Nat.reduceMul, Nat.reduceEqDiff, Nat.reduceLeDiff]) rfl (by decide) hfl (by omega)
      simp only [Hp.next_new] at hap
      rw [hap]
      have hnx : G7.next = G2.next + 1 + 1 := h7n
      have hg7 : G7.get (G2.next + 1) = .row (((conf (l.take k) need).map Tal.cells).flatten ++ [.int .i64 x.t, .int .i64 x.c, .int .i64 x.f, .int .i64 x.n]) true 4 := h7g
      have hob8 : G7.ob = G2.ob := hob7
      have hold' : ∀ b, b < H.next → G7.get b = G2.get b := fun b hb => by
        rw [hold b (by simp only [Hp.next_new]; omega) (ho2.lo_ne hb), Hp.get_new_ne _ _ _ (by omega)]
      refine ⟨(k + 1, G7, some ⟨G2.next + 1, 0, none⟩), ⟨hlt, ⟨(by show H.next ≤ G7.next; omega), fun b hb => (hold' b hb).trans (kG2.get b hb), fun r y hy => by rw [hob8]; exact kG2.ob r y hy⟩, .inr ⟨G2.next + 1, rfl, by omega, (by show G2.next + 1 < G7.next; omega), ?_⟩⟩, by simp only; omega, Weak.sub (by simp only [htk, List.length_append, List.length_singleton]; (simp -implicitDefEqProofs (disch := omega) only [Abs.Sub, get_cons_eq, get_cons_ne, and_self, Option.some.injEq, Value.int.injEq, Value.slice.injEq, true_and, and_true, Int.natCast_zero, Int.natCast_add, Int.natCast_one, List.length_nil]; try omega))⟩
      rw [htk, List.map_append, List.flatten_append]
      exact hg7
    · rw [decide_eq_false hn, if_neg (by decide), List.append_nil] at htk
      rw [decide_eq_false hn]
      simp -implicitDefEqProofs (maxSteps := 2000000) (disch := first | omega | (simp only [nx_new, nx_set, List.length_cons, List.length_nil, List.length_map, List.length_set, ne_eq, not_true_eq_false, not_false_eq_true, Nat.succ_ne_zero]; done) | (simp only [nx_new, nx_set, List.length_cons, List.length_nil, List.length_map, List.length_set, ne_eq, not_true_eq_false, not_false_eq_true, Nat.succ_ne_zero]; omega)) only [go_sem, reduceIte, reduceCtorEq, Nat.succ_ne_zero, not_false_eq_true, decide_true, decide_false, Nat.reduceAdd, Nat.reduceMul, Nat.reduceEqDiff, Nat.reduceLeDiff]
      exact ⟨(k + 1, G2, o), ⟨hlt, kG2, by rw [htk]; exact ho2⟩, by simp only; omega, Weak.sub (by simp only [htk]; (simp -implicitDefEqProofs (disch := omega) only [Abs.Sub, get_cons_eq, get_cons_ne, and_self, Option.some.injEq, Value.int.injEq, Value.slice.injEq, true_and, and_true, Int.natCast_zero, Int.natCast_add, Int.natCast_one, List.length_nil]; try omega))⟩
  · obtain rfl : k = l.length := by omega
    rw [List.take_of_length_le (Nat.le_refl _)] at ho ⊢
    simp -implicitDefEqProofs (maxSteps := 2000000) (disch := first | omega | (simp only [nx_new, nx_set, List.length_cons, List.length_nil, List.length_map, List.length_set, ne_eq, not_true_eq_false, not_false_eq_true, Nat.succ_ne_zero]; done) | (simp only [nx_new, nx_set, List.length_cons, List.length_nil, List.length_map, List.length_set, ne_eq, not_true_eq_false, not_false_eq_true, Nat.succ_ne_zero]; omega)) only [go_sem, reduceIte, reduceCtorEq, Nat.succ_ne_zero, not_false_eq_true, decide_true, decide_false, Nat.reduceAdd, Nat.reduceMul, Nat.reduceEqDiff, Nat.reduceLeDiff]
    exact ret_r (v := .slice o (conf l need).length (conf l need).length) (by rw [ares_tmp ret37]; rfl) ⟨hk, o, rfl, ho⟩
/-- What Confirmed answers. -/
def ConfR (l : List Tal) (need : Int) (lo : Nat) (v : Value) (G : Hp) : Prop :=
  ((talsOk l && decide (1 ≤ need) && decide (need ≤ 1000)) = false ∧ v = .tuple #[.slice none 0 0, .int .i64 1]) ∨
    ((talsOk l && decide (1 ≤ need) && decide (need ≤ 1000)) = true ∧ ∃ o, v = .tuple #[.slice o (conf l need).length (conf l need).length, .int .i64 0] ∧ OwnSl lo G o 4 ((conf l need).map Tal.cells).flatten)
theorem n19 : Try.f19.ntmps = 20 := rfl
theorem ret19 : Try.f19.results = #[.tmp 4, .tmp 5] := rfl
theorem confirmed_spec (H : Hp) (a : Option Addr) (l : List Tal) (need : Int) (hl : l.length ≤ 1000000) (he : Elems H a 4 (l.map Tal.cells)) :
    ACalls Try.prog 19 [.slice a l.length l.length, .int .i64 need] H (fun v H' => ConfR l need H.next v H' ∧ Keeps H H') := by
  refine ACalls_enter Try.func19 (by kernel_rfl) rfl (by kernel_rfl) (by simp [n19]) fun hw hr => AWP_of_awp ?_
  simp -implicitDefEqProofs (maxSteps := 2000000) (disch := first | omega | (simp only [nx_new, nx_set, List.length_cons, List.length_nil, List.length_map, List.length_set, ne_eq, not_true_eq_false, not_false_eq_true, Nat.succ_ne_zero]; done) | (simp only [nx_new, nx_set, List.length_cons, List.length_nil, List.length_map, List.length_set, ne_eq, not_true_eq_false, not_false_eq_true, Nat.succ_ne_zero]; omega)) only [go_sem, reduceIte, reduceCtorEq, Nat.succ_ne_zero, not_false_eq_true, decide_true, decide_false, Nat.reduceAdd, Nat.reduceMul, Nat.reduceEqDiff, Nat.reduceLeDiff]
  obtain ⟨M, eM⟩ : ∃ M, M = H.new (.row [.int .i64 need] true 0) := ⟨_, rfl⟩
  rw [← eM]
  have kM : Keeps H M := by rw [eM]; exact Keeps.new _ _
  have nM : M.next = H.next + 1 := by rw [eM]; rfl
  have gM : M.get H.next = .row [.int .i64 need] true 0 := by rw [eM]; exact Hp.get_new_same _ _ _ rfl
  clear eM
  refine (tallies_spec M a l hl (he.grows kM.grows)).mono ?_
  rintro _ G ⟨rfl, kG⟩
  have kg := kG.grows
  have nG := kG.next
  have gG : G.get H.next = .row [.int .i64 need] true 0 := (kG.get _ (by omega)).trans gM
  have lq : load1 G ⟨H.next, 0, none⟩ = some (.int .i64 need) := (l1_row _ _ _ _ _ gG).trans rfl
  have kHG := kM.trans kG
  cases hb : talsOk l with
  | false =>
    simp -implicitDefEqProofs (maxSteps := 2000000) (disch := first | omega | (simp only [nx_new, nx_set, List.length_cons, List.length_nil, List.length_map, List.length_set, ne_eq, not_true_eq_false, not_false_eq_true, Nat.succ_ne_zero]; done) | (simp only [nx_new, nx_set, List.length_cons, List.length_nil, List.length_map, List.length_set, ne_eq, not_true_eq_false, not_false_eq_true, Nat.succ_ne_zero]; omega)) only [go_sem, reduceIte, reduceCtorEq, Nat.succ_ne_zero, not_false_eq_true, decide_true, decide_false, Nat.reduceAdd, Nat.reduceMul, Nat.reduceEqDiff, Nat.reduceLeDiff, kg]
    exact ret_r (v := .tuple #[.slice none 0 0, .int .i64 1]) (by rw [ares_tmp_tmp ret19]; rfl) ⟨.inl ⟨by rw [hb]; rfl, rfl⟩, kHG⟩
  | true =>
    by_cases h1 : need < 1
    · simp -implicitDefEqProofs (maxSteps := 2000000) (disch := first | omega | (simp only [nx_new, nx_set, List.length_cons, List.length_nil, List.length_map, List.length_set, ne_eq, not_true_eq_false, not_false_eq_true, Nat.succ_ne_zero]; done) | (simp only [nx_new, nx_set, List.length_cons, List.length_nil, List.length_map, List.length_set, ne_eq, not_true_eq_false, not_false_eq_true, Nat.succ_ne_zero]; omega)) only [go_sem, reduceIte, reduceCtorEq, Nat.succ_ne_zero, not_false_eq_true, decide_true, decide_false, Nat.reduceAdd, Nat.reduceMul, Nat.reduceEqDiff, Nat.reduceLeDiff, kg, lq]
      exact ret_r (v := .tuple #[.slice none 0 0, .int .i64 1]) (by rw [ares_tmp_tmp ret19]; rfl) ⟨.inl ⟨by rw [decide_eq_false (by omega : ¬ 1 ≤ need), Bool.and_false, Bool.false_and], rfl⟩, kHG⟩
    by_cases h2 : 1000 < need
    · simp -implicitDefEqProofs (maxSteps := 2000000) (disch := first | omega | (simp only [nx_new, nx_set, List.length_cons, List.length_nil, List.length_map, List.length_set, ne_eq, not_true_eq_false, not_false_eq_true, Nat.succ_ne_zero]; done) | (simp only [nx_new, nx_set, List.length_cons, List.length_nil, List.length_map, List.length_set, ne_eq, not_true_eq_false, not_false_eq_true, Nat.succ_ne_zero]; omega)) only [go_sem, reduceIte, reduceCtorEq, Nat.succ_ne_zero, not_false_eq_true, decide_true, decide_false, Nat.reduceAdd, Nat.reduceMul, Nat.reduceEqDiff, Nat.reduceLeDiff, kg, lq]
      exact ret_r (v := .tuple #[.slice none 0 0, .int .i64 1]) (by rw [ares_tmp_tmp ret19]; rfl) ⟨.inl ⟨by rw [decide_eq_false (by omega : ¬ need ≤ 1000), Bool.and_false], rfl⟩, kHG⟩
    simp -implicitDefEqProofs (maxSteps := 2000000) (disch := first | omega | (simp only [nx_new, nx_set, List.length_cons, List.length_nil, List.length_map, List.length_set, ne_eq, not_true_eq_false, not_false_eq_true, Nat.succ_ne_zero]; done) | (simp only [nx_new, nx_set, List.length_cons, List.length_nil, List.length_map, List.length_set, ne_eq, not_true_eq_false, not_false_eq_true, Nat.succ_ne_zero]; omega)) only [go_sem, reduceIte, reduceCtorEq, Nat.succ_ne_zero, not_false_eq_true, decide_true, decide_false, Nat.reduceAdd, Nat.reduceMul, Nat.reduceEqDiff, Nat.reduceLeDiff, kg, lq]
    refine (only_spec G a l need H.next hl (he.grows kHG.grows) gG).mono ?_
    rintro _ G2 ⟨k2, o, rfl, ho⟩
    simp -implicitDefEqProofs (maxSteps := 2000000) (disch := first | omega | (simp only [nx_new, nx_set, List.length_cons, List.length_nil, List.length_map, List.length_set, ne_eq, not_true_eq_false, not_false_eq_true, Nat.succ_ne_zero]; done) | (simp only [nx_new, nx_set, List.length_cons, List.length_nil, List.length_map, List.length_set, ne_eq, not_true_eq_false, not_false_eq_true, Nat.succ_ne_zero]; omega)) only [go_sem, reduceIte, reduceCtorEq, Nat.succ_ne_zero, not_false_eq_true, decide_true, decide_false, Nat.reduceAdd, Nat.reduceMul, Nat.reduceEqDiff, Nat.reduceLeDiff]
    refine ret_r (v := .tuple #[.slice o (conf l need).length (conf l need).length, .int .i64 0]) (by rw [ares_tmp_tmp ret19]; rfl) ⟨.inr ⟨by rw [hb, decide_eq_true (by omega : 1 ≤ need), decide_eq_true (by omega : need ≤ 1000)]; rfl, o, rfl, ?_⟩, kHG.trans k2⟩
    rcases ho with h | ⟨p, e1, e2, e3, e4⟩
    · exact .inl h
    · exact .inr ⟨p, e1, by omega, e3, e4⟩
end Go.Proofs.Ytjdmndklnfhmjaa
