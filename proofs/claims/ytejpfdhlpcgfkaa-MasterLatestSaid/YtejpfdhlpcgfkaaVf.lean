/- slices.SortStableFunc at few calibrations. -/
import Derived.Test.YtejpfdhlpcgfkaaVea
set_option linter.unusedVariables false
set_option linter.unusedSimpArgs false
set_option linter.unusedSectionVars false
namespace Go.Proofs.Ytejpfdhlpcgfkaa
open Go.Abs Go.Sm
set_option maxHeartbeats 8000000
set_option maxRecDepth 100000
theorem n35 : Try.f35.ntmps = 63 := rfl
theorem ret35 : Try.f35.results = #[] := rfl
/-- Blocks that are sorted: none yet, or the first twenty. -/
def Blk20 (key : Nat → Int) (E : Nat → Cal) (X Yd : List Nat) (q : Nat) (G : Hp) : Prop :=
  (Yd = [] ∧ G.get q = .row (rw9 E X) true 9) ∨ (Yd.length = 20 ∧ Yd.Perm (X.take 20) ∧ Yd.Pairwise (bf key) ∧ G.get q = .row (rw9 E (Yd ++ X.drop 20)) true 9)
theorem stable_spec {H : Hp} {q n N : Nat} {E : Nat → Cal} {key : Nat → Int} (hcmp : Cmp9 E n key) (hqn : q < H.next) (X : List Nat) (hX : X.Pairwise (· < ·)) (hn : ∀ x, x ∈ X → x < n) (hN : X.length = N) (hb : N ≤ 21) (hg : H.get q = .row (rw9 E X) true 9) :
    ACalls Try.prog 35 [.slice (some ⟨q, 0, none⟩) N N, .int .i64 N, .func (.func 25) #[] #[]] H (fun w H' => w = .tuple #[] ∧ ∃ Y : List Nat, Y.Perm X ∧ Y.Pairwise (bf key) ∧ KX q H H' ∧ H'.get q = .row (rw9 E Y) true 9) := by
  have hXs : X.take 20 ++ X.drop 20 = X := List.take_append_drop _ _
  have hXd : (X.drop 20).length = N - 20 := by rw [List.length_drop, hN]
  have hXt : 20 ≤ N → (X.take 20).length = 20 := fun h => by rw [List.length_take]; omega
  have hXp := List.pairwise_append.1 (by rw [hXs]; exact hX : (X.take 20 ++ X.drop 20).Pairwise (· < ·))
  have hn1 : ∀ x, x ∈ X.take 20 → x < n := fun x h => hn x (List.mem_of_mem_take h)
  have hn2 : ∀ x, x ∈ X.drop 20 → x < n := fun x h => hn x (List.mem_of_mem_drop h)
  refine ACalls_enter Try.func35 (by kernel_rfl) rfl (by kernel_rfl) (by simp [n35]) fun hw hr => AWP_step ?_
  simp -implicitDefEqProofs (maxSteps := 2000000) (disch := first | omega | (simp only [nx_new, nx_set, List.length_cons, List.length_nil, List.length_map, List.length_set, ne_eq, not_true_eq_false, not_false_eq_true, Nat.succ_ne_zero]; done) | (simp only [nx_new, nx_set, List.length_cons, List.length_nil, List.length_map, List.length_set, ne_eq, not_true_eq_false, not_false_eq_true, Nat.succ_ne_zero]; omega)) only [go_sem, reduceIte, reduceCtorEq, Nat.succ_ne_zero, not_false_eq_true, decide_true, decide_false, Nat.reduceAdd, Nat.reduceMul, Nat.reduceEqDiff, Nat.reduceLeDiff]
  refine AWP_step ?_
  simp -implicitDefEqProofs (maxSteps := 2000000) (disch := first | omega | (simp only [nx_new, nx_set, List.length_cons, List.length_nil, List.length_map, List.length_set, ne_eq, not_true_eq_false, not_false_eq_true, Nat.succ_ne_zero]; done) | (simp only [nx_new, nx_set, List.length_cons, List.length_nil, List.length_map, List.length_set, ne_eq, not_true_eq_false, not_false_eq_true, Nat.succ_ne_zero]; omega)) only [go_sem, reduceIte, reduceCtorEq, Nat.succ_ne_zero, not_false_eq_true, decide_true, decide_false, Nat.reduceAdd, Nat.reduceMul, Nat.reduceEqDiff, Nat.reduceLeDiff]
  refine AWP_join (σ := List Nat × Hp) (fun s => [(6, .int .i64 20), (0, .slice (some ⟨q, 0, none⟩) N N), (1, .int .i64 N), (2, .func (.func 25) #[] #[]), (7, .int .i64 s.1.length)]) (fun s => s.2)
    (fun s => KX q H s.2 ∧ Blk20 key E X s.1 q s.2 ∧ (s.1 = [] → N < 20)) ?_ ?_
  · simp -implicitDefEqProofs (maxSteps := 2000000) (disch := first | omega | (simp only [nx_new, nx_set, List.length_cons, List.length_nil, List.length_map, List.length_set, ne_eq, not_true_eq_false, not_false_eq_true, Nat.succ_ne_zero]; done) | (simp only [nx_new, nx_set, List.length_cons, List.length_nil, List.length_map, List.length_set, ne_eq, not_true_eq_false, not_false_eq_true, Nat.succ_ne_zero]; omega)) only [go_sem, reduceIte, reduceCtorEq, Nat.succ_ne_zero, not_false_eq_true, decide_true, decide_false, Nat.reduceAdd, Nat.reduceMul, Nat.reduceEqDiff, Nat.reduceLeDiff]
    refine AWP_loop (σ := List Nat × Hp) (fun s => [(7, .int .i64 s.1.length), (8, .int .i64 ((s.1.length + 20 : Nat) : Int)), (6, .int .i64 20), (0, .slice (some ⟨q, 0, none⟩) N N), (1, .int .i64 N), (2, .func (.func 25) #[] #[])]) (fun s => s.2)
      (fun s => KX q H s.2 ∧ Blk20 key E X s.1 q s.2)
      (fun s => 40 - s.1.length) ([], H) ⟨KX.refl _ _, .inl ⟨rfl, hg⟩⟩ (Weak.sub ?_) ?_
    · (simp -implicitDefEqProofs (disch := omega) only [Abs.Sub, get_cons_eq, get_cons_ne, and_self, Option.some.injEq, Value.int.injEq, Value.slice.injEq, true_and, and_true, Int.natCast_zero, Int.natCast_add, Int.natCast_one, List.length_nil]; try omega)
    · rintro ⟨Yd, G⟩ ⟨hkx, hcase⟩
      simp only at hkx hcase ⊢
      refine AWP_of_awp ?_
      by_cases hlt : Yd.length + 20 ≤ N
      · rcases hcase with ⟨rfl, hgG⟩ | ⟨hl, _⟩
        · rw [List.length_nil] at hlt
          have hXt2 := hXt (by omega)
          simp -implicitDefEqProofs (maxSteps := 2000000) (disch := first | omega | (simp only [nx_new, nx_set, List.length_cons, List.length_nil, List.length_map, List.length_set, ne_eq, not_true_eq_false, not_false_eq_true, Nat.succ_ne_zero]; done) | (simp only [nx_new, nx_set, List.length_cons, List.length_nil, List.length_map, List.length_set, ne_eq, not_true_eq_false, not_false_eq_true, Nat.succ_ne_zero]; omega)) only [go_sem, reduceIte, reduceCtorEq, Nat.succ_ne_zero, not_false_eq_true, decide_true, decide_false, Nat.reduceAdd, Nat.reduceMul, Nat.reduceEqDiff, Nat.reduceLeDiff]
          refine (insertion_spec (p := []) (X := X.take 20) (r := X.drop 20) (a := 0) (b := 20) hcmp (Nat.lt_of_lt_of_le hqn hkx.1) hXp.1 hn1 (by rw [List.nil_append, hXs]; exact hN) (by omega) rfl (by simp only [List.length_nil, hXt2]; rfl) (by rw [List.nil_append, hXs]; exact hgG)).mono ?_
          rintro _ G2 ⟨rfl, Y, hY1, hY2, hk2, hg2⟩
          simp -implicitDefEqProofs (maxSteps := 2000000) (disch := first | omega | (simp only [nx_new, nx_set, List.length_cons, List.length_nil, List.length_map, List.length_set, ne_eq, not_true_eq_false, not_false_eq_true, Nat.succ_ne_zero]; done) | (simp only [nx_new, nx_set, List.length_cons, List.length_nil, List.length_map, List.length_set, ne_eq, not_true_eq_false, not_false_eq_true, Nat.succ_ne_zero]; omega)) only [go_sem, reduceIte, reduceCtorEq, Nat.succ_ne_zero, not_false_eq_true, decide_true, decide_false, Nat.reduceAdd, Nat.reduceMul, Nat.reduceEqDiff, Nat.reduceLeDiff]
          have hYl := hY1.length_eq
          refine ⟨(Y, G2), ⟨hkx.trans hk2, .inr ⟨by simp only; omega, hY1, hY2, by simpa using hg2⟩⟩, by simp only [List.length_nil]; omega, Weak.sub ?_⟩
          simp -implicitDefEqProofs (disch := omega) only [Abs.Sub, get_cons_eq, get_cons_ne, and_self, Int.natCast_zero, Int.natCast_add, Int.natCast_one]
          simp only [Option.some.injEq, Value.int.injEq, true_and, and_true]
          omega
        · omega
      · simp -implicitDefEqProofs (maxSteps := 2000000) (disch := first | omega | (simp only [nx_new, nx_set, List.length_cons, List.length_nil, List.length_map, List.length_set, ne_eq, not_true_eq_false, not_false_eq_true, Nat.succ_ne_zero]; done) | (simp only [nx_new, nx_set, List.length_cons, List.length_nil, List.length_map, List.length_set, ne_eq, not_true_eq_false, not_false_eq_true, Nat.succ_ne_zero]; omega)) only [go_sem, reduceIte, reduceCtorEq, Nat.succ_ne_zero, not_false_eq_true, decide_true, decide_false, Nat.reduceAdd, Nat.reduceMul, Nat.reduceEqDiff, Nat.reduceLeDiff]
        refine ⟨(Yd, G), ⟨hkx, hcase, fun h => by simp only at h; rw [h] at hlt; simp at hlt; omega⟩, Weak.sub ?_⟩
        (simp -implicitDefEqProofs (disch := omega) only [Abs.Sub, get_cons_eq, get_cons_ne, and_self, Option.some.injEq, Value.int.injEq, Value.slice.injEq, true_and, and_true, Int.natCast_zero, Int.natCast_add, Int.natCast_one, List.length_nil]; try omega)
  · rintro ⟨Yd, G⟩ ⟨hkx, hcase, hsm⟩
    simp only at hkx hcase hsm ⊢
    have hqG := Nat.lt_of_lt_of_le hqn hkx.1
    refine AWP_step ?_
    have key2 : ACalls Try.prog 41 [.slice (some ⟨q, 0, none⟩) N N, .int .i64 Yd.length, .int .i64 N, .func (.func 25) #[] #[]] G (fun w H' => w = .tuple #[] ∧ KX q H H' ∧ ((N ≤ 20 ∧ ∃ Y : List Nat, Y.Perm X ∧ Y.Pairwise (bf key) ∧ H'.get q = .row (rw9 E Y) true 9) ∨
        (N = 21 ∧ Yd.length = 20 ∧ Yd.Perm (X.take 20) ∧ Yd.Pairwise (bf key) ∧ H'.get q = .row (rw9 E (Yd ++ X.drop 20)) true 9))) := by
      rcases hcase with ⟨rfl, hgG⟩ | ⟨hl, hp, hs, hgG⟩
      · refine (insertion_spec (p := []) (r := []) hcmp hqG X hX hn (by simp [hN]) (by omega) rfl (by simp [hN]) (by simpa using hgG)).mono ?_
        rintro w G2 ⟨hw2, Y, hY1, hY2, hk2, hg2⟩
        exact ⟨hw2, hkx.trans hk2, .inl ⟨by have := hsm rfl; omega, Y, hY1, hY2, by simpa using hg2⟩⟩
      · have hN20 : 20 ≤ N := by
          have := hp.length_eq
          rw [List.length_take, hN] at this; omega
        refine (insertion_spec (p := Yd) (X := X.drop 20) (r := []) hcmp hqG hXp.2.1 hn2 (by simp only [List.length_append, List.length_nil, hXd]; omega) (by omega) rfl (by rw [hXd]; omega) (by simpa using hgG)).mono ?_
        rintro w G2 ⟨hw2, Y, hY1, hY2, hk2, hg2⟩
        have hYl := hY1.length_eq
        rw [hXd] at hYl
        refine ⟨hw2, hkx.trans hk2, ?_⟩
        by_cases h21 : N = 21
        · refine .inr ⟨h21, hl, hp, hs, ?_⟩
          have e : Y = X.drop 20 := by
            obtain ⟨z, hz⟩ : ∃ z, X.drop 20 = [z] := List.length_eq_one_iff.1 (by omega)
            rw [hz] at hY1 ⊢
            exact List.perm_singleton.1 hY1
          rw [e] at hg2
          simpa using hg2
        · obtain rfl : Y = [] := List.eq_nil_of_length_eq_zero (by omega)
          have hd : X.drop 20 = [] := List.eq_nil_of_length_eq_zero (by omega)
          rw [hd, List.append_nil] at hXs
          exact .inl ⟨by omega, Yd, by rw [← hXs]; exact hp, hs, by simpa using hg2⟩
    simp -implicitDefEqProofs (maxSteps := 2000000) (disch := first | omega | (simp only [nx_new, nx_set, List.length_cons, List.length_nil, List.length_map, List.length_set, ne_eq, not_true_eq_false, not_false_eq_true, Nat.succ_ne_zero]; done) | (simp only [nx_new, nx_set, List.length_cons, List.length_nil, List.length_map, List.length_set, ne_eq, not_true_eq_false, not_false_eq_true, Nat.succ_ne_zero]; omega)) only [go_sem, reduceIte, reduceCtorEq, Nat.succ_ne_zero, not_false_eq_true, decide_true, decide_false, Nat.reduceAdd, Nat.reduceMul, Nat.reduceEqDiff, Nat.reduceLeDiff]
    refine key2.mono ?_
    rintro _ G2 ⟨rfl, hk2, hfin⟩
    simp -implicitDefEqProofs (maxSteps := 2000000) (disch := first | omega | (simp only [nx_new, nx_set, List.length_cons, List.length_nil, List.length_map, List.length_set, ne_eq, not_true_eq_false, not_false_eq_true, Nat.succ_ne_zero]; done) | (simp only [nx_new, nx_set, List.length_cons, List.length_nil, List.length_map, List.length_set, ne_eq, not_true_eq_false, not_false_eq_true, Nat.succ_ne_zero]; omega)) only [go_sem, reduceIte, reduceCtorEq, Nat.succ_ne_zero, not_false_eq_true, decide_true, decide_false, Nat.reduceAdd, Nat.reduceMul, Nat.reduceEqDiff, Nat.reduceLeDiff]
    refine AWP_of_awp ?_
    simp -implicitDefEqProofs (maxSteps := 2000000) (disch := first | omega | (simp only [nx_new, nx_set, List.length_cons, List.length_nil, List.length_map, List.length_set, ne_eq, not_true_eq_false, not_false_eq_true, Nat.succ_ne_zero]; done) | (simp only [nx_new, nx_set, List.length_cons, List.length_nil, List.length_map, List.length_set, ne_eq, not_true_eq_false, not_false_eq_true, Nat.succ_ne_zero]; omega)) only [go_sem, reduceIte, reduceCtorEq, Nat.succ_ne_zero, not_false_eq_true, decide_true, decide_false, Nat.reduceAdd, Nat.reduceMul, Nat.reduceEqDiff, Nat.reduceLeDiff]
    have hq2 := Nat.lt_of_lt_of_le hqn hk2.1
    rcases hfin with ⟨hN20, Y, hY1, hY2, hg2⟩ | ⟨rfl, hl, hp, hs, hg2⟩
    · refine AWP_loop (σ := Unit) (fun _ => [(6, .int .i64 20), (0, .slice (some ⟨q, 0, none⟩) N N), (1, .int .i64 N), (2, .func (.func 25) #[] #[])]) (fun _ => G2) (fun _ => True) (fun _ => 0) () trivial (Weak.sub ?_) ?_
      · (simp -implicitDefEqProofs (disch := omega) only [Abs.Sub, get_cons_eq, get_cons_ne, and_self, Option.some.injEq, Value.int.injEq, Value.slice.injEq, true_and, and_true, Int.natCast_zero, Int.natCast_add, Int.natCast_one, List.length_nil]; try omega)
      · rintro _ _
        refine AWP_of_awp ?_
        simp -implicitDefEqProofs (maxSteps := 2000000) (disch := first | omega | (simp only [nx_new, nx_set, List.length_cons, List.length_nil, List.length_map, List.length_set, ne_eq, not_true_eq_false, not_false_eq_true, Nat.succ_ne_zero]; done) | (simp only [nx_new, nx_set, List.length_cons, List.length_nil, List.length_map, List.length_set, ne_eq, not_true_eq_false, not_false_eq_true, Nat.succ_ne_zero]; omega)) only [go_sem, reduceIte, reduceCtorEq, Nat.succ_ne_zero, not_false_eq_true, decide_true, decide_false, Nat.reduceAdd, Nat.reduceMul, Nat.reduceEqDiff, Nat.reduceLeDiff]
        exact ret_n (v := .tuple #[]) (ares0 ret35) ⟨rfl, Y, hY1, hY2, hk2, hg2⟩
    · obtain ⟨y, hy⟩ : ∃ z, X.drop 20 = [z] := List.length_eq_one_iff.1 (by omega)
      rw [hy] at hg2 hn2 hXp hXs
      have hAB : ∀ x, x ∈ Yd → x < y := fun x hx => hXp.2.2 x (hp.mem_iff.1 hx) y (by simp)
      have hnY : ∀ x, x ∈ Yd → x < n := fun x hx => hn1 x (hp.mem_iff.1 hx)
      have hpX : (Yd ++ [y]).Perm X := by rw [← hXs]; exact hp.append_right _
      refine AWP_loop (σ := Nat × Hp) (fun s => [(6, .int .i64 ((20 + 20 * s.1 : Nat) : Int)), (0, .slice (some ⟨q, 0, none⟩) 21 21), (1, .int .i64 21), (2, .func (.func 25) #[] #[])]) (fun s => s.2)
        (fun s => KX q H s.2 ∧ ((s.1 = 0 ∧ s.2.get q = .row (rw9 E (Yd ++ [y])) true 9) ∨ (s.1 = 1 ∧ ∃ Y : List Nat, Y.Perm X ∧ Y.Pairwise (bf key) ∧ s.2.get q = .row (rw9 E Y) true 9))) (fun s => 1 - s.1) (0, G2) ⟨hk2, .inl ⟨rfl, hg2⟩⟩ (Weak.sub ?_) ?_
      · (simp -implicitDefEqProofs (disch := omega) only [Abs.Sub, get_cons_eq, get_cons_ne, and_self, Option.some.injEq, Value.int.injEq, Value.slice.injEq, true_and, and_true, Int.natCast_zero, Int.natCast_add, Int.natCast_one, List.length_nil]; try omega)
      · rintro ⟨st, G3⟩ ⟨hk3, hst⟩
        simp only at hk3 hst ⊢
        refine AWP_of_awp ?_
        have hq3 := Nat.lt_of_lt_of_le hqn hk3.1
        rcases hst with ⟨rfl, hg3⟩ | ⟨rfl, Y, hY1, hY2, hg3⟩
        · have hsym := sym1_spec hcmp hq3 Yd y hs hAB hnY (hn2 y (by simp)) (by omega) (show Yd.length + 1 = 21 by omega) (by decide) hg3
          rw [hl] at hsym
          simp -implicitDefEqProofs (maxSteps := 2000000) (disch := first | omega | (simp only [nx_new, nx_set, List.length_cons, List.length_nil, List.length_map, List.length_set, ne_eq, not_true_eq_false, not_false_eq_true, Nat.succ_ne_zero]; done) | (simp only [nx_new, nx_set, List.length_cons, List.length_nil, List.length_map, List.length_set, ne_eq, not_true_eq_false, not_false_eq_true, Nat.succ_ne_zero]; omega)) only [go_sem, reduceIte, reduceCtorEq, Nat.succ_ne_zero, not_false_eq_true, decide_true, decide_false, Nat.reduceAdd, Nat.reduceMul, Nat.reduceEqDiff, Nat.reduceLeDiff]
          refine AWP_loop (σ := Unit) (fun _ => [(7, .int .i64 0), (8, .int .i64 40), (6, .int .i64 20), (0, .slice (some ⟨q, 0, none⟩) 21 21), (1, .int .i64 21), (2, .func (.func 25) #[] #[])]) (fun _ => G3) (fun _ => True) (fun _ => 0) () trivial (Weak.sub ?_) ?_
          · (simp -implicitDefEqProofs (disch := omega) only [Abs.Sub, get_cons_eq, get_cons_ne, and_self, Option.some.injEq, Value.int.injEq, Value.slice.injEq, true_and, and_true, Int.natCast_zero, Int.natCast_add, Int.natCast_one, List.length_nil]; try omega)
          rintro _ _
          refine AWP_of_awp ?_
          simp -implicitDefEqProofs (maxSteps := 2000000) (disch := first | omega | (simp only [nx_new, nx_set, List.length_cons, List.length_nil, List.length_map, List.length_set, ne_eq, not_true_eq_false, not_false_eq_true, Nat.succ_ne_zero]; done) | (simp only [nx_new, nx_set, List.length_cons, List.length_nil, List.length_map, List.length_set, ne_eq, not_true_eq_false, not_false_eq_true, Nat.succ_ne_zero]; omega)) only [go_sem, reduceIte, reduceCtorEq, Nat.succ_ne_zero, not_false_eq_true, decide_true, decide_false, Nat.reduceAdd, Nat.reduceMul, Nat.reduceEqDiff, Nat.reduceLeDiff]
          refine hsym.mono ?_
          rintro _ G4 ⟨rfl, Y, hY1, hY2, hk4, hg4⟩
          simp -implicitDefEqProofs (maxSteps := 2000000) (disch := first | omega | (simp only [nx_new, nx_set, List.length_cons, List.length_nil, List.length_map, List.length_set, ne_eq, not_true_eq_false, not_false_eq_true, Nat.succ_ne_zero]; done) | (simp only [nx_new, nx_set, List.length_cons, List.length_nil, List.length_map, List.length_set, ne_eq, not_true_eq_false, not_false_eq_true, Nat.succ_ne_zero]; omega)) only [go_sem, reduceIte, reduceCtorEq, Nat.succ_ne_zero, not_false_eq_true, decide_true, decide_false, Nat.reduceAdd, Nat.reduceMul, Nat.reduceEqDiff, Nat.reduceLeDiff]
          exact ⟨(1, G4), ⟨hk3.trans hk4, .inr ⟨rfl, Y, hY1.trans hpX, hY2, hg4⟩⟩, by simp only; omega, Weak.sub (by (simp -implicitDefEqProofs (disch := omega) only [Abs.Sub, get_cons_eq, get_cons_ne, and_self, Option.some.injEq, Value.int.injEq, Value.slice.injEq, true_and, and_true, Int.natCast_zero, Int.natCast_add, Int.natCast_one, List.length_nil]; try omega))⟩
        · simp -implicitDefEqProofs (maxSteps := 2000000) (disch := first | omega | (simp only [nx_new, nx_set, List.length_cons, List.length_nil, List.length_map, List.length_set, ne_eq, not_true_eq_false, not_false_eq_true, Nat.succ_ne_zero]; done) | (simp only [nx_new, nx_set, List.length_cons, List.length_nil, List.length_map, List.length_set, ne_eq, not_true_eq_false, not_false_eq_true, Nat.succ_ne_zero]; omega)) only [go_sem, reduceIte, reduceCtorEq, Nat.succ_ne_zero, not_false_eq_true, decide_true, decide_false, Nat.reduceAdd, Nat.reduceMul, Nat.reduceEqDiff, Nat.reduceLeDiff]
          exact ret_n (v := .tuple #[]) (ares0 ret35) ⟨rfl, Y, hY1, hY2, hk3, hg3⟩
theorem n24 : Try.f24.ntmps = 9 := rfl
theorem ret24 : Try.f24.results = #[] := rfl
theorem sortStable_spec {H : Hp} {q n N : Nat} {E : Nat → Cal} {key : Nat → Int} (hcmp : Cmp9 E n key) (hqn : q < H.next) (X : List Nat) (hX : X.Pairwise (· < ·)) (hn : ∀ x, x ∈ X → x < n) (hN : X.length = N) (hb : N ≤ 21) (hg : H.get q = .row (rw9 E X) true 9) :
    ACalls Try.prog 24 [.slice (some ⟨q, 0, none⟩) N N, .func (.func 25) #[] #[]] H (fun w H' => w = .tuple #[] ∧ ∃ Y : List Nat, Y.Perm X ∧ Y.Pairwise (bf key) ∧ KX q H H' ∧ H'.get q = .row (rw9 E Y) true 9) := by
  refine ACalls_enter Try.func24 (by kernel_rfl) rfl (by kernel_rfl) (by simp [n24]) fun hw hr => AWP_of_awp ?_
  simp -implicitDefEqProofs (maxSteps := 2000000) (disch := first | omega | (simp only [nx_new, nx_set, List.length_cons, List.length_nil, List.length_map, List.length_set, ne_eq, not_true_eq_false, not_false_eq_true, Nat.succ_ne_zero]; done) | (simp only [nx_new, nx_set, List.length_cons, List.length_nil, List.length_map, List.length_set, ne_eq, not_true_eq_false, not_false_eq_true, Nat.succ_ne_zero]; omega)) only [go_sem, reduceIte, reduceCtorEq, Nat.succ_ne_zero, not_false_eq_true, decide_true, decide_false, Nat.reduceAdd, Nat.reduceMul, Nat.reduceEqDiff, Nat.reduceLeDiff]
  refine (stable_spec hcmp hqn X hX hn hN hb hg).mono ?_
  rintro _ G2 ⟨rfl, h⟩
  simp -implicitDefEqProofs (maxSteps := 2000000) (disch := first | omega | (simp only [nx_new, nx_set, List.length_cons, List.length_nil, List.length_map, List.length_set, ne_eq, not_true_eq_false, not_false_eq_true, Nat.succ_ne_zero]; done) | (simp only [nx_new, nx_set, List.length_cons, List.length_nil, List.length_map, List.length_set, ne_eq, not_true_eq_false, not_false_eq_true, Nat.succ_ne_zero]; omega)) only [go_sem, reduceIte, reduceCtorEq, Nat.succ_ne_zero, not_false_eq_true, decide_true, decide_false, Nat.reduceAdd, Nat.reduceMul, Nat.reduceEqDiff, Nat.reduceLeDiff]
  exact ret_n (v := .tuple #[]) (ares0 ret24) ⟨rfl, h⟩
end Go.Proofs.Ytejpfdhlpcgfkaa
