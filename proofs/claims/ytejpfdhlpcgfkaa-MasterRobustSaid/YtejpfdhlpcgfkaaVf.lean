/- slices.SortStableFunc at few calibrations. -/
import Derived.Test.YtejpfdhlpcgfkaaVe
set_option linter.unusedVariables false
set_option linter.unusedSimpArgs false
set_option linter.unusedSectionVars false
namespace Go.Proofs.Ytejpfdhlpcgfkaa
open Go.Abs Go.Sm
set_option maxHeartbeats 8000000
set_option maxRecDepth 100000
theorem n35 : Try.f35.ntmps = 63 := rfl
theorem ret35 : Try.f35.results = #[] := rfl
theorem stable_spec {H : Hp} {q n N : Nat} {E : Nat → Cal} {key : Nat → Int} (hcmp : Cmp9 E n key) (hqn : q < H.next) (X : List Nat) (hX : X.Pairwise (· < ·)) (hn : ∀ x, x ∈ X → x < n) (hN : X.length = N) (hb : N ≤ 20) (hg : H.get q = .row (rw9 E X) true 9) :
    ACalls Try.prog 35 [.slice (some ⟨q, 0, none⟩) N N, .int .i64 N, .func (.func 25) #[] #[]] H (fun w H' => w = .tuple #[] ∧ ∃ Y : List Nat, Y.Perm X ∧ Y.Pairwise (bf key) ∧ KX q H H' ∧ H'.get q = .row (rw9 E Y) true 9) := by
  refine ACalls_enter Try.func35 (by kernel_rfl) rfl (by kernel_rfl) (by simp [n35]) fun hw hr => AWP_step ?_
  simp -implicitDefEqProofs (maxSteps := 2000000) (disch := first | omega | (simp only [nx_new, nx_set, List.length_cons, List.length_nil, List.length_map, List.length_set, ne_eq, not_true_eq_false, not_false_eq_true, Nat.succ_ne_zero]; done) | (simp only [nx_new, nx_set, List.length_cons, List.length_nil, List.length_map, List.length_set, ne_eq, not_true_eq_false, not_false_eq_true, Nat.succ_ne_zero]; omega)) only [go_sem, reduceIte, reduceCtorEq, Nat.succ_ne_zero, not_false_eq_true, decide_true, decide_false, Nat.reduceAdd, Nat.reduceMul, Nat.reduceEqDiff, Nat.reduceLeDiff]
  refine AWP_step ?_
  simp -implicitDefEqProofs (maxSteps := 2000000) (disch := first | omega | (simp only [nx_new, nx_set, List.length_cons, List.length_nil, List.length_map, List.length_set, ne_eq, not_true_eq_false, not_false_eq_true, Nat.succ_ne_zero]; done) | (simp only [nx_new, nx_set, List.length_cons, List.length_nil, List.length_map, List.length_set, ne_eq, not_true_eq_false, not_false_eq_true, Nat.succ_ne_zero]; omega)) only [go_sem, reduceIte, reduceCtorEq, Nat.succ_ne_zero, not_false_eq_true, decide_true, decide_false, Nat.reduceAdd, Nat.reduceMul, Nat.reduceEqDiff, Nat.reduceLeDiff]
  refine AWP_join (σ := List Nat × Hp) (fun s => [(6, .int .i64 20), (0, .slice (some ⟨q, 0, none⟩) N N), (1, .int .i64 N), (2, .func (.func 25) #[] #[]), (7, .int .i64 s.1.length)]) (fun s => s.2)
    (fun s => KX q H s.2 ∧ ((s.1 = [] ∧ s.2.get q = .row (rw9 E X) true 9) ∨ (s.1.length = N ∧ s.1.Perm X ∧ s.1.Pairwise (bf key) ∧ s.2.get q = .row (rw9 E s.1) true 9))) ?_ ?_
  · simp -implicitDefEqProofs (maxSteps := 2000000) (disch := first | omega | (simp only [nx_new, nx_set, List.length_cons, List.length_nil, List.length_map, List.length_set, ne_eq, not_true_eq_false, not_false_eq_true, Nat.succ_ne_zero]; done) | (simp only [nx_new, nx_set, List.length_cons, List.length_nil, List.length_map, List.length_set, ne_eq, not_true_eq_false, not_false_eq_true, Nat.succ_ne_zero]; omega)) only [go_sem, reduceIte, reduceCtorEq, Nat.succ_ne_zero, not_false_eq_true, decide_true, decide_false, Nat.reduceAdd, Nat.reduceMul, Nat.reduceEqDiff, Nat.reduceLeDiff]
    refine AWP_loop (σ := List Nat × Hp) (fun s => [(7, .int .i64 s.1.length), (8, .int .i64 ((s.1.length + 20 : Nat) : Int)), (6, .int .i64 20), (0, .slice (some ⟨q, 0, none⟩) N N), (1, .int .i64 N), (2, .func (.func 25) #[] #[])]) (fun s => s.2)
      (fun s => KX q H s.2 ∧ ((s.1 = [] ∧ s.2.get q = .row (rw9 E X) true 9) ∨ (s.1.length = N ∧ s.1.Perm X ∧ s.1.Pairwise (bf key) ∧ s.2.get q = .row (rw9 E s.1) true 9)))
      (fun s => N - s.1.length) ([], H) ⟨KX.refl _ _, .inl ⟨rfl, hg⟩⟩ (Weak.sub ?_) ?_
    · (simp -implicitDefEqProofs (disch := omega) only [Abs.Sub, get_cons_eq, get_cons_ne, and_self, Option.some.injEq, Value.int.injEq, Value.slice.injEq, true_and, and_true, Int.natCast_zero, Int.natCast_add, Int.natCast_one, List.length_nil]; try omega)
    · rintro ⟨Yd, G⟩ ⟨hkx, hcase⟩
      simp only at hkx hcase ⊢
      refine AWP_of_awp ?_
      by_cases hlt : Yd.length + 20 ≤ N
      · rcases hcase with ⟨rfl, hgG⟩ | ⟨hl, _⟩
        · rw [List.length_nil] at hlt
          have hN20 : N = 20 := by omega
          simp -implicitDefEqProofs (maxSteps := 2000000) (disch := first | omega | (simp only [nx_new, nx_set, List.length_cons, List.length_nil, List.length_map, List.length_set, ne_eq, not_true_eq_false, not_false_eq_true, Nat.succ_ne_zero]; done) | (simp only [nx_new, nx_set, List.length_cons, List.length_nil, List.length_map, List.length_set, ne_eq, not_true_eq_false, not_false_eq_true, Nat.succ_ne_zero]; omega)) only [go_sem, reduceIte, reduceCtorEq, Nat.succ_ne_zero, not_false_eq_true, decide_true, decide_false, Nat.reduceAdd, Nat.reduceMul, Nat.reduceEqDiff, Nat.reduceLeDiff]
          refine (insertion_spec (p := []) (r := []) (a := 0) (b := 20) hcmp (Nat.lt_of_lt_of_le hqn hkx.1) X hX hn (by simp [hN]) (by omega) rfl (by simp [hN, hN20]) (by simpa using hgG)).mono ?_
          rintro _ G2 ⟨rfl, Y, hY1, hY2, hk2, hg2⟩
          simp -implicitDefEqProofs (maxSteps := 2000000) (disch := first | omega | (simp only [nx_new, nx_set, List.length_cons, List.length_nil, List.length_map, List.length_set, ne_eq, not_true_eq_false, not_false_eq_true, Nat.succ_ne_zero]; done) | (simp only [nx_new, nx_set, List.length_cons, List.length_nil, List.length_map, List.length_set, ne_eq, not_true_eq_false, not_false_eq_true, Nat.succ_ne_zero]; omega)) only [go_sem, reduceIte, reduceCtorEq, Nat.succ_ne_zero, not_false_eq_true, decide_true, decide_false, Nat.reduceAdd, Nat.reduceMul, Nat.reduceEqDiff, Nat.reduceLeDiff]
          have hYl := hY1.length_eq
          refine ⟨(Y, G2), ⟨hkx.trans hk2, .inr ⟨by simp only; omega, hY1, hY2, by simpa using hg2⟩⟩, by simp only [List.length_nil]; omega, Weak.sub ?_⟩
          simp -implicitDefEqProofs (disch := omega) only [Abs.Sub, get_cons_eq, get_cons_ne, and_self, Int.natCast_zero, Int.natCast_add, Int.natCast_one]
          simp only [Option.some.injEq, Value.int.injEq, true_and, and_true]
          omega
        · omega
      · simp -implicitDefEqProofs (maxSteps := 2000000) (disch := first | omega | (simp only [nx_new, nx_set, List.length_cons, List.length_nil, List.length_map, List.length_set, ne_eq, not_true_eq_false, not_false_eq_true, Nat.succ_ne_zero]; done) | (simp only [nx_new, nx_set, List.length_cons, List.length_nil, List.length_map, List.length_set, ne_eq, not_true_eq_false, not_false_eq_true, Nat.succ_ne_zero]; omega)) only [go_sem, reduceIte, reduceCtorEq, Nat.succ_ne_zero, not_false_eq_true, decide_true, decide_false, Nat.reduceAdd, Nat.reduceMul, Nat.reduceEqDiff, Nat.reduceLeDiff]
        refine ⟨(Yd, G), ⟨hkx, hcase⟩, Weak.sub ?_⟩
        (simp -implicitDefEqProofs (disch := omega) only [Abs.Sub, get_cons_eq, get_cons_ne, and_self, Option.some.injEq, Value.int.injEq, Value.slice.injEq, true_and, and_true, Int.natCast_zero, Int.natCast_add, Int.natCast_one, List.length_nil]; try omega)
  · rintro ⟨Yd, G⟩ ⟨hkx, hcase⟩
    simp only at hkx hcase ⊢
    have hqG := Nat.lt_of_lt_of_le hqn hkx.1
    refine AWP_step ?_
    have key2 : ACalls Try.prog 41 [.slice (some ⟨q, 0, none⟩) N N, .int .i64 Yd.length, .int .i64 N, .func (.func 25) #[] #[]] G (fun w H' => w = .tuple #[] ∧ ∃ Y : List Nat, Y.Perm X ∧ Y.Pairwise (bf key) ∧ KX q H H' ∧ H'.get q = .row (rw9 E Y) true 9) := by
      rcases hcase with ⟨rfl, hgG⟩ | ⟨hl, hp, hs, hgG⟩
      · refine (insertion_spec (p := []) (r := []) hcmp hqG X hX hn (by simp [hN]) (by omega) rfl (by simp [hN]) (by simpa using hgG)).mono ?_
        rintro w G2 ⟨hw2, Y, hY1, hY2, hk2, hg2⟩
        exact ⟨hw2, Y, hY1, hY2, hkx.trans hk2, by simpa using hg2⟩
      · refine (insertion_spec (p := Yd) (X := []) (r := []) hcmp hqG List.Pairwise.nil (fun x h => by cases h) (by simp [hl]) (by omega) rfl (by simp [hl]) (by simpa using hgG)).mono ?_
        rintro w G2 ⟨hw2, Y, hY1, hY2, hk2, hg2⟩
        obtain rfl : Y = [] := hY1.eq_nil
        exact ⟨hw2, Yd, hp, hs, hkx.trans hk2, by simpa using hg2⟩
    simp -implicitDefEqProofs (maxSteps := 2000000) (disch := first | omega | (simp only [nx_new, nx_set, List.length_cons, List.length_nil, List.length_map, List.length_set, ne_eq, not_true_eq_false, not_false_eq_true, Nat.succ_ne_zero]; done) | (simp only [nx_new, nx_set, List.length_cons, List.length_nil, List.length_map, List.length_set, ne_eq, not_true_eq_false, not_false_eq_true, Nat.succ_ne_zero]; omega)) only [go_sem, reduceIte, reduceCtorEq, Nat.succ_ne_zero, not_false_eq_true, decide_true, decide_false, Nat.reduceAdd, Nat.reduceMul, Nat.reduceEqDiff, Nat.reduceLeDiff]
    refine key2.mono ?_
    rintro _ G2 ⟨rfl, Y, hY1, hY2, hk2, hg2⟩
    simp -implicitDefEqProofs (maxSteps := 2000000) (disch := first | omega | (simp only [nx_new, nx_set, List.length_cons, List.length_nil, List.length_map, List.length_set, ne_eq, not_true_eq_false, not_false_eq_true, Nat.succ_ne_zero]; done) | (simp only [nx_new, nx_set, List.length_cons, List.length_nil, List.length_map, List.length_set, ne_eq, not_true_eq_false, not_false_eq_true, Nat.succ_ne_zero]; omega)) only [go_sem, reduceIte, reduceCtorEq, Nat.succ_ne_zero, not_false_eq_true, decide_true, decide_false, Nat.reduceAdd, Nat.reduceMul, Nat.reduceEqDiff, Nat.reduceLeDiff]
    refine AWP_of_awp ?_
    simp -implicitDefEqProofs (maxSteps := 2000000) (disch := first | omega | (simp only [nx_new, nx_set, List.length_cons, List.length_nil, List.length_map, List.length_set, ne_eq, not_true_eq_false, not_false_eq_true, Nat.succ_ne_zero]; done) | (simp only [nx_new, nx_set, List.length_cons, List.length_nil, List.length_map, List.length_set, ne_eq, not_true_eq_false, not_false_eq_true, Nat.succ_ne_zero]; omega)) only [go_sem, reduceIte, reduceCtorEq, Nat.succ_ne_zero, not_false_eq_true, decide_true, decide_false, Nat.reduceAdd, Nat.reduceMul, Nat.reduceEqDiff, Nat.reduceLeDiff]
    refine AWP_loop (σ := Unit) (fun _ => [(6, .int .i64 20), (0, .slice (some ⟨q, 0, none⟩) N N), (1, .int .i64 N), (2, .func (.func 25) #[] #[])]) (fun _ => G2) (fun _ => True) (fun _ => 0) () trivial (Weak.sub ?_) ?_
    · (simp -implicitDefEqProofs (disch := omega) only [Abs.Sub, get_cons_eq, get_cons_ne, and_self, Option.some.injEq, Value.int.injEq, Value.slice.injEq, true_and, and_true, Int.natCast_zero, Int.natCast_add, Int.natCast_one, List.length_nil]; try omega)
    · rintro _ _
      refine AWP_of_awp ?_
      simp -implicitDefEqProofs (maxSteps := 2000000) (disch := first | omega | (simp only [nx_new, nx_set, List.length_cons, List.length_nil, List.length_map, List.length_set, ne_eq, not_true_eq_false, not_false_eq_true, Nat.succ_ne_zero]; done) | (simp only [nx_new, nx_set, List.length_cons, List.length_nil, List.length_map, List.length_set, ne_eq, not_true_eq_false, not_false_eq_true, Nat.succ_ne_zero]; omega)) only [go_sem, reduceIte, reduceCtorEq, Nat.succ_ne_zero, not_false_eq_true, decide_true, decide_false, Nat.reduceAdd, Nat.reduceMul, Nat.reduceEqDiff, Nat.reduceLeDiff]
      exact ret_n (v := .tuple #[]) (ares0 ret35) ⟨rfl, Y, hY1, hY2, hk2, hg2⟩
theorem n24 : Try.f24.ntmps = 9 := rfl
theorem ret24 : Try.f24.results = #[] := rfl
theorem sortStable_spec {H : Hp} {q n N : Nat} {E : Nat → Cal} {key : Nat → Int} (hcmp : Cmp9 E n key) (hqn : q < H.next) (X : List Nat) (hX : X.Pairwise (· < ·)) (hn : ∀ x, x ∈ X → x < n) (hN : X.length = N) (hb : N ≤ 20) (hg : H.get q = .row (rw9 E X) true 9) :
    ACalls Try.prog 24 [.slice (some ⟨q, 0, none⟩) N N, .func (.func 25) #[] #[]] H (fun w H' => w = .tuple #[] ∧ ∃ Y : List Nat, Y.Perm X ∧ Y.Pairwise (bf key) ∧ KX q H H' ∧ H'.get q = .row (rw9 E Y) true 9) := by
  refine ACalls_enter Try.func24 (by kernel_rfl) rfl (by kernel_rfl) (by simp [n24]) fun hw hr => AWP_of_awp ?_
  simp -implicitDefEqProofs (maxSteps := 2000000) (disch := first | omega | (simp only [nx_new, nx_set, List.length_cons, List.length_nil, List.length_map, List.length_set, ne_eq, not_true_eq_false, not_false_eq_true, Nat.succ_ne_zero]; done) | (simp only [nx_new, nx_set, List.length_cons, List.length_nil, List.length_map, List.length_set, ne_eq, not_true_eq_false, not_false_eq_true, Nat.succ_ne_zero]; omega)) only [go_sem, reduceIte, reduceCtorEq, Nat.succ_ne_zero, not_false_eq_true, decide_true, decide_false, Nat.reduceAdd, Nat.reduceMul, Nat.reduceEqDiff, Nat.reduceLeDiff]
  refine (stable_spec hcmp hqn X hX hn hN hb hg).mono ?_
  rintro _ G2 ⟨rfl, h⟩
  simp -implicitDefEqProofs (maxSteps := 2000000) (disch := first | omega | (simp only [nx_new, nx_set, List.length_cons, List.length_nil, List.length_map, List.length_set, ne_eq, not_true_eq_false, not_false_eq_true, Nat.succ_ne_zero]; done) | (simp only [nx_new, nx_set, List.length_cons, List.length_nil, List.length_map, List.length_set, ne_eq, not_true_eq_false, not_false_eq_true, Nat.succ_ne_zero]; omega)) only [go_sem, reduceIte, reduceCtorEq, Nat.succ_ne_zero, not_false_eq_true, decide_true, decide_false, Nat.reduceAdd, Nat.reduceMul, Nat.reduceEqDiff, Nat.reduceLeDiff]
  exact ret_n (v := .tuple #[]) (ares0 ret24) ⟨rfl, h⟩
end Go.Proofs.Ytejpfdhlpcgfkaa
