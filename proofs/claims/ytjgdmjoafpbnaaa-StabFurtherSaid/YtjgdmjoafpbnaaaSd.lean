/- Stable sorting of a row of whole numbers: slices.SortStableFunc. -/
import Derived.Test.YtjgdmjoafpbnaaaSc
set_option linter.unusedVariables false
set_option linter.unusedSimpArgs false
set_option linter.unusedSectionVars false
namespace Go.Proofs.Ytjgdmjoafpbnaaa
open Go.Abs Go.Sm
set_option maxHeartbeats 8000000
set_option maxRecDepth 100000

theorem pw_lt {X : List Nat} (h : X.Pairwise (· < ·)) {p A B r : List Nat} (e : p ++ A ++ B ++ r = X) : ∀ x, x ∈ A → ∀ y, y ∈ B → x < y := by
  subst e
  have h1 := (List.pairwise_append.1 h).1
  have h2 := List.pairwise_append.1 h1
  exact fun x hx y hy => h2.2.2 x (List.mem_append_right _ hx) y hy

theorem n29 : Try.f29.ntmps = 63 := rfl
theorem ret29 : Try.f29.results = #[] := rfl
abbrev cv (c : Nat) : Value := .func (.func 20) #[] #[.pointer (some ⟨c, 0, none⟩)]
theorem stable_spec {G0 H : Hp} {q c n N : Nat} {key : Nat → Int} (hcmp : Cmp G0 c n key) (hk0 : Keeps G0 H) (hq : G0.next ≤ q) (X : List Nat) (hX : X.Pairwise (· < ·)) (hn : ∀ x, x ∈ X → x < n) (hN : X.length = N) (hb : N ≤ 100000) (hg : H.get q = .row (X.map iv) true 1) :
    ACalls Try.prog 29 [.slice (some ⟨q, 0, none⟩) N N, .int .i64 N, cv c] H (fun w H' => w = .tuple #[] ∧ ∃ Y : List Nat, Y.Perm X ∧ Y.Pairwise (bf key) ∧ H' = H.set q (.row (Y.map iv) true 1)) := by
  refine ACalls_enter Try.func29 (by kernel_rfl) rfl (by kernel_rfl) (by simp [n29]) fun hw hr => AWP_step ?_
  simp -implicitDefEqProofs (maxSteps := 2000000) (disch := first | omega | (simp only [nx_new, nx_set, List.length_cons, List.length_nil, List.length_map, List.length_set, ne_eq, not_true_eq_false, not_false_eq_true, Nat.succ_ne_zero]; done) | (simp only [nx_new, nx_set, List.length_cons, List.length_nil, List.length_map, List.length_set, ne_eq, not_true_eq_false, not_false_eq_true, Nat.succ_ne_zero]; omega)) only [go_sem, reduceIte, reduceCtorEq, Nat.succ_ne_zero, not_false_eq_true, decide_true, decide_false, Nat.reduceAdd, Nat.reduceMul, Nat.reduceEqDiff, Nat.reduceLeDiff]
  refine AWP_step ?_
  simp -implicitDefEqProofs (maxSteps := 2000000) (disch := first | omega | (simp only [nx_new, nx_set, List.length_cons, List.length_nil, List.length_map, List.length_set, ne_eq, not_true_eq_false, not_false_eq_true, Nat.succ_ne_zero]; done) | (simp only [nx_new, nx_set, List.length_cons, List.length_nil, List.length_map, List.length_set, ne_eq, not_true_eq_false, not_false_eq_true, Nat.succ_ne_zero]; omega)) only [go_sem, reduceIte, reduceCtorEq, Nat.succ_ne_zero, not_false_eq_true, decide_true, decide_false, Nat.reduceAdd, Nat.reduceMul, Nat.reduceEqDiff, Nat.reduceLeDiff]
  refine AWP_join (σ := List Nat × Hp) (fun s => [(6, .int .i64 20), (0, .slice (some ⟨q, 0, none⟩) N N), (1, .int .i64 N), (2, cv c), (7, .int .i64 s.1.length)]) (fun s => s.2)
    (fun s => ∃ Xd Xr, X = Xd ++ Xr ∧ s.1.length = Xd.length ∧ s.1.Perm Xd ∧ Xr.length < 20 ∧ Ahead key (fun n => n) 20 Xd s.1 ∧ s.2 = H.set q (.row ((s.1 ++ Xr).map iv) true 1)) ?_ ?_
  · simp -implicitDefEqProofs (maxSteps := 2000000) (disch := first | omega | (simp only [nx_new, nx_set, List.length_cons, List.length_nil, List.length_map, List.length_set, ne_eq, not_true_eq_false, not_false_eq_true, Nat.succ_ne_zero]; done) | (simp only [nx_new, nx_set, List.length_cons, List.length_nil, List.length_map, List.length_set, ne_eq, not_true_eq_false, not_false_eq_true, Nat.succ_ne_zero]; omega)) only [go_sem, reduceIte, reduceCtorEq, Nat.succ_ne_zero, not_false_eq_true, decide_true, decide_false, Nat.reduceAdd, Nat.reduceMul, Nat.reduceEqDiff, Nat.reduceLeDiff]
    refine AWP_loop (σ := List Nat × Hp) (fun s => [(7, .int .i64 s.1.length), (8, .int .i64 ((s.1.length + 20 : Nat) : Int)), (6, .int .i64 20), (0, .slice (some ⟨q, 0, none⟩) N N), (1, .int .i64 N), (2, cv c)]) (fun s => s.2)
      (fun s => ∃ Xd Xr, X = Xd ++ Xr ∧ s.1.length = Xd.length ∧ s.1.Perm Xd ∧ Ahead key (fun n => n) 20 Xd s.1 ∧ s.2 = H.set q (.row ((s.1 ++ Xr).map iv) true 1))
      (fun s => N - s.1.length) ([], H) ⟨[], X, rfl, rfl, List.Perm.refl _, Ahead.nil, (set_self hg).symm⟩ (Weak.sub ?_) ?_
    · (simp -implicitDefEqProofs (disch := omega) only [Abs.Sub, get_cons_eq, get_cons_ne, and_self, Option.some.injEq, Value.int.injEq, Value.slice.injEq, true_and, and_true, Int.natCast_zero, Int.natCast_add, Int.natCast_one, List.length_nil]; try omega)
    · rintro ⟨Yd, G⟩ ⟨Xd, Xr, hXe, hl, hp, hah, hG⟩
      simp only at hl hp hah hG ⊢
      refine AWP_of_awp ?_
      have hXl : Xd.length + Xr.length = N := by rw [← hN, hXe, List.length_append]
      by_cases hlt : 20 ≤ Xr.length
      · have hXs : Xr.take 20 ++ Xr.drop 20 = Xr := List.take_append_drop _ _
        have hA : (Xr.take 20).length = 20 := by rw [List.length_take]; omega
        have hB : (Xr.drop 20).length = Xr.length - 20 := List.length_drop
        generalize Xr.take 20 = A at *
        generalize Xr.drop 20 = B at *
        subst hXs
        have hXA : A.Pairwise (· < ·) := by
          rw [hXe] at hX
          exact (List.pairwise_append.1 (List.pairwise_append.1 hX).2.1).1
        rw [← List.append_assoc] at hG
        have hgG : G.get q = .row ((Yd ++ A ++ B).map iv) true 1 := by rw [hG]; exact Hp.get_set_same _ _ _ _ rfl
        rw [List.length_append] at hXl hB hlt
        simp -implicitDefEqProofs (maxSteps := 2000000) (disch := first | omega | (simp only [nx_new, nx_set, List.length_cons, List.length_nil, List.length_map, List.length_set, ne_eq, not_true_eq_false, not_false_eq_true, Nat.succ_ne_zero]; done) | (simp only [nx_new, nx_set, List.length_cons, List.length_nil, List.length_map, List.length_set, ne_eq, not_true_eq_false, not_false_eq_true, Nat.succ_ne_zero]; omega)) only [go_sem, reduceIte, reduceCtorEq, Nat.succ_ne_zero, not_false_eq_true, decide_true, decide_false, Nat.reduceAdd, Nat.reduceMul, Nat.reduceEqDiff, Nat.reduceLeDiff]
        refine (insertion_spec hcmp (by rw [hG]; exact hk0.set hq) hq Yd A B hXA (fun x hx => hn x (by rw [hXe]; simp [hx])) (by simp only [List.length_append]; omega) (by omega) rfl (by omega) hgG).mono ?_
        rintro _ _ ⟨rfl, Y, hY1, hY2, rfl⟩
        rw [hG, set_two]
        simp -implicitDefEqProofs (maxSteps := 2000000) (disch := first | omega | (simp only [nx_new, nx_set, List.length_cons, List.length_nil, List.length_map, List.length_set, ne_eq, not_true_eq_false, not_false_eq_true, Nat.succ_ne_zero]; done) | (simp only [nx_new, nx_set, List.length_cons, List.length_nil, List.length_map, List.length_set, ne_eq, not_true_eq_false, not_false_eq_true, Nat.succ_ne_zero]; omega)) only [go_sem, reduceIte, reduceCtorEq, Nat.succ_ne_zero, not_false_eq_true, decide_true, decide_false, Nat.reduceAdd, Nat.reduceMul, Nat.reduceEqDiff, Nat.reduceLeDiff]
        have hYl := hY1.length_eq
        refine ⟨(Yd ++ Y, _), ⟨Xd ++ A, B, by rw [hXe, List.append_assoc], by simp only [List.length_append]; omega, hp.append hY1, hah.snoc hA hY1 hY2, rfl⟩, by simp only [List.length_append]; omega, Weak.sub ?_⟩
        simp -implicitDefEqProofs (disch := omega) only [Abs.Sub, get_cons_eq, get_cons_ne, and_self, Int.natCast_zero, Int.natCast_add, Int.natCast_one]
        simp only [List.length_append, Option.some.injEq, Value.int.injEq, true_and, and_true]
        omega
      · simp -implicitDefEqProofs (maxSteps := 2000000) (disch := first | omega | (simp only [nx_new, nx_set, List.length_cons, List.length_nil, List.length_map, List.length_set, ne_eq, not_true_eq_false, not_false_eq_true, Nat.succ_ne_zero]; done) | (simp only [nx_new, nx_set, List.length_cons, List.length_nil, List.length_map, List.length_set, ne_eq, not_true_eq_false, not_false_eq_true, Nat.succ_ne_zero]; omega)) only [go_sem, reduceIte, reduceCtorEq, Nat.succ_ne_zero, not_false_eq_true, decide_true, decide_false, Nat.reduceAdd, Nat.reduceMul, Nat.reduceEqDiff, Nat.reduceLeDiff]
        refine ⟨(Yd, G), ⟨Xd, Xr, hXe, hl, hp, by omega, hah, hG⟩, Weak.sub ?_⟩
        (simp -implicitDefEqProofs (disch := omega) only [Abs.Sub, get_cons_eq, get_cons_ne, and_self, Option.some.injEq, Value.int.injEq, Value.slice.injEq, true_and, and_true, Int.natCast_zero, Int.natCast_add, Int.natCast_one, List.length_nil]; try omega)
  · rintro ⟨Yd, G⟩ ⟨Xd, Xr, hXe, hl, hp, hlt, hah, hG⟩
    simp only at hl hp hah hG ⊢
    have hXl : Xd.length + Xr.length = N := by rw [← hN, hXe, List.length_append]
    refine AWP_step ?_
    have hXA : Xr.Pairwise (· < ·) := by
      rw [hXe] at hX
      exact (List.pairwise_append.1 hX).2.1
    have hgG : G.get q = .row ((Yd ++ Xr ++ []).map iv) true 1 := by rw [hG, List.append_nil]; exact Hp.get_set_same _ _ _ _ rfl
    simp -implicitDefEqProofs (maxSteps := 2000000) (disch := first | omega | (simp only [nx_new, nx_set, List.length_cons, List.length_nil, List.length_map, List.length_set, ne_eq, not_true_eq_false, not_false_eq_true, Nat.succ_ne_zero]; done) | (simp only [nx_new, nx_set, List.length_cons, List.length_nil, List.length_map, List.length_set, ne_eq, not_true_eq_false, not_false_eq_true, Nat.succ_ne_zero]; omega)) only [go_sem, reduceIte, reduceCtorEq, Nat.succ_ne_zero, not_false_eq_true, decide_true, decide_false, Nat.reduceAdd, Nat.reduceMul, Nat.reduceEqDiff, Nat.reduceLeDiff]
    refine (insertion_spec hcmp (by rw [hG]; exact hk0.set hq) hq Yd Xr [] hXA (fun x hx => hn x (by rw [hXe]; simp [hx])) (by simp only [List.length_append, List.length_nil]; omega) (by omega) rfl (by omega) hgG).mono ?_
    rintro _ _ ⟨rfl, Y, hY1, hY2, rfl⟩
    rw [hG, set_two, List.append_nil]
    have hruns : Runs key (fun n => n) 20 X (Yd ++ Y) := by
      rw [hXe]
      exact hah _ _ (.last (by omega) hY1 hY2)
    generalize Yd ++ Y = Z at *
    simp -implicitDefEqProofs (maxSteps := 2000000) (disch := first | omega | (simp only [nx_new, nx_set, List.length_cons, List.length_nil, List.length_map, List.length_set, ne_eq, not_true_eq_false, not_false_eq_true, Nat.succ_ne_zero]; done) | (simp only [nx_new, nx_set, List.length_cons, List.length_nil, List.length_map, List.length_set, ne_eq, not_true_eq_false, not_false_eq_true, Nat.succ_ne_zero]; omega)) only [go_sem, reduceIte, reduceCtorEq, Nat.succ_ne_zero, not_false_eq_true, decide_true, decide_false, Nat.reduceAdd, Nat.reduceMul, Nat.reduceEqDiff, Nat.reduceLeDiff]
    clear hG hgG hah hl hp hXA
    refine AWP_of_awp ?_
    simp -implicitDefEqProofs (maxSteps := 2000000) (disch := first | omega | (simp only [nx_new, nx_set, List.length_cons, List.length_nil, List.length_map, List.length_set, ne_eq, not_true_eq_false, not_false_eq_true, Nat.succ_ne_zero]; done) | (simp only [nx_new, nx_set, List.length_cons, List.length_nil, List.length_map, List.length_set, ne_eq, not_true_eq_false, not_false_eq_true, Nat.succ_ne_zero]; omega)) only [go_sem, reduceIte, reduceCtorEq, Nat.succ_ne_zero, not_false_eq_true, decide_true, decide_false, Nat.reduceAdd, Nat.reduceMul, Nat.reduceEqDiff, Nat.reduceLeDiff]
    refine AWP_loop (σ := Nat × List Nat × Hp) (fun s => [(6, .int .i64 s.1), (0, .slice (some ⟨q, 0, none⟩) N N), (1, .int .i64 N), (2, cv c)]) (fun s => s.2.2)
      (fun s => 20 ≤ s.1 ∧ s.1 ≤ 2 * N + 20 ∧ Runs key (fun n => n) s.1 X s.2.1 ∧ s.2.2 = H.set q (.row (s.2.1.map iv) true 1))
      (fun s => N - s.1) (20, Z, _) ⟨Nat.le_refl _, by simp only; omega, hruns, rfl⟩ (Weak.sub ?_) ?_
    · (simp -implicitDefEqProofs (disch := omega) only [Abs.Sub, get_cons_eq, get_cons_ne, and_self, Option.some.injEq, Value.int.injEq, Value.slice.injEq, true_and, and_true, Int.natCast_zero, Int.natCast_add, Int.natCast_one, List.length_nil]; try omega)
    · rintro ⟨s, Z, G⟩ ⟨hs20, hs2, hr, hG⟩
      simp only at hs20 hs2 hr hG ⊢
      by_cases hsN : s < N
      · refine AWP_of_awp ?_
        simp -implicitDefEqProofs (maxSteps := 2000000) (disch := first | omega | (simp only [nx_new, nx_set, List.length_cons, List.length_nil, List.length_map, List.length_set, ne_eq, not_true_eq_false, not_false_eq_true, Nat.succ_ne_zero]; done) | (simp only [nx_new, nx_set, List.length_cons, List.length_nil, List.length_map, List.length_set, ne_eq, not_true_eq_false, not_false_eq_true, Nat.succ_ne_zero]; omega)) only [go_sem, reduceIte, reduceCtorEq, Nat.succ_ne_zero, not_false_eq_true, decide_true, decide_false, Nat.reduceAdd, Nat.reduceMul, Nat.reduceEqDiff, Nat.reduceLeDiff]
        refine AWP_loop (σ := List Nat × List Nat × List Nat × Hp) (fun t => [(7, .int .i64 t.1.length), (8, .int .i64 ((t.1.length + 2 * s : Nat) : Int)), (6, .int .i64 s), (0, .slice (some ⟨q, 0, none⟩) N N), (1, .int .i64 N), (2, cv c)]) (fun t => t.2.2.2)
          (fun t => ∃ Xd Xr, X = Xd ++ Xr ∧ t.1.length = Xd.length ∧ Ahead key (fun n => n) (2 * s) Xd t.1 ∧ Runs key (fun n => n) s Xr t.2.1 ∧ t.2.2.2 = H.set q (.row ((t.1 ++ t.2.1).map iv) true 1))
          (fun t => N - t.1.length) ([], Z, [], G) ⟨[], X, rfl, rfl, Ahead.nil, hr, hG⟩ (Weak.sub ?_) ?_
        · (simp -implicitDefEqProofs (disch := omega) only [Abs.Sub, get_cons_eq, get_cons_ne, and_self, Option.some.injEq, Value.int.injEq, Value.slice.injEq, true_and, and_true, Int.natCast_zero, Int.natCast_add, Int.natCast_one, List.length_nil]; try omega)
        · rintro ⟨Yd, Zr, _, G2⟩ ⟨Xd, Xr, hXe, hl, hah, hrr, hG2⟩
          simp only at hl hah hrr hG2 ⊢
          refine AWP_of_awp ?_
          have hXl : Xd.length + Xr.length = N := by rw [← hN, hXe, List.length_append]
          have hZl := hrr.length
          by_cases h2 : 2 * s ≤ Xr.length
          · obtain ⟨XA, A, Xr1, Zr1, rfl, rfl, l1, pA, sA, hrr1⟩ := hrr.first (by omega)
            rw [List.length_append] at h2 hXl hZl
            obtain ⟨XB, B, Xr2, Zr2, rfl, rfl, l2, pB, sB, hrr2⟩ := hrr1.first (by omega)
            rw [List.length_append] at h2 hXl hZl
            have lA := pA.length_eq
            have lB := pB.length_eq
            have hgG : G2.get q = .row ((Yd ++ A ++ B ++ Zr2).map iv) true 1 := by rw [hG2]; simp only [← List.append_assoc]; exact Hp.get_set_same _ _ _ _ rfl
            have hAB : ∀ x, x ∈ A → ∀ y, y ∈ B → x < y := fun x hx y hy => pw_lt hX (p := Xd) (A := XA) (B := XB) (r := Xr2) (by rw [hXe]; simp only [List.append_assoc]) x (pA.mem_iff.1 hx) y (pB.mem_iff.1 hy)
            simp -implicitDefEqProofs (maxSteps := 2000000) (disch := first | omega | (simp only [nx_new, nx_set, List.length_cons, List.length_nil, List.length_map, List.length_set, ne_eq, not_true_eq_false, not_false_eq_true, Nat.succ_ne_zero]; done) | (simp only [nx_new, nx_set, List.length_cons, List.length_nil, List.length_map, List.length_set, ne_eq, not_true_eq_false, not_false_eq_true, Nat.succ_ne_zero]; omega)) only [go_sem, reduceIte, reduceCtorEq, Nat.succ_ne_zero, not_false_eq_true, decide_true, decide_false, Nat.reduceAdd, Nat.reduceMul, Nat.reduceEqDiff, Nat.reduceLeDiff]
            refine (sym_spec hcmp (A.length + B.length) Yd A B Zr2 (Nat.le_refl _) (by rw [hG2]; exact hk0.set hq) hq (by intro h; rw [h] at lA; simp at lA; omega) (by intro h; rw [h] at lB; simp at lB; omega) sA sB hAB (fun x hx => hn x (by
              rw [hXe]
              rcases List.mem_append.1 hx with hx | hx
              · have := pA.mem_iff.1 hx; simp [this]
              · have := pB.mem_iff.1 hx; simp [this])) (by simp only [List.length_append] at hZl ⊢; omega) (by omega) rfl (by omega) (by omega) hgG).mono ?_
            rintro _ _ ⟨rfl, Y, hY1, hY2, rfl⟩
            rw [hG2, set_two]
            have hYl := hY1.length_eq
            rw [List.length_append] at hYl
            simp -implicitDefEqProofs (maxSteps := 2000000) (disch := first | omega | (simp only [nx_new, nx_set, List.length_cons, List.length_nil, List.length_map, List.length_set, ne_eq, not_true_eq_false, not_false_eq_true, Nat.succ_ne_zero]; done) | (simp only [nx_new, nx_set, List.length_cons, List.length_nil, List.length_map, List.length_set, ne_eq, not_true_eq_false, not_false_eq_true, Nat.succ_ne_zero]; omega)) only [go_sem, reduceIte, reduceCtorEq, Nat.succ_ne_zero, not_false_eq_true, decide_true, decide_false, Nat.reduceAdd, Nat.reduceMul, Nat.reduceEqDiff, Nat.reduceLeDiff]
            refine ⟨(Yd ++ Y, Zr2, [], _), ⟨Xd ++ (XA ++ XB), Xr2, by rw [hXe]; simp only [List.append_assoc], by simp only [List.length_append]; omega, hah.snoc (by rw [List.length_append]; omega) (hY1.trans (pA.append pB)) hY2, hrr2, rfl⟩, by simp only [List.length_append]; omega, Weak.sub ?_⟩
            simp -implicitDefEqProofs (disch := omega) only [Abs.Sub, get_cons_eq, get_cons_ne, and_self, Int.natCast_zero, Int.natCast_add, Int.natCast_one]
            simp only [List.length_append, Option.some.injEq, Value.int.injEq, true_and, and_true]
            omega
          · simp -implicitDefEqProofs (maxSteps := 2000000) (disch := first | omega | (simp only [nx_new, nx_set, List.length_cons, List.length_nil, List.length_map, List.length_set, ne_eq, not_true_eq_false, not_false_eq_true, Nat.succ_ne_zero]; done) | (simp only [nx_new, nx_set, List.length_cons, List.length_nil, List.length_map, List.length_set, ne_eq, not_true_eq_false, not_false_eq_true, Nat.succ_ne_zero]; omega)) only [go_sem, reduceIte, reduceCtorEq, Nat.succ_ne_zero, not_false_eq_true, decide_true, decide_false, Nat.reduceAdd, Nat.reduceMul, Nat.reduceEqDiff, Nat.reduceLeDiff]
            by_cases h1 : s < Xr.length
            · obtain ⟨XA, A, Xr1, Zr1, rfl, rfl, l1, pA, sA, hrr1⟩ := hrr.first (by omega)
              rw [List.length_append] at h2 h1 hXl hZl
              have lA := pA.length_eq
              have lB := hrr1.length
              obtain ⟨pB, sB⟩ := hrr1.one (by omega) (by omega)
              have hgG : G2.get q = .row ((Yd ++ A ++ Zr1 ++ []).map iv) true 1 := by rw [hG2, List.append_nil]; simp only [← List.append_assoc]; exact Hp.get_set_same _ _ _ _ rfl
              have hAB : ∀ x, x ∈ A → ∀ y, y ∈ Zr1 → x < y := fun x hx y hy => pw_lt hX (p := Xd) (A := XA) (B := Xr1) (r := []) (by rw [hXe]; simp only [List.append_assoc, List.append_nil]) x (pA.mem_iff.1 hx) y (pB.mem_iff.1 hy)
              simp -implicitDefEqProofs (maxSteps := 2000000) (disch := first | omega | (simp only [nx_new, nx_set, List.length_cons, List.length_nil, List.length_map, List.length_set, ne_eq, not_true_eq_false, not_false_eq_true, Nat.succ_ne_zero]; done) | (simp only [nx_new, nx_set, List.length_cons, List.length_nil, List.length_map, List.length_set, ne_eq, not_true_eq_false, not_false_eq_true, Nat.succ_ne_zero]; omega)) only [go_sem, reduceIte, reduceCtorEq, Nat.succ_ne_zero, not_false_eq_true, decide_true, decide_false, Nat.reduceAdd, Nat.reduceMul, Nat.reduceEqDiff, Nat.reduceLeDiff]
              refine (sym_spec hcmp (A.length + Zr1.length) Yd A Zr1 [] (Nat.le_refl _) (by rw [hG2]; exact hk0.set hq) hq (by intro h; rw [h] at lA; simp at lA; omega) (by intro h; rw [h] at lB; simp at lB; omega) sA sB hAB (fun x hx => hn x (by
                rw [hXe]
                rcases List.mem_append.1 hx with hx | hx
                · have := pA.mem_iff.1 hx; simp [this]
                · have := pB.mem_iff.1 hx; simp [this])) (by simp only [List.length_append, List.length_nil] at hZl ⊢; omega) (by omega) rfl (by omega) (by omega) hgG).mono ?_
              rintro _ _ ⟨rfl, Y, hY1, hY2, rfl⟩
              rw [hG2, set_two, List.append_nil]
              simp -implicitDefEqProofs (maxSteps := 2000000) (disch := first | omega | (simp only [nx_new, nx_set, List.length_cons, List.length_nil, List.length_map, List.length_set, ne_eq, not_true_eq_false, not_false_eq_true, Nat.succ_ne_zero]; done) | (simp only [nx_new, nx_set, List.length_cons, List.length_nil, List.length_map, List.length_set, ne_eq, not_true_eq_false, not_false_eq_true, Nat.succ_ne_zero]; omega)) only [go_sem, reduceIte, reduceCtorEq, Nat.succ_ne_zero, not_false_eq_true, decide_true, decide_false, Nat.reduceAdd, Nat.reduceMul, Nat.reduceEqDiff, Nat.reduceLeDiff]
              refine ⟨(2 * s, Yd ++ Y, _), ⟨by simp only; omega, by simp only; omega, ?_, rfl⟩, by simp only; omega, Weak.sub ?_⟩
              · rw [hXe]
                exact hah _ _ (.last (by rw [List.length_append]; omega) (hY1.trans (pA.append pB)) hY2)
              · (simp -implicitDefEqProofs (disch := omega) only [Abs.Sub, get_cons_eq, get_cons_ne, and_self, Option.some.injEq, Value.int.injEq, Value.slice.injEq, true_and, and_true, Int.natCast_zero, Int.natCast_add, Int.natCast_one, List.length_nil]; try omega)
            · obtain ⟨pB, sB⟩ := hrr.one (by omega) (by omega)
              simp -implicitDefEqProofs (maxSteps := 2000000) (disch := first | omega | (simp only [nx_new, nx_set, List.length_cons, List.length_nil, List.length_map, List.length_set, ne_eq, not_true_eq_false, not_false_eq_true, Nat.succ_ne_zero]; done) | (simp only [nx_new, nx_set, List.length_cons, List.length_nil, List.length_map, List.length_set, ne_eq, not_true_eq_false, not_false_eq_true, Nat.succ_ne_zero]; omega)) only [go_sem, reduceIte, reduceCtorEq, Nat.succ_ne_zero, not_false_eq_true, decide_true, decide_false, Nat.reduceAdd, Nat.reduceMul, Nat.reduceEqDiff, Nat.reduceLeDiff]
              refine ⟨(2 * s, Yd ++ Zr, G2), ⟨by simp only; omega, by simp only; omega, ?_, hG2⟩, by simp only; omega, Weak.sub ?_⟩
              · rw [hXe]
                exact hah _ _ (.last (by omega) pB sB)
              · (simp -implicitDefEqProofs (disch := omega) only [Abs.Sub, get_cons_eq, get_cons_ne, and_self, Option.some.injEq, Value.int.injEq, Value.slice.injEq, true_and, and_true, Int.natCast_zero, Int.natCast_add, Int.natCast_one, List.length_nil]; try omega)
      · refine AWP_of_awp ?_
        simp -implicitDefEqProofs (maxSteps := 2000000) (disch := first | omega | (simp only [nx_new, nx_set, List.length_cons, List.length_nil, List.length_map, List.length_set, ne_eq, not_true_eq_false, not_false_eq_true, Nat.succ_ne_zero]; done) | (simp only [nx_new, nx_set, List.length_cons, List.length_nil, List.length_map, List.length_set, ne_eq, not_true_eq_false, not_false_eq_true, Nat.succ_ne_zero]; omega)) only [go_sem, reduceIte, reduceCtorEq, Nat.succ_ne_zero, not_false_eq_true, decide_true, decide_false, Nat.reduceAdd, Nat.reduceMul, Nat.reduceEqDiff, Nat.reduceLeDiff]
        obtain ⟨f1, f2⟩ := hr.one (by omega) (by omega)
        refine ret_n (v := .tuple #[]) (ares0 ret29) ⟨rfl, Z, f1, f2, hG⟩

theorem n19 : Try.f19.ntmps = 9 := rfl
theorem ret19 : Try.f19.results = #[] := rfl
theorem sortStable_spec {G0 H : Hp} {q c n N : Nat} {key : Nat → Int} (hcmp : Cmp G0 c n key) (hk0 : Keeps G0 H) (hq : G0.next ≤ q) (X : List Nat) (hX : X.Pairwise (· < ·)) (hn : ∀ x, x ∈ X → x < n) (hN : X.length = N) (hb : N ≤ 100000) (hg : H.get q = .row (X.map iv) true 1) :
    ACalls Try.prog 19 [.slice (some ⟨q, 0, none⟩) N N, cv c] H (fun w H' => w = .tuple #[] ∧ ∃ Y : List Nat, Y.Perm X ∧ Y.Pairwise (bf key) ∧ H' = H.set q (.row (Y.map iv) true 1)) := by
  refine ACalls_enter Try.func19 (by kernel_rfl) rfl (by kernel_rfl) (by simp [n19]) fun hw hr => AWP_of_awp ?_
  simp -implicitDefEqProofs (maxSteps := 2000000) (disch := first | omega | (simp only [nx_new, nx_set, List.length_cons, List.length_nil, List.length_map, List.length_set, ne_eq, not_true_eq_false, not_false_eq_true, Nat.succ_ne_zero]; done) | (simp only [nx_new, nx_set, List.length_cons, List.length_nil, List.length_map, List.length_set, ne_eq, not_true_eq_false, not_false_eq_true, Nat.succ_ne_zero]; omega)) only [go_sem, reduceIte, reduceCtorEq, Nat.succ_ne_zero, not_false_eq_true, decide_true, decide_false, Nat.reduceAdd, Nat.reduceMul, Nat.reduceEqDiff, Nat.reduceLeDiff]
  refine (stable_spec hcmp hk0 hq X hX hn hN hb hg).mono ?_
  rintro _ _ ⟨rfl, Y, hY1, hY2, rfl⟩
  simp -implicitDefEqProofs (maxSteps := 2000000) (disch := first | omega | (simp only [nx_new, nx_set, List.length_cons, List.length_nil, List.length_map, List.length_set, ne_eq, not_true_eq_false, not_false_eq_true, Nat.succ_ne_zero]; done) | (simp only [nx_new, nx_set, List.length_cons, List.length_nil, List.length_map, List.length_set, ne_eq, not_true_eq_false, not_false_eq_true, Nat.succ_ne_zero]; omega)) only [go_sem, reduceIte, reduceCtorEq, Nat.succ_ne_zero, not_false_eq_true, decide_true, decide_false, Nat.reduceAdd, Nat.reduceMul, Nat.reduceEqDiff, Nat.reduceLeDiff]
  exact ret_n (v := .tuple #[]) (ares0 ret19) ⟨rfl, Y, hY1, hY2, rfl⟩
end Go.Proofs.Ytjgdmjoafpbnaaa
