/- Stable sorting of a row of whole numbers: rotating; sorting by insertion. -/
import Derived.Test.YtjgdmjoafpbnaaaSa
set_option linter.unusedVariables false
set_option linter.unusedSimpArgs false
set_option linter.unusedSectionVars false
namespace Go.Proofs.Ytjgdmjoafpbnaaa
open Go.Abs Go.Sm
set_option maxHeartbeats 8000000
set_option maxRecDepth 100000

theorem n45 : Try.f45.ntmps = 58 := rfl
theorem ret45 : Try.f45.results = #[] := rfl
theorem rotate_spec {H : Hp} {q : Nat} {fv : Value} {N : Nat} {a m b : Int} (p u v r : List Nat) (hu : u ≠ []) (hv : v ≠ []) (hN : (p ++ u ++ v ++ r).length = N) (hb : N ≤ 1000000) (ha : a = p.length) (hm : m = ((p.length + u.length : Nat) : Int)) (hb2 : b = ((p.length + u.length + v.length : Nat) : Int))
    (hg : H.get q = .row ((p ++ u ++ v ++ r).map iv) true 1) :
    ACalls Try.prog 45 [.slice (some ⟨q, 0, none⟩) N N, .int .i64 a, .int .i64 m, .int .i64 b, fv] H (fun w H' => w = .tuple #[] ∧ H' = H.set q (.row ((p ++ v ++ u ++ r).map iv) true 1)) := by
  subst ha; subst hm; subst hb2
  refine ACalls_enter Try.func45 (by kernel_rfl) rfl (by kernel_rfl) (by simp [n45]) fun hw hr => AWP_of_awp ?_
  have hu0 : 0 < u.length := List.length_pos_iff.2 hu
  have hv0 : 0 < v.length := List.length_pos_iff.2 hv
  have hNl : p.length + u.length + v.length + r.length = N := by rw [← hN]; simp only [List.length_append]
  simp -implicitDefEqProofs (maxSteps := 2000000) (disch := first | omega | (simp only [nx_new, nx_set, List.length_cons, List.length_nil, List.length_map, List.length_set, ne_eq, not_true_eq_false, not_false_eq_true, Nat.succ_ne_zero]; done) | (simp only [nx_new, nx_set, List.length_cons, List.length_nil, List.length_map, List.length_set, ne_eq, not_true_eq_false, not_false_eq_true, Nat.succ_ne_zero]; omega)) only [go_sem, reduceIte, reduceCtorEq, Nat.succ_ne_zero, not_false_eq_true, decide_true, decide_false, Nat.reduceAdd, Nat.reduceMul, Nat.reduceEqDiff, Nat.reduceLeDiff]
  refine AWP_loop (σ := (List Nat × List Nat × List Nat × List Nat) × Hp) (fun s => [(10, .int .i64 s.1.2.1.length), (11, .int .i64 s.1.2.2.1.length), (0, .slice (some ⟨q, 0, none⟩) N N), (2, .int .i64 ((p.length + u.length : Nat) : Int)), (4, fv)]) (fun s => s.2)
    (fun s => 0 < s.1.2.1.length ∧ 0 < s.1.2.2.1.length ∧ s.1.1.length + s.1.2.1.length = p.length + u.length ∧ s.1.1 ++ s.1.2.2.1 ++ s.1.2.1 ++ s.1.2.2.2 = p ++ v ++ u ++ r ∧ s.2 = H.set q (.row ((s.1.1 ++ s.1.2.1 ++ s.1.2.2.1 ++ s.1.2.2.2).map iv) true 1))
    (fun s => s.1.2.1.length + s.1.2.2.1.length) ((p, u, v, r), H) ⟨hu0, hv0, rfl, rfl, (set_self hg).symm⟩ (Weak.sub ?_) ?_
  · simp -implicitDefEqProofs (disch := omega) only [Abs.Sub, get_cons_eq, get_cons_ne, and_self, Int.natCast_zero, Int.natCast_add, Int.natCast_one]
    refine ⟨?_, ?_, trivial⟩
    · (first | rfl | (simp only [Option.some.injEq, Value.int.injEq, Value.slice.injEq, true_and, and_true]; omega))
    · (first | rfl | (simp only [Option.some.injEq, Value.int.injEq, Value.slice.injEq, true_and, and_true]; omega))
  · rintro ⟨⟨p', u', v', r'⟩, G⟩ ⟨hu1, hv1, hm, hfin, hG⟩
    simp only at hu1 hv1 hm hfin hG ⊢
    refine AWP_of_awp ?_
    have hgG : G.get q = .row ((p' ++ u' ++ v' ++ r').map iv) true 1 := by rw [hG]; exact Hp.get_set_same _ _ _ _ rfl
    have hl : p'.length + u'.length + v'.length + r'.length = N := by
      have := congrArg List.length hfin
      simp only [List.length_append] at this
      omega
    rcases Nat.lt_trichotomy u'.length v'.length with hij | hij | hij
    · simp -implicitDefEqProofs (maxSteps := 2000000) (disch := first | omega | (simp only [nx_new, nx_set, List.length_cons, List.length_nil, List.length_map, List.length_set, ne_eq, not_true_eq_false, not_false_eq_true, Nat.succ_ne_zero]; done) | (simp only [nx_new, nx_set, List.length_cons, List.length_nil, List.length_map, List.length_set, ne_eq, not_true_eq_false, not_false_eq_true, Nat.succ_ne_zero]; omega)) only [go_sem, reduceIte, reduceCtorEq, Nat.succ_ne_zero, not_false_eq_true, decide_true, decide_false, Nat.reduceAdd, Nat.reduceMul, Nat.reduceEqDiff, Nat.reduceLeDiff]
      have hs : v'.take (v'.length - u'.length) ++ v'.drop (v'.length - u'.length) = v' := List.take_append_drop _ _
      have h1 : (v'.take (v'.length - u'.length)).length = v'.length - u'.length := by rw [List.length_take]; omega
      have h2 : (v'.drop (v'.length - u'.length)).length = u'.length := by rw [List.length_drop]; omega
      generalize v'.take (v'.length - u'.length) = s at *
      generalize v'.drop (v'.length - u'.length) = t at *
      subst hs
      rw [List.length_append] at hij hl ⊢
      have eG : G.set q (.row ((p' ++ t ++ s ++ u' ++ r').map iv) true 1) = H.set q (.row ((p' ++ t ++ s ++ (u' ++ r')).map iv) true 1) := by
        rw [hG, set_two]; simp only [List.append_assoc]
      refine ACalls.use_eq (swapRange_spec p' u' s t r' (by omega) (by simp only [List.length_append]; omega) hb (by omega) (by omega) rfl (by rw [hgG]; simp only [List.append_assoc])) ?_
      rw [eG]
      simp -implicitDefEqProofs (maxSteps := 2000000) (disch := first | omega | (simp only [nx_new, nx_set, List.length_cons, List.length_nil, List.length_map, List.length_set, ne_eq, not_true_eq_false, not_false_eq_true, Nat.succ_ne_zero]; done) | (simp only [nx_new, nx_set, List.length_cons, List.length_nil, List.length_map, List.length_set, ne_eq, not_true_eq_false, not_false_eq_true, Nat.succ_ne_zero]; omega)) only [go_sem, reduceIte, reduceCtorEq, Nat.succ_ne_zero, not_false_eq_true, decide_true, decide_false, Nat.reduceAdd, Nat.reduceMul, Nat.reduceEqDiff, Nat.reduceLeDiff]
      rw [List.length_append] at h1
      refine ⟨((p', t, s, u' ++ r'), _), ⟨by simp only; omega, by simp only; omega, by simp only; omega, ?_, rfl⟩, by simp only [List.length_append]; omega, Weak.sub ?_⟩
      · rw [← hfin]; simp only [List.append_assoc]
      · simp -implicitDefEqProofs (disch := omega) only [Abs.Sub, get_cons_eq, get_cons_ne, and_self, Int.natCast_zero, Int.natCast_add, Int.natCast_one]
        refine ⟨?_, ?_, trivial⟩
        · (first | rfl | (simp only [Option.some.injEq, Value.int.injEq, Value.slice.injEq, true_and, and_true]; omega))
        · (first | rfl | (simp only [Option.some.injEq, Value.int.injEq, Value.slice.injEq, true_and, and_true]; omega))
    · simp -implicitDefEqProofs (maxSteps := 2000000) (disch := first | omega | (simp only [nx_new, nx_set, List.length_cons, List.length_nil, List.length_map, List.length_set, ne_eq, not_true_eq_false, not_false_eq_true, Nat.succ_ne_zero]; done) | (simp only [nx_new, nx_set, List.length_cons, List.length_nil, List.length_map, List.length_set, ne_eq, not_true_eq_false, not_false_eq_true, Nat.succ_ne_zero]; omega)) only [go_sem, reduceIte, reduceCtorEq, Nat.succ_ne_zero, not_false_eq_true, decide_true, decide_false, Nat.reduceAdd, Nat.reduceMul, Nat.reduceEqDiff, Nat.reduceLeDiff]
      refine ACalls.use_eq (swapRange_spec p' u' [] v' r' hij (by simp only [List.length_append, List.length_nil]; omega) hb (by omega) (by simp only [List.length_nil]; omega) rfl (by rw [hgG]; simp only [List.append_assoc, List.nil_append])) ?_
      simp -implicitDefEqProofs (maxSteps := 2000000) (disch := first | omega | (simp only [nx_new, nx_set, List.length_cons, List.length_nil, List.length_map, List.length_set, ne_eq, not_true_eq_false, not_false_eq_true, Nat.succ_ne_zero]; done) | (simp only [nx_new, nx_set, List.length_cons, List.length_nil, List.length_map, List.length_set, ne_eq, not_true_eq_false, not_false_eq_true, Nat.succ_ne_zero]; omega)) only [go_sem, reduceIte, reduceCtorEq, Nat.succ_ne_zero, not_false_eq_true, decide_true, decide_false, Nat.reduceAdd, Nat.reduceMul, Nat.reduceEqDiff, Nat.reduceLeDiff]
      refine ret_n (v := .tuple #[]) (ares0 ret45) ⟨rfl, ?_⟩
      rw [hG, set_two, ← hfin]
      try simp only [List.append_nil]
    · simp -implicitDefEqProofs (maxSteps := 2000000) (disch := first | omega | (simp only [nx_new, nx_set, List.length_cons, List.length_nil, List.length_map, List.length_set, ne_eq, not_true_eq_false, not_false_eq_true, Nat.succ_ne_zero]; done) | (simp only [nx_new, nx_set, List.length_cons, List.length_nil, List.length_map, List.length_set, ne_eq, not_true_eq_false, not_false_eq_true, Nat.succ_ne_zero]; omega)) only [go_sem, reduceIte, reduceCtorEq, Nat.succ_ne_zero, not_false_eq_true, decide_true, decide_false, Nat.reduceAdd, Nat.reduceMul, Nat.reduceEqDiff, Nat.reduceLeDiff]
      have hs : u'.take v'.length ++ u'.drop v'.length = u' := List.take_append_drop _ _
      have h1 : (u'.take v'.length).length = v'.length := by rw [List.length_take]; omega
      have h2 : (u'.drop v'.length).length = u'.length - v'.length := by rw [List.length_drop]
      generalize u'.take v'.length = s at *
      generalize u'.drop v'.length = t at *
      subst hs
      rw [List.length_append] at hij hl hm ⊢
      have eG : G.set q (.row ((p' ++ v' ++ t ++ s ++ r').map iv) true 1) = H.set q (.row ((p' ++ v' ++ t ++ s ++ r').map iv) true 1) := by
        rw [hG, set_two]
      refine ACalls.use_eq (swapRange_spec p' s t v' r' (by omega) (by simp only [List.length_append]; omega) hb (by omega) (by omega) (by omega) (by rw [hgG]; simp only [List.append_assoc])) ?_
      rw [eG]
      simp -implicitDefEqProofs (maxSteps := 2000000) (disch := first | omega | (simp only [nx_new, nx_set, List.length_cons, List.length_nil, List.length_map, List.length_set, ne_eq, not_true_eq_false, not_false_eq_true, Nat.succ_ne_zero]; done) | (simp only [nx_new, nx_set, List.length_cons, List.length_nil, List.length_map, List.length_set, ne_eq, not_true_eq_false, not_false_eq_true, Nat.succ_ne_zero]; omega)) only [go_sem, reduceIte, reduceCtorEq, Nat.succ_ne_zero, not_false_eq_true, decide_true, decide_false, Nat.reduceAdd, Nat.reduceMul, Nat.reduceEqDiff, Nat.reduceLeDiff]
      rw [List.length_append] at h2
      refine ⟨((p' ++ v', t, s, r'), _), ⟨by simp only; omega, by simp only; omega, by simp only [List.length_append]; omega, ?_, rfl⟩, by simp only; omega, Weak.sub ?_⟩
      · rw [← hfin]; simp only [List.append_assoc]
      · simp -implicitDefEqProofs (disch := omega) only [Abs.Sub, get_cons_eq, get_cons_ne, and_self, Int.natCast_zero, Int.natCast_add, Int.natCast_one]
        refine ⟨?_, ?_, trivial⟩
        · (first | rfl | (simp only [Option.some.injEq, Value.int.injEq, Value.slice.injEq, true_and, and_true]; omega))
        · (first | rfl | (simp only [Option.some.injEq, Value.int.injEq, Value.slice.injEq, true_and, and_true]; omega))

/-- What the comparison says: in every memory that keeps G0. -/
def Cmp (G0 : Hp) (c n : Nat) (key : Nat → Int) : Prop := ∀ H, Keeps G0 H → ∀ x y : Nat, x < n → y < n → ACalls Try.prog 20 [.int .i64 x, .int .i64 y, .pointer (some ⟨c, 0, none⟩)] H (fun v H' => v = .int .i64 (key x - key y) ∧ H' = H)
abbrev bf (key : Nat → Int) (x y : Nat) : Prop := bef key (fun n => n) x y

theorem n33 : Try.f33.ntmps = 53 := rfl
theorem ret33 : Try.f33.results = #[] := rfl
theorem insertion_spec {G0 H : Hp} {q c n : Nat} {key : Nat → Int} {N : Nat} {a b : Int} (hcmp : Cmp G0 c n key) (hk0 : Keeps G0 H) (hq : G0.next ≤ q) (p X r : List Nat) (hX : X.Pairwise (· < ·)) (hn : ∀ x, x ∈ X → x < n) (hN : (p ++ X ++ r).length = N) (hb : N ≤ 1000000) (ha : a = p.length) (hb2 : b = ((p.length + X.length : Nat) : Int))
    (hg : H.get q = .row ((p ++ X ++ r).map iv) true 1) :
    ACalls Try.prog 33 [.slice (some ⟨q, 0, none⟩) N N, .int .i64 a, .int .i64 b, .func (.func 20) #[] #[.pointer (some ⟨c, 0, none⟩)]] H (fun w H' => w = .tuple #[] ∧ ∃ Y, Y.Perm X ∧ Y.Pairwise (bf key) ∧ H' = H.set q (.row ((p ++ Y ++ r).map iv) true 1)) := by
  subst ha; subst hb2
  refine ACalls_enter Try.func33 (by kernel_rfl) rfl (by kernel_rfl) (by simp [n33]) fun hw hr => AWP_of_awp ?_
  have hNl : p.length + X.length + r.length = N := by rw [← hN]; simp only [List.length_append]
  simp -implicitDefEqProofs (maxSteps := 2000000) (disch := first | omega | (simp only [nx_new, nx_set, List.length_cons, List.length_nil, List.length_map, List.length_set, ne_eq, not_true_eq_false, not_false_eq_true, Nat.succ_ne_zero]; done) | (simp only [nx_new, nx_set, List.length_cons, List.length_nil, List.length_map, List.length_set, ne_eq, not_true_eq_false, not_false_eq_true, Nat.succ_ne_zero]; omega)) only [go_sem, reduceIte, reduceCtorEq, Nat.succ_ne_zero, not_false_eq_true, decide_true, decide_false, Nat.reduceAdd, Nat.reduceMul, Nat.reduceEqDiff, Nat.reduceLeDiff]
  refine AWP_loop (σ := (Nat × List Nat) × Hp) (fun s => [(8, .int .i64 ((p.length + s.1.1 : Nat) : Int)), (0, .slice (some ⟨q, 0, none⟩) N N), (1, .int .i64 p.length), (2, .int .i64 ((p.length + X.length : Nat) : Int)), (3, .func (.func 20) #[] #[.pointer (some ⟨c, 0, none⟩)])]) (fun s => s.2)
    (fun s => 1 ≤ s.1.1 ∧ (s.1.1 ≤ X.length ∨ s.1.1 = 1) ∧ s.1.2.Perm (X.take s.1.1) ∧ s.1.2.Pairwise (bf key) ∧ s.2 = H.set q (.row ((p ++ s.1.2 ++ X.drop s.1.1 ++ r).map iv) true 1))
    (fun s => X.length + 1 - s.1.1) ((1, X.take 1), H) ⟨Nat.le_refl _, .inr rfl, List.Perm.refl _, ?_, ?_⟩ (Weak.sub ?_) ?_
  rotate_left 2
  · simp -implicitDefEqProofs (disch := omega) only [Abs.Sub, get_cons_eq, get_cons_ne, and_self, Int.natCast_zero, Int.natCast_add, Int.natCast_one]
  · rintro ⟨⟨k, S⟩, G⟩ ⟨hk1, hk2, hperm, hsort, hG⟩
    simp only at hk1 hk2 hperm hsort hG ⊢
    refine AWP_of_awp ?_
    by_cases hlt : k < X.length
    · simp -implicitDefEqProofs (maxSteps := 2000000) (disch := first | omega | (simp only [nx_new, nx_set, List.length_cons, List.length_nil, List.length_map, List.length_set, ne_eq, not_true_eq_false, not_false_eq_true, Nat.succ_ne_zero]; done) | (simp only [nx_new, nx_set, List.length_cons, List.length_nil, List.length_map, List.length_set, ne_eq, not_true_eq_false, not_false_eq_true, Nat.succ_ne_zero]; omega)) only [go_sem, reduceIte, reduceCtorEq, Nat.succ_ne_zero, not_false_eq_true, decide_true, decide_false, Nat.reduceAdd, Nat.reduceMul, Nat.reduceEqDiff, Nat.reduceLeDiff]
      have hSl : S.length = k := by rw [hperm.length_eq, List.length_take]; omega
      have hxm : X[k] ∈ X := List.getElem_mem hlt
      have hSx : ∀ z, z ∈ S → z < X[k] ∧ z < n := fun z hz => by
        have h1 := hperm.mem_iff.1 hz
        obtain ⟨i, hi, rfl⟩ := List.getElem_of_mem h1
        rw [List.length_take] at hi
        rw [List.getElem_take]
        exact ⟨List.pairwise_iff_getElem.1 hX i k (by omega) hlt (by omega), hn _ (List.getElem_mem _)⟩
      have hdrop : X.drop k = X[k] :: X.drop (k + 1) := List.drop_eq_getElem_cons hlt
      have htake : X.take (k + 1) = X.take k ++ [X[k]] := List.take_succ_eq_append_getElem hlt
      have hxn := hn _ hxm
      have hdl : (X.drop (k + 1)).length = X.length - (k + 1) := List.length_drop
      rw [hdrop] at hG
      generalize X[k] = x at *
      generalize hX2 : X.drop (k + 1) = X2 at *
      refine AWP_loop (σ := (List Nat × List Nat) × Hp) (fun s => [(9, .int .i64 ((p.length + s.1.1.length : Nat) : Int)), (8, .int .i64 ((p.length + k : Nat) : Int)), (0, .slice (some ⟨q, 0, none⟩) N N), (1, .int .i64 p.length), (2, .int .i64 ((p.length + X.length : Nat) : Int)), (3, .func (.func 20) #[] #[.pointer (some ⟨c, 0, none⟩)])]) (fun s => s.2)
        (fun s => s.1.1 ++ s.1.2 = S ∧ (∀ y, s.1.2.head? = some y → bf key x y) ∧ s.2 = H.set q (.row ((p ++ s.1.1 ++ x :: (s.1.2 ++ X2 ++ r)).map iv) true 1))
        (fun s => s.1.1.length) ((S, []), G) ⟨by simp, (fun y h => by cases h), ?_⟩ (Weak.sub ?_) ?_
      rotate_left 1
      · simp -implicitDefEqProofs (disch := omega) only [Abs.Sub, get_cons_eq, get_cons_ne, and_self, Int.natCast_zero, Int.natCast_add, Int.natCast_one]
        refine ⟨?_, trivial⟩
        (first | rfl | (simp only [Option.some.injEq, Value.int.injEq, Value.slice.injEq, true_and, and_true]; omega))
      · rintro ⟨⟨S1, S2⟩, G1⟩ ⟨hS, hhead, hG1⟩
        simp only at hS hhead hG1 ⊢
        refine AWP_of_awp ?_
        have hg1 : G1.get q = .row ((p ++ S1 ++ x :: (S2 ++ X2 ++ r)).map iv) true 1 := by rw [hG1]; exact Hp.get_set_same _ _ _ _ rfl
        have hkp : Keeps G0 G1 := by rw [hG1]; exact hk0.set hq
        have hS12 : S1.length + S2.length = k := by rw [← hSl, ← hS, List.length_append]
        have hlen : (p ++ S1 ++ x :: (S2 ++ X2 ++ r)).length = N := by simp only [List.length_append, List.length_cons]; omega
        have hfin : (∀ y, S1.getLast? = some y → bf key y x) → (S1 ++ x :: S2).Pairwise (bf key) ∧ (S1 ++ x :: S2).Perm (X.take (k + 1)) := fun h => by
          refine ⟨insert_sorted (hS ▸ hsort) h hhead, ?_⟩
          rw [htake]
          refine insert_perm.trans ?_
          rw [hS]
          exact (List.Perm.cons x hperm).trans (List.perm_append_singleton x _).symm
        have hG2 : G1 = H.set q (.row ((p ++ (S1 ++ x :: S2) ++ X2 ++ r).map iv) true 1) := by
          rw [hG1]; simp only [List.append_assoc, List.cons_append]
        rcases List.eq_nil_or_concat S1 with rfl | ⟨S1', z, rfl⟩
        · simp -implicitDefEqProofs (maxSteps := 2000000) (disch := first | omega | (simp only [nx_new, nx_set, List.length_cons, List.length_nil, List.length_map, List.length_set, ne_eq, not_true_eq_false, not_false_eq_true, Nat.succ_ne_zero]; done) | (simp only [nx_new, nx_set, List.length_cons, List.length_nil, List.length_map, List.length_set, ne_eq, not_true_eq_false, not_false_eq_true, Nat.succ_ne_zero]; omega)) only [go_sem, reduceIte, reduceCtorEq, Nat.succ_ne_zero, not_false_eq_true, decide_true, decide_false, Nat.reduceAdd, Nat.reduceMul, Nat.reduceEqDiff, Nat.reduceLeDiff]
          refine AWP_draw_fast mo (by kernel_rfl) ?_
          simp -implicitDefEqProofs (maxSteps := 2000000) (disch := first | omega | (simp only [nx_new, nx_set, List.length_cons, List.length_nil, List.length_map, List.length_set, ne_eq, not_true_eq_false, not_false_eq_true, Nat.succ_ne_zero]; done) | (simp only [nx_new, nx_set, List.length_cons, List.length_nil, List.length_map, List.length_set, ne_eq, not_true_eq_false, not_false_eq_true, Nat.succ_ne_zero]; omega)) only [go_sem, reduceIte, reduceCtorEq, Nat.succ_ne_zero, not_false_eq_true, decide_true, decide_false, Nat.reduceAdd, Nat.reduceMul, Nat.reduceEqDiff, Nat.reduceLeDiff]
          obtain ⟨f1, f2⟩ := hfin (fun y h => by cases h)
          refine ⟨((k + 1, [] ++ x :: S2), G1), ⟨by simp only; omega, .inl hlt, f2, f1, ?_⟩, by simp only; omega, Weak.sub ?_⟩
          · simp only [hX2]; exact hG2
          · simp -implicitDefEqProofs (disch := omega) only [Abs.Sub, get_cons_eq, get_cons_ne, and_self, Int.natCast_zero, Int.natCast_add, Int.natCast_one]
            exact ⟨rfl, trivial⟩
        · rw [List.concat_eq_append] at *
          obtain ⟨hz1, hz2⟩ := hSx z (by rw [← hS]; simp)
          have hpl : ((p.length + (S1' ++ [z]).length : Nat) : Int).toNat = p.length + S1'.length + 1 := by rw [List.length_append, List.length_singleton]; omega
          have hpl1 : (((p.length + (S1' ++ [z]).length : Nat) : Int) - 1).toNat = p.length + S1'.length := by rw [List.length_append, List.length_singleton]; omega
          have hpl2 : (S1' ++ [z]).length = S1'.length + 1 := by rw [List.length_append, List.length_singleton]
          have e1 : p ++ (S1' ++ [z]) ++ x :: (S2 ++ X2 ++ r) = (p ++ S1') ++ z :: x :: (S2 ++ X2 ++ r) := by simp only [List.append_assoc, List.cons_append, List.nil_append]
          have e2 : (p ++ S1') ++ x :: z :: (S2 ++ X2 ++ r) = p ++ S1' ++ x :: (z :: S2 ++ X2 ++ r) := by simp only [List.append_assoc, List.cons_append, List.nil_append]
          rw [e1] at hg1 hlen
          have hpp : (p ++ S1').length = p.length + S1'.length := List.length_append
          have h1 : load1 G1 ⟨q, p.length + S1'.length, none⟩ = some (.int .i64 z) := ld_iv hg1 (get_app _ _ _ (by omega))
          have h2 : load1 G1 ⟨q, p.length + S1'.length + 1, none⟩ = some (.int .i64 x) := ld_iv hg1 (get_adj _ _ _ _ (by omega))
          rw [hpl2] at hpl hpl1 ⊢
          simp -implicitDefEqProofs (maxSteps := 2000000) (disch := first | omega | (simp only [nx_new, nx_set, List.length_cons, List.length_nil, List.length_map, List.length_set, ne_eq, not_true_eq_false, not_false_eq_true, Nat.succ_ne_zero]; done) | (simp only [nx_new, nx_set, List.length_cons, List.length_nil, List.length_map, List.length_set, ne_eq, not_true_eq_false, not_false_eq_true, Nat.succ_ne_zero]; omega)) only [go_sem, reduceIte, reduceCtorEq, Nat.succ_ne_zero, not_false_eq_true, decide_true, decide_false, Nat.reduceAdd, Nat.reduceMul, Nat.reduceEqDiff, Nat.reduceLeDiff]
          refine AWP_draw_fast mo (by kernel_rfl) ?_
          simp -implicitDefEqProofs (maxSteps := 2000000) (disch := first | omega | (simp only [nx_new, nx_set, List.length_cons, List.length_nil, List.length_map, List.length_set, ne_eq, not_true_eq_false, not_false_eq_true, Nat.succ_ne_zero]; done) | (simp only [nx_new, nx_set, List.length_cons, List.length_nil, List.length_map, List.length_set, ne_eq, not_true_eq_false, not_false_eq_true, Nat.succ_ne_zero]; omega)) only [go_sem, reduceIte, reduceCtorEq, Nat.succ_ne_zero, not_false_eq_true, decide_true, decide_false, Nat.reduceAdd, Nat.reduceMul, Nat.reduceEqDiff, Nat.reduceLeDiff, hpl, hpl1, h1, h2]
          refine ACalls.use_eq (hcmp G1 hkp x z hxn hz2) ?_
          simp -implicitDefEqProofs (maxSteps := 2000000) (disch := first | omega | (simp only [nx_new, nx_set, List.length_cons, List.length_nil, List.length_map, List.length_set, ne_eq, not_true_eq_false, not_false_eq_true, Nat.succ_ne_zero]; done) | (simp only [nx_new, nx_set, List.length_cons, List.length_nil, List.length_map, List.length_set, ne_eq, not_true_eq_false, not_false_eq_true, Nat.succ_ne_zero]; omega)) only [go_sem, reduceIte, reduceCtorEq, Nat.succ_ne_zero, not_false_eq_true, decide_true, decide_false, Nat.reduceAdd, Nat.reduceMul, Nat.reduceEqDiff, Nat.reduceLeDiff]
          refine condS_split (fun hd => ?_) (fun hd => ?_)
          · have hlt2 : key x < key z := by have := of_decide_eq_true hd; omega
            simp -implicitDefEqProofs (maxSteps := 2000000) (disch := first | omega | (simp only [nx_new, nx_set, List.length_cons, List.length_nil, List.length_map, List.length_set, ne_eq, not_true_eq_false, not_false_eq_true, Nat.succ_ne_zero]; done) | (simp only [nx_new, nx_set, List.length_cons, List.length_nil, List.length_map, List.length_set, ne_eq, not_true_eq_false, not_false_eq_true, Nat.succ_ne_zero]; omega)) only [go_sem, reduceIte, reduceCtorEq, Nat.succ_ne_zero, not_false_eq_true, decide_true, decide_false, Nat.reduceAdd, Nat.reduceMul, Nat.reduceEqDiff, Nat.reduceLeDiff, hd]
            refine AWP_draw_fast mo (by kernel_rfl) ?_
            simp -implicitDefEqProofs (maxSteps := 2000000) (disch := first | omega | (simp only [nx_new, nx_set, List.length_cons, List.length_nil, List.length_map, List.length_set, ne_eq, not_true_eq_false, not_false_eq_true, Nat.succ_ne_zero]; done) | (simp only [nx_new, nx_set, List.length_cons, List.length_nil, List.length_map, List.length_set, ne_eq, not_true_eq_false, not_false_eq_true, Nat.succ_ne_zero]; omega)) only [go_sem, reduceIte, reduceCtorEq, Nat.succ_ne_zero, not_false_eq_true, decide_true, decide_false, Nat.reduceAdd, Nat.reduceMul, Nat.reduceEqDiff, Nat.reduceLeDiff, hpl, hpl1, h1, h2, hg1]
            have eG : G1.set q (.row (((List.map iv (p ++ S1' ++ z :: x :: (S2 ++ X2 ++ r))).set (p.length + S1'.length + 1) (.int .i64 z)).set (p.length + S1'.length) (.int .i64 x)) true 1) = H.set q (.row ((p ++ S1' ++ x :: (z :: S2 ++ X2 ++ r)).map iv) true 1) := by
              rw [set_iv, set_iv, swap_adj' (p ++ S1') _ z x (by omega) (by omega), hG1, set_two, e2]
            rw [eG]
            refine ⟨((S1', z :: S2), _), ⟨by rw [← hS]; simp, ?_, rfl⟩, by simp only; omega, Weak.sub ?_⟩
            · intro y hy; cases hy; exact .inl hlt2
            · simp -implicitDefEqProofs (disch := omega) only [Abs.Sub, get_cons_eq, get_cons_ne, and_self, Int.natCast_zero, Int.natCast_add, Int.natCast_one]
              refine ⟨?_, trivial⟩
              (first | rfl | (simp only [Option.some.injEq, Value.int.injEq, Value.slice.injEq, true_and, and_true]; omega))
          · have hge : key z ≤ key x := by have := of_decide_eq_false hd; omega
            simp -implicitDefEqProofs (maxSteps := 2000000) (disch := first | omega | (simp only [nx_new, nx_set, List.length_cons, List.length_nil, List.length_map, List.length_set, ne_eq, not_true_eq_false, not_false_eq_true, Nat.succ_ne_zero]; done) | (simp only [nx_new, nx_set, List.length_cons, List.length_nil, List.length_map, List.length_set, ne_eq, not_true_eq_false, not_false_eq_true, Nat.succ_ne_zero]; omega)) only [go_sem, reduceIte, reduceCtorEq, Nat.succ_ne_zero, not_false_eq_true, decide_true, decide_false, Nat.reduceAdd, Nat.reduceMul, Nat.reduceEqDiff, Nat.reduceLeDiff, hd]
            obtain ⟨f1, f2⟩ := hfin (fun y h => by
              rw [List.getLast?_append] at h; simp at h; subst h; exact bef_of_le hge hz1)
            refine ⟨((k + 1, (S1' ++ [z]) ++ x :: S2), G1), ⟨by simp only; omega, .inl hlt, f2, f1, ?_⟩, by simp only; omega, Weak.sub ?_⟩
            · simp only [hX2]; exact hG2
            · simp -implicitDefEqProofs (disch := omega) only [Abs.Sub, get_cons_eq, get_cons_ne, and_self, Int.natCast_zero, Int.natCast_add, Int.natCast_one]
              exact ⟨rfl, trivial⟩
      · simp only [List.nil_append]
        rw [hG]
        simp only [List.append_assoc, List.cons_append]
    · simp -implicitDefEqProofs (maxSteps := 2000000) (disch := first | omega | (simp only [nx_new, nx_set, List.length_cons, List.length_nil, List.length_map, List.length_set, ne_eq, not_true_eq_false, not_false_eq_true, Nat.succ_ne_zero]; done) | (simp only [nx_new, nx_set, List.length_cons, List.length_nil, List.length_map, List.length_set, ne_eq, not_true_eq_false, not_false_eq_true, Nat.succ_ne_zero]; omega)) only [go_sem, reduceIte, reduceCtorEq, Nat.succ_ne_zero, not_false_eq_true, decide_true, decide_false, Nat.reduceAdd, Nat.reduceMul, Nat.reduceEqDiff, Nat.reduceLeDiff]
      refine ret_n (v := .tuple #[]) (ares0 ret33) ⟨rfl, S, ?_, hsort, ?_⟩
      · rw [List.take_of_length_le (by omega)] at hperm; exact hperm
      · rw [hG, List.drop_eq_nil_of_le (by omega), List.append_nil]
  · cases X with
    | nil => exact List.Pairwise.nil
    | cons x X => exact List.pairwise_singleton _ _
  · have e : p ++ X.take 1 ++ X.drop 1 ++ r = p ++ X ++ r := by
      rw [List.append_assoc p, List.take_append_drop]
    rw [e]
    exact (set_self hg).symm
end Go.Proofs.Ytjgdmjoafpbnaaa
