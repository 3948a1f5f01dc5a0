/- Stable sorting of a row of whole numbers: merging two sorted runs. -/
import Derived.Test.YtjgdmjoafpbnaaaSb
set_option linter.unusedVariables false
set_option linter.unusedSimpArgs false
set_option linter.unusedSectionVars false
namespace Go.Proofs.Ytjgdmjoafpbnaaa
open Go.Abs Go.Sm
set_option maxHeartbeats 8000000
set_option maxRecDepth 100000

theorem conv_up (x : Int) (h0 : 0 ≤ x) (h1 : x ≤ 9223372036854775807) : aconv Try.prog 3 54 (.int .i64 x) = some (.int .u64 x) := by
  simp only [aconv, u3, u54]
  have : IntKind.u64.wrap x = x := by
    unfold IntKind.wrap
    simp only [IntKind.bits, IntKind.signed, Bool.false_and, Bool.false_eq_true, if_false]
    exact Int.emod_eq_of_lt h0 (by omega)
  rw [this]
theorem conv_dn (x : Int) (h0 : 0 ≤ x) (h1 : x ≤ 9223372036854775807) : aconv Try.prog 54 3 (.int .u64 x) = some (.int .i64 x) := by
  simp only [aconv, u3, u54]
  rw [wrap_i64 (by omega) (by omega)]
theorem shr_one (x : Int) (h0 : 0 ≤ x) : abin Try.prog .shr 54 (.int .u64 x) (.int .u64 1) = some (.int .u64 (x / 2)) := by
  have e : x.fdiv (2 ^ 1) = x / 2 := by rw [Int.fdiv_eq_ediv_of_nonneg _ (by decide)]; rfl
  have : abin Try.prog .shr 54 (.int .u64 x) (.int .u64 1) = some (.int .u64 (x.fdiv (2 ^ 1))) := rfl
  rw [this, e]

theorem n34 : Try.f34.ntmps = 220 := rfl
theorem ret34 : Try.f34.results = #[] := rfl
/-- Parting a list by a place. -/
theorem part_last {A1 A2 A : List Nat} (hA : A1 ++ A2 = A) {k : Nat} (hk : A1.length = k) : (∀ x, A1.getLast? = some x ↔ 0 < k ∧ A[k - 1]? = some x) ∧ (∀ x, A2.head? = some x ↔ A[k]? = some x) := by
  subst hA; subst hk
  refine ⟨fun x => ?_, fun x => ?_⟩
  · rw [List.getLast?_eq_getElem?]
    constructor
    · intro h
      have := (List.getElem?_eq_some_iff.1 h).1
      refine ⟨by omega, ?_⟩
      rw [List.getElem?_append_left this]; exact h
    · rintro ⟨h0, h⟩
      rw [List.getElem?_append_left (by omega)] at h
      exact h
  · rw [List.getElem?_append_right (Nat.le_refl _), Nat.sub_self, List.head?_eq_getElem?]

theorem sym_spec {G0 : Hp} {c n : Nat} {key : Nat → Int} (hcmp : Cmp G0 c n key) : ∀ (M : Nat) {H : Hp} {q N : Nat} {a m b : Int} (p A B r : List Nat), A.length + B.length ≤ M → Keeps G0 H → G0.next ≤ q → A ≠ [] → B ≠ [] → A.Pairwise (bf key) → B.Pairwise (bf key) → (∀ x, x ∈ A → ∀ y, y ∈ B → x < y) → (∀ x, x ∈ A ++ B → x < n) →
    (p ++ A ++ B ++ r).length = N → N ≤ 1000000 → a = p.length → m = ((p.length + A.length : Nat) : Int) → b = ((p.length + A.length + B.length : Nat) : Int) → H.get q = .row ((p ++ A ++ B ++ r).map iv) true 1 →
    ACalls Try.prog 34 [.slice (some ⟨q, 0, none⟩) N N, .int .i64 a, .int .i64 m, .int .i64 b, .func (.func 20) #[] #[.pointer (some ⟨c, 0, none⟩)]] H (fun w H' => w = .tuple #[] ∧ ∃ Y, Y.Perm (A ++ B) ∧ Y.Pairwise (bf key) ∧ H' = H.set q (.row ((p ++ Y ++ r).map iv) true 1)) := by
  intro M
  induction M with
  | zero =>
    intro H q N a m b p A B r hM _ _ hA
    have := List.length_pos_iff.2 hA
    omega
  | succ M ih =>
  intro H q N a m b p A B r hM hk0 hq hA0 hB0 hA hB hAB hn hN hb ha hm hb2 hg
  subst ha; subst hm; subst hb2
  have hA1 : 0 < A.length := List.length_pos_iff.2 hA0
  have hB1 : 0 < B.length := List.length_pos_iff.2 hB0
  have hNl : p.length + A.length + B.length + r.length = N := by rw [← hN]; simp only [List.length_append]
  have hwn : ∀ x, x ∈ A → x < n := fun x h => hn x (List.mem_append_left _ h)
  have hwn2 : ∀ x, x ∈ B → x < n := fun x h => hn x (List.mem_append_right _ h)
  refine ACalls_enter Try.func34 (by kernel_rfl) rfl (by kernel_rfl) (by simp [n34]) fun hw hr => AWP_step ?_
  simp -implicitDefEqProofs (maxSteps := 2000000) (disch := first | omega | (simp only [nx_new, nx_set, List.length_cons, List.length_nil, List.length_map, List.length_set, ne_eq, not_true_eq_false, not_false_eq_true, Nat.succ_ne_zero]; done) | (simp only [nx_new, nx_set, List.length_cons, List.length_nil, List.length_map, List.length_set, ne_eq, not_true_eq_false, not_false_eq_true, Nat.succ_ne_zero]; omega)) only [go_sem, reduceIte, reduceCtorEq, Nat.succ_ne_zero, not_false_eq_true, decide_true, decide_false, Nat.reduceAdd, Nat.reduceMul, Nat.reduceEqDiff, Nat.reduceLeDiff]
  by_cases hA2 : A.length = 1
  · obtain ⟨x, rfl⟩ : ∃ x, A = [x] := List.length_eq_one_iff.1 hA2
    simp only [List.length_singleton] at hNl hA1 hA2 ⊢
    have hxn := hwn x (by simp)
    have e0 : p ++ [x] ++ B ++ r = p ++ x :: (B ++ r) := by simp only [List.append_assoc, List.cons_append, List.nil_append]
    rw [e0] at hg
    simp -implicitDefEqProofs (maxSteps := 2000000) (disch := first | omega | (simp only [nx_new, nx_set, List.length_cons, List.length_nil, List.length_map, List.length_set, ne_eq, not_true_eq_false, not_false_eq_true, Nat.succ_ne_zero]; done) | (simp only [nx_new, nx_set, List.length_cons, List.length_nil, List.length_map, List.length_set, ne_eq, not_true_eq_false, not_false_eq_true, Nat.succ_ne_zero]; omega)) only [go_sem, reduceIte, reduceCtorEq, Nat.succ_ne_zero, not_false_eq_true, decide_true, decide_false, Nat.reduceAdd, Nat.reduceMul, Nat.reduceEqDiff, Nat.reduceLeDiff]
    refine AWP_loop (σ := Nat × Nat) (fun s => [(10, .int .i64 ((p.length + 1 + s.1 : Nat) : Int)), (11, .int .i64 ((p.length + 1 + s.2 : Nat) : Int)), (0, .slice (some ⟨q, 0, none⟩) N N), (1, .int .i64 p.length), (4, .func (.func 20) #[] #[.pointer (some ⟨c, 0, none⟩)])]) (fun _ => H)
      (fun s => s.1 ≤ s.2 ∧ s.2 ≤ B.length ∧ (∀ y, 0 < s.1 → B[s.1 - 1]? = some y → key y < key x) ∧ (∀ y, B[s.2]? = some y → key x ≤ key y)) (fun s => s.2 - s.1) (0, B.length) ⟨Nat.zero_le _, Nat.le_refl _, fun y h => by omega, fun y h => by simp at h⟩ (Weak.sub ?_) ?_
    · (simp -implicitDefEqProofs (disch := omega) only [Abs.Sub, get_cons_eq, get_cons_ne, and_self, Option.some.injEq, Value.int.injEq, Value.slice.injEq, true_and, and_true, Int.natCast_zero, Int.natCast_add, Int.natCast_one]; try omega)
    · rintro ⟨i, j⟩ ⟨hij, hjB, hlo, hhi⟩
      simp only at hij hjB hlo hhi ⊢
      refine AWP_of_awp ?_
      by_cases hlt : i < j
      · have hsum : (((p.length + 1 + i : Nat) : Int) + ((p.length + 1 + j : Nat) : Int)) / 2 = ((p.length + 1 + (i + j) / 2 : Nat) : Int) := by omega
        have hup := conv_up (((p.length + 1 + i : Nat) : Int) + ((p.length + 1 + j : Nat) : Int)) (by omega) (by omega)
        have hsh := shr_one (((p.length + 1 + i : Nat) : Int) + ((p.length + 1 + j : Nat) : Int)) (by omega)
        rw [hsum] at hsh
        have hdn := conv_dn ((p.length + 1 + (i + j) / 2 : Nat) : Int) (by omega) (by omega)
        have hh : (i + j) / 2 < B.length := by omega
        have hyn := hwn2 _ (List.getElem_mem hh)
        have hBg : B[(i + j) / 2]? = some B[(i + j) / 2] := List.getElem?_eq_getElem hh
        generalize B[(i + j) / 2] = y at *
        have hh1 : i ≤ (i + j) / 2 := by omega
        have hh2 : (i + j) / 2 < j := by omega
        generalize (i + j) / 2 = h at *
        have hi1 : ((p.length + 1 + h : Nat) : Int).toNat = p.length + 1 + h := by omega
        have h1 : load1 H ⟨q, p.length + 1 + h, none⟩ = some (.int .i64 y) := ld_iv hg (by
          rw [List.getElem?_append_right (by omega)]
          have e : p.length + 1 + h - p.length = h + 1 := by omega
          rw [e, List.getElem?_cons_succ, List.getElem?_append_left hh]; exact hBg)
        have h2 : load1 H ⟨q, p.length, none⟩ = some (.int .i64 x) := ld_iv hg (get_app _ _ _ rfl)
        simp -implicitDefEqProofs (maxSteps := 2000000) (disch := first | omega | (simp only [nx_new, nx_set, List.length_cons, List.length_nil, List.length_map, List.length_set, ne_eq, not_true_eq_false, not_false_eq_true, Nat.succ_ne_zero]; done) | (simp only [nx_new, nx_set, List.length_cons, List.length_nil, List.length_map, List.length_set, ne_eq, not_true_eq_false, not_false_eq_true, Nat.succ_ne_zero]; omega)) only [go_sem, reduceIte, reduceCtorEq, Nat.succ_ne_zero, not_false_eq_true, decide_true, decide_false, Nat.reduceAdd, Nat.reduceMul, Nat.reduceEqDiff, Nat.reduceLeDiff, hup, hsh, hdn]
        refine AWP_draw_fast mo (by kernel_rfl) ?_
        simp -implicitDefEqProofs (maxSteps := 2000000) (disch := first | omega | (simp only [nx_new, nx_set, List.length_cons, List.length_nil, List.length_map, List.length_set, ne_eq, not_true_eq_false, not_false_eq_true, Nat.succ_ne_zero]; done) | (simp only [nx_new, nx_set, List.length_cons, List.length_nil, List.length_map, List.length_set, ne_eq, not_true_eq_false, not_false_eq_true, Nat.succ_ne_zero]; omega)) only [go_sem, reduceIte, reduceCtorEq, Nat.succ_ne_zero, not_false_eq_true, decide_true, decide_false, Nat.reduceAdd, Nat.reduceMul, Nat.reduceEqDiff, Nat.reduceLeDiff, hi1, h1, h2]
        refine ACalls.use_eq (hcmp H hk0 y x hyn hxn) ?_
        simp -implicitDefEqProofs (maxSteps := 2000000) (disch := first | omega | (simp only [nx_new, nx_set, List.length_cons, List.length_nil, List.length_map, List.length_set, ne_eq, not_true_eq_false, not_false_eq_true, Nat.succ_ne_zero]; done) | (simp only [nx_new, nx_set, List.length_cons, List.length_nil, List.length_map, List.length_set, ne_eq, not_true_eq_false, not_false_eq_true, Nat.succ_ne_zero]; omega)) only [go_sem, reduceIte, reduceCtorEq, Nat.succ_ne_zero, not_false_eq_true, decide_true, decide_false, Nat.reduceAdd, Nat.reduceMul, Nat.reduceEqDiff, Nat.reduceLeDiff]
        refine condS_split (fun hd => ?_) (fun hd => ?_)
        · have hlt2 : key y < key x := by have := of_decide_eq_true hd; omega
          simp -implicitDefEqProofs (maxSteps := 2000000) (disch := first | omega | (simp only [nx_new, nx_set, List.length_cons, List.length_nil, List.length_map, List.length_set, ne_eq, not_true_eq_false, not_false_eq_true, Nat.succ_ne_zero]; done) | (simp only [nx_new, nx_set, List.length_cons, List.length_nil, List.length_map, List.length_set, ne_eq, not_true_eq_false, not_false_eq_true, Nat.succ_ne_zero]; omega)) only [go_sem, reduceIte, reduceCtorEq, Nat.succ_ne_zero, not_false_eq_true, decide_true, decide_false, Nat.reduceAdd, Nat.reduceMul, Nat.reduceEqDiff, Nat.reduceLeDiff, hd]
          refine ⟨(h + 1, j), ⟨hh2, hjB, fun z h0 hz => ?_, hhi⟩, by simp only; omega, Weak.sub ?_⟩
          · rw [Nat.add_sub_cancel, hBg] at hz; cases hz; exact hlt2
          · (simp -implicitDefEqProofs (disch := omega) only [Abs.Sub, get_cons_eq, get_cons_ne, and_self, Option.some.injEq, Value.int.injEq, Value.slice.injEq, true_and, and_true, Int.natCast_zero, Int.natCast_add, Int.natCast_one]; try omega)
        · have hge : key x ≤ key y := by have := of_decide_eq_false hd; omega
          simp -implicitDefEqProofs (maxSteps := 2000000) (disch := first | omega | (simp only [nx_new, nx_set, List.length_cons, List.length_nil, List.length_map, List.length_set, ne_eq, not_true_eq_false, not_false_eq_true, Nat.succ_ne_zero]; done) | (simp only [nx_new, nx_set, List.length_cons, List.length_nil, List.length_map, List.length_set, ne_eq, not_true_eq_false, not_false_eq_true, Nat.succ_ne_zero]; omega)) only [go_sem, reduceIte, reduceCtorEq, Nat.succ_ne_zero, not_false_eq_true, decide_true, decide_false, Nat.reduceAdd, Nat.reduceMul, Nat.reduceEqDiff, Nat.reduceLeDiff, hd]
          refine ⟨(i, h), ⟨hh1, by omega, hlo, fun z hz => ?_⟩, by simp only; omega, Weak.sub ?_⟩
          · rw [hBg] at hz; cases hz; exact hge
          · (simp -implicitDefEqProofs (disch := omega) only [Abs.Sub, get_cons_eq, get_cons_ne, and_self, Option.some.injEq, Value.int.injEq, Value.slice.injEq, true_and, and_true, Int.natCast_zero, Int.natCast_add, Int.natCast_one]; try omega)
      · obtain rfl : i = j := by omega
        simp -implicitDefEqProofs (maxSteps := 2000000) (disch := first | omega | (simp only [nx_new, nx_set, List.length_cons, List.length_nil, List.length_map, List.length_set, ne_eq, not_true_eq_false, not_false_eq_true, Nat.succ_ne_zero]; done) | (simp only [nx_new, nx_set, List.length_cons, List.length_nil, List.length_map, List.length_set, ne_eq, not_true_eq_false, not_false_eq_true, Nat.succ_ne_zero]; omega)) only [go_sem, reduceIte, reduceCtorEq, Nat.succ_ne_zero, not_false_eq_true, decide_true, decide_false, Nat.reduceAdd, Nat.reduceMul, Nat.reduceEqDiff, Nat.reduceLeDiff]
        have hBs : B.take i ++ B.drop i = B := List.take_append_drop _ _
        have hBl : (B.take i).length = i := by rw [List.length_take]; omega
        obtain ⟨g1, g2⟩ := part_last hBs hBl
        have hsort : (B.take i ++ x :: B.drop i).Pairwise (bf key) := insert_sorted (by rw [hBs]; exact hB) (fun y hy => by
          obtain ⟨h0, h1⟩ := (g1 y).1 hy
          exact .inl (hlo y h0 h1)) (fun y hy => by
          have h1 := (g2 y).1 hy
          exact bef_of_le (hhi y h1) (hAB x (by simp) y (by obtain ⟨_, h⟩ := List.getElem?_eq_some_iff.1 h1; rw [← h]; exact List.getElem_mem _)))
        have hperm : (B.take i ++ x :: B.drop i).Perm ([x] ++ B) := by
          refine insert_perm.trans ?_
          rw [hBs]; exact List.Perm.refl _
        generalize B.take i = B1 at *
        generalize B.drop i = B2 at *
        subst hBs
        refine AWP_loop (σ := Nat × Hp) (fun s => [(13, .int .i64 ((p.length + s.1 : Nat) : Int)), (10, .int .i64 ((p.length + 1 + i : Nat) : Int)), (0, .slice (some ⟨q, 0, none⟩) N N)]) (fun s => s.2)
          (fun s => s.1 ≤ i ∧ s.2 = H.set q (.row ((p ++ B1.take s.1 ++ x :: (B1.drop s.1 ++ B2 ++ r)).map iv) true 1)) (fun s => i - s.1) (0, H) ⟨Nat.zero_le _, ?_⟩ (Weak.sub ?_) ?_
        rotate_left 1
        · (simp -implicitDefEqProofs (disch := omega) only [Abs.Sub, get_cons_eq, get_cons_ne, and_self, Option.some.injEq, Value.int.injEq, Value.slice.injEq, true_and, and_true, Int.natCast_zero, Int.natCast_add, Int.natCast_one]; try omega)
        · rintro ⟨k, G⟩ ⟨hk, hG⟩
          simp only at hk hG ⊢
          refine AWP_of_awp ?_
          have hgG : G.get q = .row ((p ++ B1.take k ++ x :: (B1.drop k ++ B2 ++ r)).map iv) true 1 := by rw [hG]; exact Hp.get_set_same _ _ _ _ rfl
          by_cases hlt3 : k < i
          · have hkB : k < B1.length := by omega
            have hd1 : B1.drop k = B1[k] :: B1.drop (k + 1) := List.drop_eq_getElem_cons hkB
            have hd2 : B1.take (k + 1) = B1.take k ++ [B1[k]] := List.take_succ_eq_append_getElem hkB
            have hd3 : (B1.drop (k + 1)).length = i - (k + 1) := by rw [List.length_drop]; omega
            rw [hd1] at hgG hG
            simp only [List.cons_append] at hgG hG
            generalize B1[k] = y at *
            have hu : (p ++ B1.take k).length = p.length + k := by rw [List.length_append, List.length_take]; omega
            have hlen : (p ++ B1.take k ++ x :: y :: (B1.drop (k + 1) ++ B2 ++ r)).length = N := by
              simp only [List.length_append, List.length_cons, List.length_take, List.length_drop] at hNl ⊢; omega
            have hfin : p ++ B1.take (k + 1) ++ x :: (B1.drop (k + 1) ++ B2 ++ r) = (p ++ B1.take k) ++ y :: x :: (B1.drop (k + 1) ++ B2 ++ r) := by
              rw [hd2]; simp only [List.append_assoc, List.cons_append, List.nil_append]
            generalize p ++ B1.take k = u at *
            generalize hw0 : B1.drop (k + 1) ++ B2 ++ r = w at *
            have hi1 : ((p.length + k : Nat) : Int).toNat = p.length + k := by omega
            have hi2 : (((p.length + k : Nat) : Int) + 1).toNat = p.length + k + 1 := by omega
            have h1 : load1 G ⟨q, p.length + k, none⟩ = some (.int .i64 x) := ld_iv hgG (get_app _ _ _ (by omega))
            have h2 : load1 G ⟨q, p.length + k + 1, none⟩ = some (.int .i64 y) := ld_iv hgG (get_adj _ _ _ _ (by omega))
            simp -implicitDefEqProofs (maxSteps := 2000000) (disch := first | omega | (simp only [nx_new, nx_set, List.length_cons, List.length_nil, List.length_map, List.length_set, ne_eq, not_true_eq_false, not_false_eq_true, Nat.succ_ne_zero]; done) | (simp only [nx_new, nx_set, List.length_cons, List.length_nil, List.length_map, List.length_set, ne_eq, not_true_eq_false, not_false_eq_true, Nat.succ_ne_zero]; omega)) only [go_sem, reduceIte, reduceCtorEq, Nat.succ_ne_zero, not_false_eq_true, decide_true, decide_false, Nat.reduceAdd, Nat.reduceMul, Nat.reduceEqDiff, Nat.reduceLeDiff]
            refine AWP_draw_fast mo (by kernel_rfl) ?_
            simp -implicitDefEqProofs (maxSteps := 2000000) (disch := first | omega | (simp only [nx_new, nx_set, List.length_cons, List.length_nil, List.length_map, List.length_set, ne_eq, not_true_eq_false, not_false_eq_true, Nat.succ_ne_zero]; done) | (simp only [nx_new, nx_set, List.length_cons, List.length_nil, List.length_map, List.length_set, ne_eq, not_true_eq_false, not_false_eq_true, Nat.succ_ne_zero]; omega)) only [go_sem, reduceIte, reduceCtorEq, Nat.succ_ne_zero, not_false_eq_true, decide_true, decide_false, Nat.reduceAdd, Nat.reduceMul, Nat.reduceEqDiff, Nat.reduceLeDiff, hi1, hi2, h1, h2, hgG]
            have eG : G.set q (.row (((List.map iv (u ++ x :: y :: w)).set (p.length + k) (.int .i64 y)).set (p.length + k + 1) (.int .i64 x)) true 1) = H.set q (.row ((p ++ B1.take (k + 1) ++ x :: (B1.drop (k + 1) ++ B2 ++ r)).map iv) true 1) := by
              rw [set_iv, set_iv, swap_adj u w x y (by omega) (by omega), hG, set_two, hw0, hfin]
            rw [eG]
            refine ⟨(k + 1, _), ⟨hlt3, rfl⟩, by simp only; omega, Weak.sub ?_⟩
            (simp -implicitDefEqProofs (disch := omega) only [Abs.Sub, get_cons_eq, get_cons_ne, and_self, Option.some.injEq, Value.int.injEq, Value.slice.injEq, true_and, and_true, Int.natCast_zero, Int.natCast_add, Int.natCast_one]; try omega)
          · obtain rfl : k = i := by omega
            simp -implicitDefEqProofs (maxSteps := 2000000) (disch := first | omega | (simp only [nx_new, nx_set, List.length_cons, List.length_nil, List.length_map, List.length_set, ne_eq, not_true_eq_false, not_false_eq_true, Nat.succ_ne_zero]; done) | (simp only [nx_new, nx_set, List.length_cons, List.length_nil, List.length_map, List.length_set, ne_eq, not_true_eq_false, not_false_eq_true, Nat.succ_ne_zero]; omega)) only [go_sem, reduceIte, reduceCtorEq, Nat.succ_ne_zero, not_false_eq_true, decide_true, decide_false, Nat.reduceAdd, Nat.reduceMul, Nat.reduceEqDiff, Nat.reduceLeDiff]
            refine ret_r (v := .tuple #[]) (ares0 ret34) ⟨rfl, B1 ++ x :: B2, hperm, hsort, ?_⟩
            rw [hG, List.take_of_length_le (by omega), List.drop_eq_nil_of_le (by omega)]
            simp only [List.append_assoc, List.cons_append, List.nil_append]
        · simp only [List.take_zero, List.drop_zero, List.append_nil]
          exact (set_self hg).symm
  · by_cases hB2 : B.length = 1
    · obtain ⟨y, rfl⟩ : ∃ y, B = [y] := List.length_eq_one_iff.1 hB2
      simp only [List.length_singleton] at hNl hB1 hB2 hM ⊢
      have hyn := hwn2 y (by simp)
      have e0 : p ++ A ++ [y] ++ r = (p ++ A) ++ y :: r := by simp only [List.append_assoc, List.cons_append, List.nil_append]
      rw [e0] at hg
      have hpA : (p ++ A).length = p.length + A.length := List.length_append
      simp -implicitDefEqProofs (maxSteps := 2000000) (disch := first | omega | (simp only [nx_new, nx_set, List.length_cons, List.length_nil, List.length_map, List.length_set, ne_eq, not_true_eq_false, not_false_eq_true, Nat.succ_ne_zero]; done) | (simp only [nx_new, nx_set, List.length_cons, List.length_nil, List.length_map, List.length_set, ne_eq, not_true_eq_false, not_false_eq_true, Nat.succ_ne_zero]; omega)) only [go_sem, reduceIte, reduceCtorEq, Nat.succ_ne_zero, not_false_eq_true, decide_true, decide_false, Nat.reduceAdd, Nat.reduceMul, Nat.reduceEqDiff, Nat.reduceLeDiff]
      refine AWP_step ?_
      simp -implicitDefEqProofs (maxSteps := 2000000) (disch := first | omega | (simp only [nx_new, nx_set, List.length_cons, List.length_nil, List.length_map, List.length_set, ne_eq, not_true_eq_false, not_false_eq_true, Nat.succ_ne_zero]; done) | (simp only [nx_new, nx_set, List.length_cons, List.length_nil, List.length_map, List.length_set, ne_eq, not_true_eq_false, not_false_eq_true, Nat.succ_ne_zero]; omega)) only [go_sem, reduceIte, reduceCtorEq, Nat.succ_ne_zero, not_false_eq_true, decide_true, decide_false, Nat.reduceAdd, Nat.reduceMul, Nat.reduceEqDiff, Nat.reduceLeDiff]
      refine AWP_loop (σ := Nat × Nat) (fun s => [(14, .int .i64 ((p.length + s.1 : Nat) : Int)), (15, .int .i64 ((p.length + s.2 : Nat) : Int)), (0, .slice (some ⟨q, 0, none⟩) N N), (2, .int .i64 ((p.length + A.length : Nat) : Int)), (4, .func (.func 20) #[] #[.pointer (some ⟨c, 0, none⟩)])]) (fun _ => H)
        (fun s => s.1 ≤ s.2 ∧ s.2 ≤ A.length ∧ (∀ x, 0 < s.1 → A[s.1 - 1]? = some x → key x ≤ key y) ∧ (∀ x, A[s.2]? = some x → key y < key x)) (fun s => s.2 - s.1) (0, A.length) ⟨Nat.zero_le _, Nat.le_refl _, fun y h => by omega, fun y h => by simp at h⟩ (Weak.sub ?_) ?_
      · (simp -implicitDefEqProofs (disch := omega) only [Abs.Sub, get_cons_eq, get_cons_ne, and_self, Option.some.injEq, Value.int.injEq, Value.slice.injEq, true_and, and_true, Int.natCast_zero, Int.natCast_add, Int.natCast_one]; try omega)
      · rintro ⟨i, j⟩ ⟨hij, hjA, hlo, hhi⟩
        simp only at hij hjA hlo hhi ⊢
        refine AWP_of_awp ?_
        by_cases hlt : i < j
        · have hsum : (((p.length + i : Nat) : Int) + ((p.length + j : Nat) : Int)) / 2 = ((p.length + (i + j) / 2 : Nat) : Int) := by omega
          have hup := conv_up (((p.length + i : Nat) : Int) + ((p.length + j : Nat) : Int)) (by omega) (by omega)
          have hsh := shr_one (((p.length + i : Nat) : Int) + ((p.length + j : Nat) : Int)) (by omega)
          rw [hsum] at hsh
          have hdn := conv_dn ((p.length + (i + j) / 2 : Nat) : Int) (by omega) (by omega)
          have hh : (i + j) / 2 < A.length := by omega
          have hxn := hwn _ (List.getElem_mem hh)
          have hAg : A[(i + j) / 2]? = some A[(i + j) / 2] := List.getElem?_eq_getElem hh
          generalize A[(i + j) / 2] = x at *
          have hh1 : i ≤ (i + j) / 2 := by omega
          have hh2 : (i + j) / 2 < j := by omega
          generalize (i + j) / 2 = h at *
          have hi1 : ((p.length + h : Nat) : Int).toNat = p.length + h := by omega
          have hi2 : ((p.length + A.length : Nat) : Int).toNat = p.length + A.length := by omega
          have h1 : load1 H ⟨q, p.length + h, none⟩ = some (.int .i64 x) := ld_iv hg (by
            rw [List.getElem?_append_left (by omega), List.getElem?_append_right (by omega)]
            have e : p.length + h - p.length = h := by omega
            rw [e]; exact hAg)
          have h2 : load1 H ⟨q, p.length + A.length, none⟩ = some (.int .i64 y) := ld_iv hg (get_app _ _ _ (by omega))
          simp -implicitDefEqProofs (maxSteps := 2000000) (disch := first | omega | (simp only [nx_new, nx_set, List.length_cons, List.length_nil, List.length_map, List.length_set, ne_eq, not_true_eq_false, not_false_eq_true, Nat.succ_ne_zero]; done) | (simp only [nx_new, nx_set, List.length_cons, List.length_nil, List.length_map, List.length_set, ne_eq, not_true_eq_false, not_false_eq_true, Nat.succ_ne_zero]; omega)) only [go_sem, reduceIte, reduceCtorEq, Nat.succ_ne_zero, not_false_eq_true, decide_true, decide_false, Nat.reduceAdd, Nat.reduceMul, Nat.reduceEqDiff, Nat.reduceLeDiff, hup, hsh, hdn]
          refine AWP_draw_fast mo (by kernel_rfl) ?_
          simp -implicitDefEqProofs (maxSteps := 2000000) (disch := first | omega | (simp only [nx_new, nx_set, List.length_cons, List.length_nil, List.length_map, List.length_set, ne_eq, not_true_eq_false, not_false_eq_true, Nat.succ_ne_zero]; done) | (simp only [nx_new, nx_set, List.length_cons, List.length_nil, List.length_map, List.length_set, ne_eq, not_true_eq_false, not_false_eq_true, Nat.succ_ne_zero]; omega)) only [go_sem, reduceIte, reduceCtorEq, Nat.succ_ne_zero, not_false_eq_true, decide_true, decide_false, Nat.reduceAdd, Nat.reduceMul, Nat.reduceEqDiff, Nat.reduceLeDiff, hi1, hi2, h1, h2]
          refine ACalls.use_eq (hcmp H hk0 y x hyn hxn) ?_
          simp -implicitDefEqProofs (maxSteps := 2000000) (disch := first | omega | (simp only [nx_new, nx_set, List.length_cons, List.length_nil, List.length_map, List.length_set, ne_eq, not_true_eq_false, not_false_eq_true, Nat.succ_ne_zero]; done) | (simp only [nx_new, nx_set, List.length_cons, List.length_nil, List.length_map, List.length_set, ne_eq, not_true_eq_false, not_false_eq_true, Nat.succ_ne_zero]; omega)) only [go_sem, reduceIte, reduceCtorEq, Nat.succ_ne_zero, not_false_eq_true, decide_true, decide_false, Nat.reduceAdd, Nat.reduceMul, Nat.reduceEqDiff, Nat.reduceLeDiff]
          refine condS_split (fun hd => ?_) (fun hd => ?_)
          · have hge : key x ≤ key y := by simp only [Bool.not_eq_true'] at hd; have := of_decide_eq_false hd; omega
            simp -implicitDefEqProofs (maxSteps := 2000000) (disch := first | omega | (simp only [nx_new, nx_set, List.length_cons, List.length_nil, List.length_map, List.length_set, ne_eq, not_true_eq_false, not_false_eq_true, Nat.succ_ne_zero]; done) | (simp only [nx_new, nx_set, List.length_cons, List.length_nil, List.length_map, List.length_set, ne_eq, not_true_eq_false, not_false_eq_true, Nat.succ_ne_zero]; omega)) only [go_sem, reduceIte, reduceCtorEq, Nat.succ_ne_zero, not_false_eq_true, decide_true, decide_false, Nat.reduceAdd, Nat.reduceMul, Nat.reduceEqDiff, Nat.reduceLeDiff, hd]
            refine ⟨(h + 1, j), ⟨hh2, hjA, fun z h0 hz => ?_, hhi⟩, by simp only; omega, Weak.sub ?_⟩
            · rw [Nat.add_sub_cancel, hAg] at hz; cases hz; exact hge
            · (simp -implicitDefEqProofs (disch := omega) only [Abs.Sub, get_cons_eq, get_cons_ne, and_self, Option.some.injEq, Value.int.injEq, Value.slice.injEq, true_and, and_true, Int.natCast_zero, Int.natCast_add, Int.natCast_one]; try omega)
          · have hlt2 : key y < key x := by simp only [Bool.not_eq_false'] at hd; have := of_decide_eq_true hd; omega
            simp -implicitDefEqProofs (maxSteps := 2000000) (disch := first | omega | (simp only [nx_new, nx_set, List.length_cons, List.length_nil, List.length_map, List.length_set, ne_eq, not_true_eq_false, not_false_eq_true, Nat.succ_ne_zero]; done) | (simp only [nx_new, nx_set, List.length_cons, List.length_nil, List.length_map, List.length_set, ne_eq, not_true_eq_false, not_false_eq_true, Nat.succ_ne_zero]; omega)) only [go_sem, reduceIte, reduceCtorEq, Nat.succ_ne_zero, not_false_eq_true, decide_true, decide_false, Nat.reduceAdd, Nat.reduceMul, Nat.reduceEqDiff, Nat.reduceLeDiff, hd]
            refine ⟨(i, h), ⟨hh1, by omega, hlo, fun z hz => ?_⟩, by simp only; omega, Weak.sub ?_⟩
            · rw [hAg] at hz; cases hz; exact hlt2
            · (simp -implicitDefEqProofs (disch := omega) only [Abs.Sub, get_cons_eq, get_cons_ne, and_self, Option.some.injEq, Value.int.injEq, Value.slice.injEq, true_and, and_true, Int.natCast_zero, Int.natCast_add, Int.natCast_one]; try omega)
        · obtain rfl : i = j := by omega
          simp -implicitDefEqProofs (maxSteps := 2000000) (disch := first | omega | (simp only [nx_new, nx_set, List.length_cons, List.length_nil, List.length_map, List.length_set, ne_eq, not_true_eq_false, not_false_eq_true, Nat.succ_ne_zero]; done) | (simp only [nx_new, nx_set, List.length_cons, List.length_nil, List.length_map, List.length_set, ne_eq, not_true_eq_false, not_false_eq_true, Nat.succ_ne_zero]; omega)) only [go_sem, reduceIte, reduceCtorEq, Nat.succ_ne_zero, not_false_eq_true, decide_true, decide_false, Nat.reduceAdd, Nat.reduceMul, Nat.reduceEqDiff, Nat.reduceLeDiff]
          have hAs : A.take i ++ A.drop i = A := List.take_append_drop _ _
          have hAl : (A.take i).length = i := by rw [List.length_take]; omega
          obtain ⟨g1, g2⟩ := part_last hAs hAl
          have hsort : (A.take i ++ y :: A.drop i).Pairwise (bf key) := insert_sorted (by rw [hAs]; exact hA) (fun x hx => by
            obtain ⟨h0, h1⟩ := (g1 x).1 hx
            exact bef_of_le (hlo x h0 h1) (hAB x (by obtain ⟨_, h⟩ := List.getElem?_eq_some_iff.1 h1; rw [← h]; exact List.getElem_mem _) y (by simp))) (fun x hx => .inl (hhi x ((g2 x).1 hx)))
          have hperm : (A.take i ++ y :: A.drop i).Perm (A ++ [y]) := by
            refine insert_perm.trans ?_
            rw [hAs]; exact (List.perm_append_singleton y A).symm
          generalize A.take i = A1 at *
          generalize A.drop i = A2 at *
          subst hAs
          rw [List.length_append] at hNl hpA ⊢
          refine AWP_loop (σ := Nat × Hp) (fun s => [(17, .int .i64 ((p.length + A1.length + A2.length - s.1 : Nat) : Int)), (14, .int .i64 ((p.length + i : Nat) : Int)), (0, .slice (some ⟨q, 0, none⟩) N N)]) (fun s => s.2)
            (fun s => s.1 ≤ A2.length ∧ s.2 = H.set q (.row ((p ++ A1 ++ A2.take (A2.length - s.1) ++ y :: (A2.drop (A2.length - s.1) ++ r)).map iv) true 1)) (fun s => A2.length - s.1) (0, H) ⟨Nat.zero_le _, ?_⟩ (Weak.sub ?_) ?_
          rotate_left 1
          · (simp -implicitDefEqProofs (disch := omega) only [Abs.Sub, get_cons_eq, get_cons_ne, and_self, Option.some.injEq, Value.int.injEq, Value.slice.injEq, true_and, and_true, Int.natCast_zero, Int.natCast_add, Int.natCast_one]; try omega)
          · rintro ⟨k, G⟩ ⟨hk, hG⟩
            simp only at hk hG ⊢
            refine AWP_of_awp ?_
            have hgG : G.get q = .row ((p ++ A1 ++ A2.take (A2.length - k) ++ y :: (A2.drop (A2.length - k) ++ r)).map iv) true 1 := by rw [hG]; exact Hp.get_set_same _ _ _ _ rfl
            by_cases hlt3 : k < A2.length
            · have hkA : A2.length - (k + 1) < A2.length := by omega
              have es : A2.length - k = A2.length - (k + 1) + 1 := by omega
              have hd1 : A2.drop (A2.length - (k + 1)) = A2[A2.length - (k + 1)] :: A2.drop (A2.length - (k + 1) + 1) := List.drop_eq_getElem_cons hkA
              have hd2 : A2.take (A2.length - (k + 1) + 1) = A2.take (A2.length - (k + 1)) ++ [A2[A2.length - (k + 1)]] := List.take_succ_eq_append_getElem hkA
              rw [es, hd2] at hgG hG
              have hu : (p ++ A1 ++ A2.take (A2.length - (k + 1))).length = p.length + A1.length + (A2.length - (k + 1)) := by rw [List.length_append, List.length_append, List.length_take]; omega
              have hdl : (A2.drop (A2.length - (k + 1) + 1)).length = k := by rw [List.length_drop]; omega
              have e1 : p ++ A1 ++ (A2.take (A2.length - (k + 1)) ++ [A2[A2.length - (k + 1)]]) ++ y :: (A2.drop (A2.length - (k + 1) + 1) ++ r) = (p ++ A1 ++ A2.take (A2.length - (k + 1))) ++ A2[A2.length - (k + 1)] :: y :: (A2.drop (A2.length - (k + 1) + 1) ++ r) := by
                simp only [List.append_assoc, List.cons_append, List.nil_append]
              have hfin : p ++ A1 ++ A2.take (A2.length - (k + 1)) ++ y :: (A2.drop (A2.length - (k + 1)) ++ r) = (p ++ A1 ++ A2.take (A2.length - (k + 1))) ++ y :: A2[A2.length - (k + 1)] :: (A2.drop (A2.length - (k + 1) + 1) ++ r) := by
                rw [hd1]; simp only [List.append_assoc, List.cons_append, List.nil_append]
              rw [e1] at hgG hG
              generalize A2[A2.length - (k + 1)] = x at *
              have hlen : (p ++ A1 ++ A2.take (A2.length - (k + 1)) ++ x :: y :: (A2.drop (A2.length - (k + 1) + 1) ++ r)).length = N := by
                rw [List.length_append, hu]; simp only [List.length_cons, List.length_append, hdl]; omega
              generalize hu0 : p ++ A1 ++ A2.take (A2.length - (k + 1)) = u at *
              generalize hw0 : A2.drop (A2.length - (k + 1) + 1) ++ r = w at *
              have hi1 : ((p.length + A1.length + A2.length - k : Nat) : Int).toNat = u.length + 1 := by omega
              have hi2 : (((p.length + A1.length + A2.length - k : Nat) : Int) - 1).toNat = u.length := by omega
              have h1 : load1 G ⟨q, u.length, none⟩ = some (.int .i64 x) := ld_iv hgG (get_app _ _ _ rfl)
              have h2 : load1 G ⟨q, u.length + 1, none⟩ = some (.int .i64 y) := ld_iv hgG (get_adj _ _ _ _ rfl)
              simp -implicitDefEqProofs (maxSteps := 2000000) (disch := first | omega | (simp only [nx_new, nx_set, List.length_cons, List.length_nil, List.length_map, List.length_set, ne_eq, not_true_eq_false, not_false_eq_true, Nat.succ_ne_zero]; done) | (simp only [nx_new, nx_set, List.length_cons, List.length_nil, List.length_map, List.length_set, ne_eq, not_true_eq_false, not_false_eq_true, Nat.succ_ne_zero]; omega)) only [go_sem, reduceIte, reduceCtorEq, Nat.succ_ne_zero, not_false_eq_true, decide_true, decide_false, Nat.reduceAdd, Nat.reduceMul, Nat.reduceEqDiff, Nat.reduceLeDiff]
              refine AWP_draw_fast mo (by kernel_rfl) ?_
              simp -implicitDefEqProofs (maxSteps := 2000000) (disch := first | omega | (simp only [nx_new, nx_set, List.length_cons, List.length_nil, List.length_map, List.length_set, ne_eq, not_true_eq_false, not_false_eq_true, Nat.succ_ne_zero]; done) | (simp only [nx_new, nx_set, List.length_cons, List.length_nil, List.length_map, List.length_set, ne_eq, not_true_eq_false, not_false_eq_true, Nat.succ_ne_zero]; omega)) only [go_sem, reduceIte, reduceCtorEq, Nat.succ_ne_zero, not_false_eq_true, decide_true, decide_false, Nat.reduceAdd, Nat.reduceMul, Nat.reduceEqDiff, Nat.reduceLeDiff, hi1, hi2, h1, h2, hgG]
              have eG : G.set q (.row (((List.map iv (u ++ x :: y :: w)).set (u.length + 1) (.int .i64 x)).set u.length (.int .i64 y)) true 1) = H.set q (.row ((p ++ A1 ++ A2.take (A2.length - (k + 1)) ++ y :: (A2.drop (A2.length - (k + 1)) ++ r)).map iv) true 1) := by
                rw [set_iv, set_iv, swap_adj' u w x y rfl rfl, hG, set_two, hu0, hfin]
              rw [eG]
              refine ⟨(k + 1, _), ⟨hlt3, rfl⟩, by simp only; omega, Weak.sub ?_⟩
              (simp -implicitDefEqProofs (disch := omega) only [Abs.Sub, get_cons_eq, get_cons_ne, and_self, Option.some.injEq, Value.int.injEq, Value.slice.injEq, true_and, and_true, Int.natCast_zero, Int.natCast_add, Int.natCast_one]; try omega)
            · obtain rfl : k = A2.length := by omega
              simp -implicitDefEqProofs (maxSteps := 2000000) (disch := first | omega | (simp only [nx_new, nx_set, List.length_cons, List.length_nil, List.length_map, List.length_set, ne_eq, not_true_eq_false, not_false_eq_true, Nat.succ_ne_zero]; done) | (simp only [nx_new, nx_set, List.length_cons, List.length_nil, List.length_map, List.length_set, ne_eq, not_true_eq_false, not_false_eq_true, Nat.succ_ne_zero]; omega)) only [go_sem, reduceIte, reduceCtorEq, Nat.succ_ne_zero, not_false_eq_true, decide_true, decide_false, Nat.reduceAdd, Nat.reduceMul, Nat.reduceEqDiff, Nat.reduceLeDiff]
              refine ret_r (v := .tuple #[]) (ares0 ret34) ⟨rfl, A1 ++ y :: A2, hperm, hsort, ?_⟩
              rw [hG, Nat.sub_self]
              simp only [List.take_zero, List.drop_zero, List.append_nil, List.append_assoc, List.cons_append]
          · simp only [Nat.sub_zero, List.take_length, List.drop_length, List.nil_append]
            rw [← List.append_assoc] at hg
            exact (set_self hg).symm
    · simp -implicitDefEqProofs (maxSteps := 2000000) (disch := first | omega | (simp only [nx_new, nx_set, List.length_cons, List.length_nil, List.length_map, List.length_set, ne_eq, not_true_eq_false, not_false_eq_true, Nat.succ_ne_zero]; done) | (simp only [nx_new, nx_set, List.length_cons, List.length_nil, List.length_map, List.length_set, ne_eq, not_true_eq_false, not_false_eq_true, Nat.succ_ne_zero]; omega)) only [go_sem, reduceIte, reduceCtorEq, Nat.succ_ne_zero, not_false_eq_true, decide_true, decide_false, Nat.reduceAdd, Nat.reduceMul, Nat.reduceEqDiff, Nat.reduceLeDiff]
      refine AWP_step ?_
      simp -implicitDefEqProofs (maxSteps := 2000000) (disch := first | omega | (simp only [nx_new, nx_set, List.length_cons, List.length_nil, List.length_map, List.length_set, ne_eq, not_true_eq_false, not_false_eq_true, Nat.succ_ne_zero]; done) | (simp only [nx_new, nx_set, List.length_cons, List.length_nil, List.length_map, List.length_set, ne_eq, not_true_eq_false, not_false_eq_true, Nat.succ_ne_zero]; omega)) only [go_sem, reduceIte, reduceCtorEq, Nat.succ_ne_zero, not_false_eq_true, decide_true, decide_false, Nat.reduceAdd, Nat.reduceMul, Nat.reduceEqDiff, Nat.reduceLeDiff]
      have hA3 : 2 ≤ A.length := by omega
      have hB3 : 2 ≤ B.length := by omega
      have hsum0 : ((p.length : Int) + ((p.length + A.length + B.length : Nat) : Int)) / 2 = ((p.length + (A.length + B.length) / 2 : Nat) : Int) := by omega
      have hup0 := conv_up ((p.length : Int) + ((p.length + A.length + B.length : Nat) : Int)) (by omega) (by omega)
      have hsh0 := shr_one ((p.length : Int) + ((p.length + A.length + B.length : Nat) : Int)) (by omega)
      rw [hsum0] at hsh0
      have hdn0 := conv_dn ((p.length + (A.length + B.length) / 2 : Nat) : Int) (by omega) (by omega)
      have hh0 : A.length + B.length = 2 * ((A.length + B.length) / 2) ∨ A.length + B.length = 2 * ((A.length + B.length) / 2) + 1 := by omega
      generalize (A.length + B.length) / 2 = h at *
      refine AWP_step ?_
      simp -implicitDefEqProofs (maxSteps := 2000000) (disch := first | omega | (simp only [nx_new, nx_set, List.length_cons, List.length_nil, List.length_map, List.length_set, ne_eq, not_true_eq_false, not_false_eq_true, Nat.succ_ne_zero]; done) | (simp only [nx_new, nx_set, List.length_cons, List.length_nil, List.length_map, List.length_set, ne_eq, not_true_eq_false, not_false_eq_true, Nat.succ_ne_zero]; omega)) only [go_sem, reduceIte, reduceCtorEq, Nat.succ_ne_zero, not_false_eq_true, decide_true, decide_false, Nat.reduceAdd, Nat.reduceMul, Nat.reduceEqDiff, Nat.reduceLeDiff, hup0, hsh0, hdn0]
      refine AWP_step ?_
      simp -implicitDefEqProofs (maxSteps := 2000000) (disch := first | omega | (simp only [nx_new, nx_set, List.length_cons, List.length_nil, List.length_map, List.length_set, ne_eq, not_true_eq_false, not_false_eq_true, Nat.succ_ne_zero]; done) | (simp only [nx_new, nx_set, List.length_cons, List.length_nil, List.length_map, List.length_set, ne_eq, not_true_eq_false, not_false_eq_true, Nat.succ_ne_zero]; omega)) only [go_sem, reduceIte, reduceCtorEq, Nat.succ_ne_zero, not_false_eq_true, decide_true, decide_false, Nat.reduceAdd, Nat.reduceMul, Nat.reduceEqDiff, Nat.reduceLeDiff]
      refine AWP_step ?_
      simp -implicitDefEqProofs (maxSteps := 2000000) (disch := first | omega | (simp only [nx_new, nx_set, List.length_cons, List.length_nil, List.length_map, List.length_set, ne_eq, not_true_eq_false, not_false_eq_true, Nat.succ_ne_zero]; done) | (simp only [nx_new, nx_set, List.length_cons, List.length_nil, List.length_map, List.length_set, ne_eq, not_true_eq_false, not_false_eq_true, Nat.succ_ne_zero]; omega)) only [go_sem, reduceIte, reduceCtorEq, Nat.succ_ne_zero, not_false_eq_true, decide_true, decide_false, Nat.reduceAdd, Nat.reduceMul, Nat.reduceEqDiff, Nat.reduceLeDiff]
      refine AWP_join (σ := Unit) (fun _ => [(20, .int .i64 ((p.length + (h - B.length) : Nat) : Int)), (21, .int .i64 ((p.length + min A.length h : Nat) : Int)), (19, .int .i64 ((p.length + h + p.length + A.length : Nat) : Int)), (18, .int .i64 ((p.length + h : Nat) : Int)), (0, .slice (some ⟨q, 0, none⟩) N N), (1, .int .i64 p.length), (2, .int .i64 ((p.length + A.length : Nat) : Int)), (3, .int .i64 ((p.length + A.length + B.length : Nat) : Int)), (4, .func (.func 20) #[] #[.pointer (some ⟨c, 0, none⟩)])]) (fun _ => H) (fun _ => True) ?_ ?_
      · simp -implicitDefEqProofs (maxSteps := 2000000) (disch := first | omega | (simp only [nx_new, nx_set, List.length_cons, List.length_nil, List.length_map, List.length_set, ne_eq, not_true_eq_false, not_false_eq_true, Nat.succ_ne_zero]; done) | (simp only [nx_new, nx_set, List.length_cons, List.length_nil, List.length_map, List.length_set, ne_eq, not_true_eq_false, not_false_eq_true, Nat.succ_ne_zero]; omega)) only [go_sem, reduceIte, reduceCtorEq, Nat.succ_ne_zero, not_false_eq_true, decide_true, decide_false, Nat.reduceAdd, Nat.reduceMul, Nat.reduceEqDiff, Nat.reduceLeDiff]
        by_cases hmm : h < A.length
        · simp -implicitDefEqProofs (maxSteps := 2000000) (disch := first | omega | (simp only [nx_new, nx_set, List.length_cons, List.length_nil, List.length_map, List.length_set, ne_eq, not_true_eq_false, not_false_eq_true, Nat.succ_ne_zero]; done) | (simp only [nx_new, nx_set, List.length_cons, List.length_nil, List.length_map, List.length_set, ne_eq, not_true_eq_false, not_false_eq_true, Nat.succ_ne_zero]; omega)) only [go_sem, reduceIte, reduceCtorEq, Nat.succ_ne_zero, not_false_eq_true, decide_true, decide_false, Nat.reduceAdd, Nat.reduceMul, Nat.reduceEqDiff, Nat.reduceLeDiff]
          refine ⟨(), Weak.sub ?_⟩
          (simp -implicitDefEqProofs (disch := omega) only [Abs.Sub, get_cons_eq, get_cons_ne, and_self, Option.some.injEq, Value.int.injEq, Value.slice.injEq, true_and, and_true, Int.natCast_zero, Int.natCast_add, Int.natCast_one]; try omega)
        · simp -implicitDefEqProofs (maxSteps := 2000000) (disch := first | omega | (simp only [nx_new, nx_set, List.length_cons, List.length_nil, List.length_map, List.length_set, ne_eq, not_true_eq_false, not_false_eq_true, Nat.succ_ne_zero]; done) | (simp only [nx_new, nx_set, List.length_cons, List.length_nil, List.length_map, List.length_set, ne_eq, not_true_eq_false, not_false_eq_true, Nat.succ_ne_zero]; omega)) only [go_sem, reduceIte, reduceCtorEq, Nat.succ_ne_zero, not_false_eq_true, decide_true, decide_false, Nat.reduceAdd, Nat.reduceMul, Nat.reduceEqDiff, Nat.reduceLeDiff]
          refine ⟨(), Weak.sub ?_⟩
          (simp -implicitDefEqProofs (disch := omega) only [Abs.Sub, get_cons_eq, get_cons_ne, and_self, Option.some.injEq, Value.int.injEq, Value.slice.injEq, true_and, and_true, Int.natCast_zero, Int.natCast_add, Int.natCast_one]; try omega)
      · rintro _ _
        refine AWP_step ?_
        simp -implicitDefEqProofs (maxSteps := 2000000) (disch := first | omega | (simp only [nx_new, nx_set, List.length_cons, List.length_nil, List.length_map, List.length_set, ne_eq, not_true_eq_false, not_false_eq_true, Nat.succ_ne_zero]; done) | (simp only [nx_new, nx_set, List.length_cons, List.length_nil, List.length_map, List.length_set, ne_eq, not_true_eq_false, not_false_eq_true, Nat.succ_ne_zero]; omega)) only [go_sem, reduceIte, reduceCtorEq, Nat.succ_ne_zero, not_false_eq_true, decide_true, decide_false, Nat.reduceAdd, Nat.reduceMul, Nat.reduceEqDiff, Nat.reduceLeDiff]
        refine AWP_join (σ := Nat) (fun st => [(20, .int .i64 ((p.length + st : Nat) : Int)), (19, .int .i64 ((p.length + h + p.length + A.length : Nat) : Int)), (18, .int .i64 ((p.length + h : Nat) : Int)), (0, .slice (some ⟨q, 0, none⟩) N N), (1, .int .i64 p.length), (2, .int .i64 ((p.length + A.length : Nat) : Int)), (3, .int .i64 ((p.length + A.length + B.length : Nat) : Int)), (4, .func (.func 20) #[] #[.pointer (some ⟨c, 0, none⟩)])]) (fun _ => H)
          (fun st => h - B.length ≤ st ∧ st ≤ min A.length h ∧ (∀ x y, h - B.length < st → A[st - 1]? = some x → B[h - st]? = some y → key x ≤ key y) ∧ (∀ x y, st < min A.length h → A[st]? = some x → B[h - 1 - st]? = some y → key y < key x)) ?_ ?_
        · simp -implicitDefEqProofs (maxSteps := 2000000) (disch := first | omega | (simp only [nx_new, nx_set, List.length_cons, List.length_nil, List.length_map, List.length_set, ne_eq, not_true_eq_false, not_false_eq_true, Nat.succ_ne_zero]; done) | (simp only [nx_new, nx_set, List.length_cons, List.length_nil, List.length_map, List.length_set, ne_eq, not_true_eq_false, not_false_eq_true, Nat.succ_ne_zero]; omega)) only [go_sem, reduceIte, reduceCtorEq, Nat.succ_ne_zero, not_false_eq_true, decide_true, decide_false, Nat.reduceAdd, Nat.reduceMul, Nat.reduceEqDiff, Nat.reduceLeDiff]
          refine AWP_loop (σ := Nat × Nat) (fun s => [(20, .int .i64 ((p.length + s.1 : Nat) : Int)), (21, .int .i64 ((p.length + s.2 : Nat) : Int)), (22, .int .i64 ((p.length + h + p.length + A.length - 1 : Nat) : Int)), (19, .int .i64 ((p.length + h + p.length + A.length : Nat) : Int)), (18, .int .i64 ((p.length + h : Nat) : Int)), (0, .slice (some ⟨q, 0, none⟩) N N), (1, .int .i64 p.length), (2, .int .i64 ((p.length + A.length : Nat) : Int)), (3, .int .i64 ((p.length + A.length + B.length : Nat) : Int)), (4, .func (.func 20) #[] #[.pointer (some ⟨c, 0, none⟩)])]) (fun _ => H)
            (fun s => h - B.length ≤ s.1 ∧ s.1 ≤ s.2 ∧ s.2 ≤ min A.length h ∧ (∀ x y, h - B.length < s.1 → A[s.1 - 1]? = some x → B[h - s.1]? = some y → key x ≤ key y) ∧ (∀ x y, s.2 < min A.length h → A[s.2]? = some x → B[h - 1 - s.2]? = some y → key y < key x))
            (fun s => s.2 - s.1) (h - B.length, min A.length h) ⟨Nat.le_refl _, by simp only; omega, Nat.le_refl _, fun x y h => by simp only at h; omega, fun x y h => by simp only at h; omega⟩ (Weak.sub ?_) ?_
          · (simp -implicitDefEqProofs (disch := omega) only [Abs.Sub, get_cons_eq, get_cons_ne, and_self, Option.some.injEq, Value.int.injEq, Value.slice.injEq, true_and, and_true, Int.natCast_zero, Int.natCast_add, Int.natCast_one]; try omega)
          · rintro ⟨i, j⟩ ⟨hi0, hij, hj0, hlo, hhi⟩
            simp only at hi0 hij hj0 hlo hhi ⊢
            refine AWP_of_awp ?_
            by_cases hlt : i < j
            · have hsum : (((p.length + i : Nat) : Int) + ((p.length + j : Nat) : Int)) / 2 = ((p.length + (i + j) / 2 : Nat) : Int) := by omega
              have hup := conv_up (((p.length + i : Nat) : Int) + ((p.length + j : Nat) : Int)) (by omega) (by omega)
              have hsh := shr_one (((p.length + i : Nat) : Int) + ((p.length + j : Nat) : Int)) (by omega)
              rw [hsum] at hsh
              have hdn := conv_dn ((p.length + (i + j) / 2 : Nat) : Int) (by omega) (by omega)
              have hc1 : i ≤ (i + j) / 2 := by omega
              have hc2 : (i + j) / 2 < j := by omega
              generalize (i + j) / 2 = cc at *
              have hcA : cc < A.length := by omega
              have hcB : h - 1 - cc < B.length := by omega
              have hxn := hwn _ (List.getElem_mem hcA)
              have hyn := hwn2 _ (List.getElem_mem hcB)
              have hAg : A[cc]? = some A[cc] := List.getElem?_eq_getElem hcA
              have hBg : B[h - 1 - cc]? = some B[h - 1 - cc] := List.getElem?_eq_getElem hcB
              generalize A[cc] = x at *
              generalize B[h - 1 - cc] = y at *
              have hi1 : ((p.length + cc : Nat) : Int).toNat = p.length + cc := by omega
              have hi2 : (((p.length + h + p.length + A.length - 1 : Nat) : Int) - ((p.length + cc : Nat) : Int)).toNat = p.length + A.length + (h - 1 - cc) := by omega
              have h1 : load1 H ⟨q, p.length + cc, none⟩ = some (.int .i64 x) := ld_iv hg (by
                rw [List.append_assoc, List.append_assoc, List.getElem?_append_right (by omega), List.getElem?_append_left (by omega)]
                have e : p.length + cc - p.length = cc := by omega
                rw [e]; exact hAg)
              have h2 : load1 H ⟨q, p.length + A.length + (h - 1 - cc), none⟩ = some (.int .i64 y) := ld_iv hg (by
                rw [List.append_assoc, List.getElem?_append_right (by rw [List.length_append]; omega), List.getElem?_append_left (by rw [List.length_append]; omega)]
                have e : p.length + A.length + (h - 1 - cc) - (p ++ A).length = h - 1 - cc := by rw [List.length_append]; omega
                rw [e]; exact hBg)
              simp -implicitDefEqProofs (maxSteps := 2000000) (disch := first | omega | (simp only [nx_new, nx_set, List.length_cons, List.length_nil, List.length_map, List.length_set, ne_eq, not_true_eq_false, not_false_eq_true, Nat.succ_ne_zero]; done) | (simp only [nx_new, nx_set, List.length_cons, List.length_nil, List.length_map, List.length_set, ne_eq, not_true_eq_false, not_false_eq_true, Nat.succ_ne_zero]; omega)) only [go_sem, reduceIte, reduceCtorEq, Nat.succ_ne_zero, not_false_eq_true, decide_true, decide_false, Nat.reduceAdd, Nat.reduceMul, Nat.reduceEqDiff, Nat.reduceLeDiff, hup, hsh, hdn]
              refine AWP_draw_fast mo (by kernel_rfl) ?_
              simp -implicitDefEqProofs (maxSteps := 2000000) (disch := first | omega | (simp only [nx_new, nx_set, List.length_cons, List.length_nil, List.length_map, List.length_set, ne_eq, not_true_eq_false, not_false_eq_true, Nat.succ_ne_zero]; done) | (simp only [nx_new, nx_set, List.length_cons, List.length_nil, List.length_map, List.length_set, ne_eq, not_true_eq_false, not_false_eq_true, Nat.succ_ne_zero]; omega)) only [go_sem, reduceIte, reduceCtorEq, Nat.succ_ne_zero, not_false_eq_true, decide_true, decide_false, Nat.reduceAdd, Nat.reduceMul, Nat.reduceEqDiff, Nat.reduceLeDiff, hi1, hi2, h1, h2]
              refine ACalls.use_eq (hcmp H hk0 y x hyn hxn) ?_
              simp -implicitDefEqProofs (maxSteps := 2000000) (disch := first | omega | (simp only [nx_new, nx_set, List.length_cons, List.length_nil, List.length_map, List.length_set, ne_eq, not_true_eq_false, not_false_eq_true, Nat.succ_ne_zero]; done) | (simp only [nx_new, nx_set, List.length_cons, List.length_nil, List.length_map, List.length_set, ne_eq, not_true_eq_false, not_false_eq_true, Nat.succ_ne_zero]; omega)) only [go_sem, reduceIte, reduceCtorEq, Nat.succ_ne_zero, not_false_eq_true, decide_true, decide_false, Nat.reduceAdd, Nat.reduceMul, Nat.reduceEqDiff, Nat.reduceLeDiff]
              refine condS_split (fun hd => ?_) (fun hd => ?_)
              · have hge : key x ≤ key y := by simp only [Bool.not_eq_true'] at hd; have := of_decide_eq_false hd; omega
                simp -implicitDefEqProofs (maxSteps := 2000000) (disch := first | omega | (simp only [nx_new, nx_set, List.length_cons, List.length_nil, List.length_map, List.length_set, ne_eq, not_true_eq_false, not_false_eq_true, Nat.succ_ne_zero]; done) | (simp only [nx_new, nx_set, List.length_cons, List.length_nil, List.length_map, List.length_set, ne_eq, not_true_eq_false, not_false_eq_true, Nat.succ_ne_zero]; omega)) only [go_sem, reduceIte, reduceCtorEq, Nat.succ_ne_zero, not_false_eq_true, decide_true, decide_false, Nat.reduceAdd, Nat.reduceMul, Nat.reduceEqDiff, Nat.reduceLeDiff, hd]
                refine ⟨(cc + 1, j), ⟨by simp only; omega, hc2, hj0, fun z w h0 hz hw => ?_, hhi⟩, by simp only; omega, Weak.sub ?_⟩
                · rw [Nat.add_sub_cancel, hAg] at hz
                  have e : h - (cc + 1) = h - 1 - cc := by omega
                  rw [e, hBg] at hw
                  cases hz; cases hw; exact hge
                · (simp -implicitDefEqProofs (disch := omega) only [Abs.Sub, get_cons_eq, get_cons_ne, and_self, Option.some.injEq, Value.int.injEq, Value.slice.injEq, true_and, and_true, Int.natCast_zero, Int.natCast_add, Int.natCast_one]; try omega)
              · have hlt2 : key y < key x := by simp only [Bool.not_eq_false'] at hd; have := of_decide_eq_true hd; omega
                simp -implicitDefEqProofs (maxSteps := 2000000) (disch := first | omega | (simp only [nx_new, nx_set, List.length_cons, List.length_nil, List.length_map, List.length_set, ne_eq, not_true_eq_false, not_false_eq_true, Nat.succ_ne_zero]; done) | (simp only [nx_new, nx_set, List.length_cons, List.length_nil, List.length_map, List.length_set, ne_eq, not_true_eq_false, not_false_eq_true, Nat.succ_ne_zero]; omega)) only [go_sem, reduceIte, reduceCtorEq, Nat.succ_ne_zero, not_false_eq_true, decide_true, decide_false, Nat.reduceAdd, Nat.reduceMul, Nat.reduceEqDiff, Nat.reduceLeDiff, hd]
                refine ⟨(i, cc), ⟨hi0, hc1, by simp only; omega, hlo, fun z w h0 hz hw => ?_⟩, by simp only; omega, Weak.sub ?_⟩
                · rw [hAg] at hz; rw [hBg] at hw; cases hz; cases hw; exact hlt2
                · (simp -implicitDefEqProofs (disch := omega) only [Abs.Sub, get_cons_eq, get_cons_ne, and_self, Option.some.injEq, Value.int.injEq, Value.slice.injEq, true_and, and_true, Int.natCast_zero, Int.natCast_add, Int.natCast_one]; try omega)
            · obtain rfl : i = j := by omega
              simp -implicitDefEqProofs (maxSteps := 2000000) (disch := first | omega | (simp only [nx_new, nx_set, List.length_cons, List.length_nil, List.length_map, List.length_set, ne_eq, not_true_eq_false, not_false_eq_true, Nat.succ_ne_zero]; done) | (simp only [nx_new, nx_set, List.length_cons, List.length_nil, List.length_map, List.length_set, ne_eq, not_true_eq_false, not_false_eq_true, Nat.succ_ne_zero]; omega)) only [go_sem, reduceIte, reduceCtorEq, Nat.succ_ne_zero, not_false_eq_true, decide_true, decide_false, Nat.reduceAdd, Nat.reduceMul, Nat.reduceEqDiff, Nat.reduceLeDiff]
              refine ⟨i, ⟨hi0, hj0, hlo, hhi⟩, Weak.sub ?_⟩
              (simp -implicitDefEqProofs (disch := omega) only [Abs.Sub, get_cons_eq, get_cons_ne, and_self, Option.some.injEq, Value.int.injEq, Value.slice.injEq, true_and, and_true, Int.natCast_zero, Int.natCast_add, Int.natCast_one]; try omega)
        · rintro st ⟨hs0, hs1, hlo, hhi⟩
          have hAs : A.take st ++ A.drop st = A := List.take_append_drop _ _
          have hAl : (A.take st).length = st := by rw [List.length_take]; omega
          have hBs : B.take (h - st) ++ B.drop (h - st) = B := List.take_append_drop _ _
          have hBl : (B.take (h - st)).length = h - st := by rw [List.length_take]; omega
          obtain ⟨gA1, gA2⟩ := part_last hAs hAl
          obtain ⟨gB1, gB2⟩ := part_last hBs hBl
          have hJ1 : ∀ x y, (A.take st).getLast? = some x → (B.drop (h - st)).head? = some y → bf key x y := fun x y hx hy => by
            obtain ⟨h0, hx⟩ := (gA1 x).1 hx
            have hy := (gB2 y).1 hy
            have hyl := (List.getElem?_eq_some_iff.1 hy).1
            have hxl := (List.getElem?_eq_some_iff.1 hx).1
            have hxy : x < y := hAB x (by obtain ⟨_, e⟩ := List.getElem?_eq_some_iff.1 hx; rw [← e]; exact List.getElem_mem _) y (by obtain ⟨_, e⟩ := List.getElem?_eq_some_iff.1 hy; rw [← e]; exact List.getElem_mem _)
            exact bef_of_le (hlo x y (by omega) hx hy) hxy
          have hJ2 : ∀ y x, (B.take (h - st)).getLast? = some y → (A.drop st).head? = some x → bf key y x := fun y x hy hx => by
            obtain ⟨h0, hy⟩ := (gB1 y).1 hy
            have hx := (gA2 x).1 hx
            have hxl := (List.getElem?_eq_some_iff.1 hx).1
            have e : h - st - 1 = h - 1 - st := by omega
            rw [e] at hy
            exact .inl (hhi x y (by omega) hx hy)
          generalize A.take st = A1 at *
          generalize A.drop st = A2 at *
          generalize B.take (h - st) = B1 at *
          generalize B.drop (h - st) = B2 at *
          subst hAs; subst hBs
          clear gA1 gA2 gB1 gB2 hlo hhi
          have lA : (A1 ++ A2).length = A1.length + A2.length := List.length_append
          have lB : (B1 ++ B2).length = B1.length + B2.length := List.length_append
          have sA := List.pairwise_append.1 hA
          have sB := List.pairwise_append.1 hB
          rw [lA] at hNl hM hs1 hh0 hA3 ⊢
          rw [lB] at hNl hM hh0 hB3 hs0 ⊢
          have eL : p ++ (A1 ++ A2) ++ (B1 ++ B2) ++ r = p ++ A1 ++ A2 ++ B1 ++ (B2 ++ r) := by simp only [List.append_assoc]
          rw [eL] at hg
          refine AWP_step ?_
          simp -implicitDefEqProofs (maxSteps := 2000000) (disch := first | omega | (simp only [nx_new, nx_set, List.length_cons, List.length_nil, List.length_map, List.length_set, ne_eq, not_true_eq_false, not_false_eq_true, Nat.succ_ne_zero]; done) | (simp only [nx_new, nx_set, List.length_cons, List.length_nil, List.length_map, List.length_set, ne_eq, not_true_eq_false, not_false_eq_true, Nat.succ_ne_zero]; omega)) only [go_sem, reduceIte, reduceCtorEq, Nat.succ_ne_zero, not_false_eq_true, decide_true, decide_false, Nat.reduceAdd, Nat.reduceMul, Nat.reduceEqDiff, Nat.reduceLeDiff]
          refine AWP_join (σ := Hp) (fun _ => [(20, .int .i64 ((p.length + A1.length : Nat) : Int)), (24, .int .i64 ((p.length + A1.length + B1.length + A2.length : Nat) : Int)), (18, .int .i64 ((p.length + A1.length + B1.length : Nat) : Int)), (0, .slice (some ⟨q, 0, none⟩) N N), (1, .int .i64 p.length), (3, .int .i64 ((p.length + A1.length + B1.length + A2.length + B2.length : Nat) : Int)), (4, .func (.func 20) #[] #[.pointer (some ⟨c, 0, none⟩)])]) (fun G => G)
            (fun G => G = H.set q (.row ((p ++ A1 ++ B1 ++ (A2 ++ B2 ++ r)).map iv) true 1)) ?_ ?_
          · simp -implicitDefEqProofs (maxSteps := 2000000) (disch := first | omega | (simp only [nx_new, nx_set, List.length_cons, List.length_nil, List.length_map, List.length_set, ne_eq, not_true_eq_false, not_false_eq_true, Nat.succ_ne_zero]; done) | (simp only [nx_new, nx_set, List.length_cons, List.length_nil, List.length_map, List.length_set, ne_eq, not_true_eq_false, not_false_eq_true, Nat.succ_ne_zero]; omega)) only [go_sem, reduceIte, reduceCtorEq, Nat.succ_ne_zero, not_false_eq_true, decide_true, decide_false, Nat.reduceAdd, Nat.reduceMul, Nat.reduceEqDiff, Nat.reduceLeDiff]
            by_cases c1 : 0 < A2.length
            · by_cases c2 : 0 < B1.length
              · simp -implicitDefEqProofs (maxSteps := 2000000) (disch := first | omega | (simp only [nx_new, nx_set, List.length_cons, List.length_nil, List.length_map, List.length_set, ne_eq, not_true_eq_false, not_false_eq_true, Nat.succ_ne_zero]; done) | (simp only [nx_new, nx_set, List.length_cons, List.length_nil, List.length_map, List.length_set, ne_eq, not_true_eq_false, not_false_eq_true, Nat.succ_ne_zero]; omega)) only [go_sem, reduceIte, reduceCtorEq, Nat.succ_ne_zero, not_false_eq_true, decide_true, decide_false, Nat.reduceAdd, Nat.reduceMul, Nat.reduceEqDiff, Nat.reduceLeDiff]
                have hrot := rotate_spec (H := H) (q := q) (fv := .func (.func 20) #[] #[.pointer (some ⟨c, 0, none⟩)]) (N := N) (p ++ A1) A2 B1 (B2 ++ r) (List.length_pos_iff.1 c1) (List.length_pos_iff.1 c2) (by simp only [List.length_append]; omega) hb rfl rfl rfl hg
                have eR : (p ++ A1) ++ B1 ++ A2 ++ (B2 ++ r) = p ++ A1 ++ B1 ++ (A2 ++ B2 ++ r) := by simp only [List.append_assoc]
                have lP : (p ++ A1).length = p.length + A1.length := List.length_append
                rw [eR, lP] at hrot
                have q1 : ((p.length + st : Nat) : Int) = ((p.length + A1.length : Nat) : Int) := by omega
                have q2 : ((p.length + (A1.length + A2.length) : Nat) : Int) = ((p.length + A1.length + A2.length : Nat) : Int) := by omega
                have q3 : ((p.length + h + p.length + (A1.length + A2.length) : Nat) : Int) - ((p.length + st : Nat) : Int) = ((p.length + A1.length + A2.length + B1.length : Nat) : Int) := by omega
                rw [q3, q2, q1]
                refine ACalls.use_eq hrot ?_
                simp -implicitDefEqProofs (maxSteps := 2000000) (disch := first | omega | (simp only [nx_new, nx_set, List.length_cons, List.length_nil, List.length_map, List.length_set, ne_eq, not_true_eq_false, not_false_eq_true, Nat.succ_ne_zero]; done) | (simp only [nx_new, nx_set, List.length_cons, List.length_nil, List.length_map, List.length_set, ne_eq, not_true_eq_false, not_false_eq_true, Nat.succ_ne_zero]; omega)) only [go_sem, reduceIte, reduceCtorEq, Nat.succ_ne_zero, not_false_eq_true, decide_true, decide_false, Nat.reduceAdd, Nat.reduceMul, Nat.reduceEqDiff, Nat.reduceLeDiff]
                refine ⟨_, rfl, Weak.sub ?_⟩
                (simp -implicitDefEqProofs (disch := omega) only [Abs.Sub, get_cons_eq, get_cons_ne, and_self, Option.some.injEq, Value.int.injEq, Value.slice.injEq, true_and, and_true, Int.natCast_zero, Int.natCast_add, Int.natCast_one]; try omega)
              · have : B1 = [] := List.eq_nil_of_length_eq_zero (by omega)
                subst this
                simp -implicitDefEqProofs (maxSteps := 2000000) (disch := first | omega | (simp only [nx_new, nx_set, List.length_cons, List.length_nil, List.length_map, List.length_set, ne_eq, not_true_eq_false, not_false_eq_true, Nat.succ_ne_zero]; done) | (simp only [nx_new, nx_set, List.length_cons, List.length_nil, List.length_map, List.length_set, ne_eq, not_true_eq_false, not_false_eq_true, Nat.succ_ne_zero]; omega)) only [go_sem, reduceIte, reduceCtorEq, Nat.succ_ne_zero, not_false_eq_true, decide_true, decide_false, Nat.reduceAdd, Nat.reduceMul, Nat.reduceEqDiff, Nat.reduceLeDiff]
                refine ⟨H, ?_, Weak.sub ?_⟩
                · simp only [List.append_nil, List.append_assoc] at hg ⊢
                  exact (set_self hg).symm
                · simp only [List.length_nil] at *
                  (simp -implicitDefEqProofs (disch := omega) only [Abs.Sub, get_cons_eq, get_cons_ne, and_self, Option.some.injEq, Value.int.injEq, Value.slice.injEq, true_and, and_true, Int.natCast_zero, Int.natCast_add, Int.natCast_one]; try omega)
            · have : A2 = [] := List.eq_nil_of_length_eq_zero (by omega)
              subst this
              simp only [List.length_nil, Nat.add_zero] at *
              simp -implicitDefEqProofs (maxSteps := 2000000) (disch := first | omega | (simp only [nx_new, nx_set, List.length_cons, List.length_nil, List.length_map, List.length_set, ne_eq, not_true_eq_false, not_false_eq_true, Nat.succ_ne_zero]; done) | (simp only [nx_new, nx_set, List.length_cons, List.length_nil, List.length_map, List.length_set, ne_eq, not_true_eq_false, not_false_eq_true, Nat.succ_ne_zero]; omega)) only [go_sem, reduceIte, reduceCtorEq, Nat.succ_ne_zero, not_false_eq_true, decide_true, decide_false, Nat.reduceAdd, Nat.reduceMul, Nat.reduceEqDiff, Nat.reduceLeDiff]
              refine ⟨H, ?_, Weak.sub ?_⟩
              · simp only [List.append_nil, List.nil_append, List.append_assoc] at hg ⊢
                exact (set_self hg).symm
              · (simp -implicitDefEqProofs (disch := omega) only [Abs.Sub, get_cons_eq, get_cons_ne, and_self, Option.some.injEq, Value.int.injEq, Value.slice.injEq, true_and, and_true, Int.natCast_zero, Int.natCast_add, Int.natCast_one]; try omega)
          · rintro G1 hG1
            refine AWP_join (σ := List Nat × Hp) (fun _ => [(24, .int .i64 ((p.length + A1.length + B1.length + A2.length : Nat) : Int)), (18, .int .i64 ((p.length + A1.length + B1.length : Nat) : Int)), (0, .slice (some ⟨q, 0, none⟩) N N), (3, .int .i64 ((p.length + A1.length + B1.length + A2.length + B2.length : Nat) : Int)), (4, .func (.func 20) #[] #[.pointer (some ⟨c, 0, none⟩)])]) (fun s => s.2)
              (fun s => s.1.Perm (A1 ++ B1) ∧ s.1.Pairwise (bf key) ∧ s.2 = H.set q (.row ((p ++ s.1 ++ (A2 ++ B2 ++ r)).map iv) true 1)) ?_ ?_
            · have hg1 : G1.get q = .row ((p ++ A1 ++ B1 ++ (A2 ++ B2 ++ r)).map iv) true 1 := by rw [hG1]; exact Hp.get_set_same _ _ _ _ rfl
              have hk1 : Keeps G0 G1 := by rw [hG1]; exact hk0.set hq
              simp -implicitDefEqProofs (maxSteps := 2000000) (disch := first | omega | (simp only [nx_new, nx_set, List.length_cons, List.length_nil, List.length_map, List.length_set, ne_eq, not_true_eq_false, not_false_eq_true, Nat.succ_ne_zero]; done) | (simp only [nx_new, nx_set, List.length_cons, List.length_nil, List.length_map, List.length_set, ne_eq, not_true_eq_false, not_false_eq_true, Nat.succ_ne_zero]; omega)) only [go_sem, reduceIte, reduceCtorEq, Nat.succ_ne_zero, not_false_eq_true, decide_true, decide_false, Nat.reduceAdd, Nat.reduceMul, Nat.reduceEqDiff, Nat.reduceLeDiff]
              by_cases c1 : 0 < A1.length
              · by_cases c2 : 0 < B1.length
                · simp -implicitDefEqProofs (maxSteps := 2000000) (disch := first | omega | (simp only [nx_new, nx_set, List.length_cons, List.length_nil, List.length_map, List.length_set, ne_eq, not_true_eq_false, not_false_eq_true, Nat.succ_ne_zero]; done) | (simp only [nx_new, nx_set, List.length_cons, List.length_nil, List.length_map, List.length_set, ne_eq, not_true_eq_false, not_false_eq_true, Nat.succ_ne_zero]; omega)) only [go_sem, reduceIte, reduceCtorEq, Nat.succ_ne_zero, not_false_eq_true, decide_true, decide_false, Nat.reduceAdd, Nat.reduceMul, Nat.reduceEqDiff, Nat.reduceLeDiff]
                  refine (ih p A1 B1 (A2 ++ B2 ++ r) (by omega) hk1 hq (List.length_pos_iff.1 c1) (List.length_pos_iff.1 c2) sA.1 sB.1 (fun x hx y hy => hAB x (List.mem_append_left _ hx) y (List.mem_append_left _ hy)) (fun x hx => ?_) (by simp only [List.length_append]; omega) hb rfl rfl rfl hg1).mono ?_
                  · rcases List.mem_append.1 hx with hx | hx
                    · exact hwn x (List.mem_append_left _ hx)
                    · exact hwn2 x (List.mem_append_left _ hx)
                  · rintro _ _ ⟨rfl, Y, hY1, hY2, rfl⟩
                    rw [hG1, set_two]
                    simp -implicitDefEqProofs (maxSteps := 2000000) (disch := first | omega | (simp only [nx_new, nx_set, List.length_cons, List.length_nil, List.length_map, List.length_set, ne_eq, not_true_eq_false, not_false_eq_true, Nat.succ_ne_zero]; done) | (simp only [nx_new, nx_set, List.length_cons, List.length_nil, List.length_map, List.length_set, ne_eq, not_true_eq_false, not_false_eq_true, Nat.succ_ne_zero]; omega)) only [go_sem, reduceIte, reduceCtorEq, Nat.succ_ne_zero, not_false_eq_true, decide_true, decide_false, Nat.reduceAdd, Nat.reduceMul, Nat.reduceEqDiff, Nat.reduceLeDiff]
                    refine ⟨(Y, _), ⟨hY1, hY2, rfl⟩, Weak.sub ?_⟩
                    (simp -implicitDefEqProofs (disch := omega) only [Abs.Sub, get_cons_eq, get_cons_ne, and_self, Option.some.injEq, Value.int.injEq, Value.slice.injEq, true_and, and_true, Int.natCast_zero, Int.natCast_add, Int.natCast_one]; try omega)
                · have : B1 = [] := List.eq_nil_of_length_eq_zero (by omega)
                  subst this
                  simp only [List.length_nil, Nat.add_zero] at *
                  simp -implicitDefEqProofs (maxSteps := 2000000) (disch := first | omega | (simp only [nx_new, nx_set, List.length_cons, List.length_nil, List.length_map, List.length_set, ne_eq, not_true_eq_false, not_false_eq_true, Nat.succ_ne_zero]; done) | (simp only [nx_new, nx_set, List.length_cons, List.length_nil, List.length_map, List.length_set, ne_eq, not_true_eq_false, not_false_eq_true, Nat.succ_ne_zero]; omega)) only [go_sem, reduceIte, reduceCtorEq, Nat.succ_ne_zero, not_false_eq_true, decide_true, decide_false, Nat.reduceAdd, Nat.reduceMul, Nat.reduceEqDiff, Nat.reduceLeDiff]
                  refine ⟨(A1, G1), ⟨List.Perm.refl _, sA.1, by rw [hG1, List.append_nil]⟩, Weak.sub ?_⟩
                  (simp -implicitDefEqProofs (disch := omega) only [Abs.Sub, get_cons_eq, get_cons_ne, and_self, Option.some.injEq, Value.int.injEq, Value.slice.injEq, true_and, and_true, Int.natCast_zero, Int.natCast_add, Int.natCast_one]; try omega)
              · have : A1 = [] := List.eq_nil_of_length_eq_zero (by omega)
                subst this
                simp only [List.length_nil, Nat.add_zero] at *
                simp -implicitDefEqProofs (maxSteps := 2000000) (disch := first | omega | (simp only [nx_new, nx_set, List.length_cons, List.length_nil, List.length_map, List.length_set, ne_eq, not_true_eq_false, not_false_eq_true, Nat.succ_ne_zero]; done) | (simp only [nx_new, nx_set, List.length_cons, List.length_nil, List.length_map, List.length_set, ne_eq, not_true_eq_false, not_false_eq_true, Nat.succ_ne_zero]; omega)) only [go_sem, reduceIte, reduceCtorEq, Nat.succ_ne_zero, not_false_eq_true, decide_true, decide_false, Nat.reduceAdd, Nat.reduceMul, Nat.reduceEqDiff, Nat.reduceLeDiff]
                refine ⟨(B1, G1), ⟨List.Perm.refl _, sB.1, by rw [hG1, List.append_nil]⟩, Weak.sub ?_⟩
                (simp -implicitDefEqProofs (disch := omega) only [Abs.Sub, get_cons_eq, get_cons_ne, and_self, Option.some.injEq, Value.int.injEq, Value.slice.injEq, true_and, and_true, Int.natCast_zero, Int.natCast_add, Int.natCast_one]; try omega)
            · rintro ⟨Y1, G2⟩ ⟨hY1, hY2, hG2⟩
              simp only at hY1 hY2 hG2 ⊢
              refine AWP_of_awp ?_
              have hYl := hY1.length_eq
              rw [List.length_append] at hYl
              have eL2 : p ++ Y1 ++ (A2 ++ B2 ++ r) = (p ++ Y1) ++ A2 ++ B2 ++ r := by simp only [List.append_assoc]
              rw [eL2] at hG2
              have hg2 : G2.get q = .row (((p ++ Y1) ++ A2 ++ B2 ++ r).map iv) true 1 := by rw [hG2]; exact Hp.get_set_same _ _ _ _ rfl
              have hk2 : Keeps G0 G2 := by rw [hG2]; exact hk0.set hq
              have lP : (p ++ Y1).length = p.length + Y1.length := List.length_append
              simp -implicitDefEqProofs (maxSteps := 2000000) (disch := first | omega | (simp only [nx_new, nx_set, List.length_cons, List.length_nil, List.length_map, List.length_set, ne_eq, not_true_eq_false, not_false_eq_true, Nat.succ_ne_zero]; done) | (simp only [nx_new, nx_set, List.length_cons, List.length_nil, List.length_map, List.length_set, ne_eq, not_true_eq_false, not_false_eq_true, Nat.succ_ne_zero]; omega)) only [go_sem, reduceIte, reduceCtorEq, Nat.succ_ne_zero, not_false_eq_true, decide_true, decide_false, Nat.reduceAdd, Nat.reduceMul, Nat.reduceEqDiff, Nat.reduceLeDiff]
              by_cases c1 : 0 < A2.length
              · by_cases c2 : 0 < B2.length
                · simp -implicitDefEqProofs (maxSteps := 2000000) (disch := first | omega | (simp only [nx_new, nx_set, List.length_cons, List.length_nil, List.length_map, List.length_set, ne_eq, not_true_eq_false, not_false_eq_true, Nat.succ_ne_zero]; done) | (simp only [nx_new, nx_set, List.length_cons, List.length_nil, List.length_map, List.length_set, ne_eq, not_true_eq_false, not_false_eq_true, Nat.succ_ne_zero]; omega)) only [go_sem, reduceIte, reduceCtorEq, Nat.succ_ne_zero, not_false_eq_true, decide_true, decide_false, Nat.reduceAdd, Nat.reduceMul, Nat.reduceEqDiff, Nat.reduceLeDiff]
                  refine (ih (p ++ Y1) A2 B2 r (by omega) hk2 hq (List.length_pos_iff.1 c1) (List.length_pos_iff.1 c2) sA.2.1 sB.2.1 (fun x hx y hy => hAB x (List.mem_append_right _ hx) y (List.mem_append_right _ hy)) (fun x hx => ?_) (by simp only [List.length_append]; omega) hb (by omega) (by omega) (by omega) hg2).mono ?_
                  · rcases List.mem_append.1 hx with hx | hx
                    · exact hwn x (List.mem_append_right _ hx)
                    · exact hwn2 x (List.mem_append_right _ hx)
                  · rintro _ _ ⟨rfl, Y, hY3, hY4, rfl⟩
                    obtain ⟨f1, f2⟩ := sym_merge hA hB hJ1 hJ2 hY1 hY2 hY3 hY4
                    simp -implicitDefEqProofs (maxSteps := 2000000) (disch := first | omega | (simp only [nx_new, nx_set, List.length_cons, List.length_nil, List.length_map, List.length_set, ne_eq, not_true_eq_false, not_false_eq_true, Nat.succ_ne_zero]; done) | (simp only [nx_new, nx_set, List.length_cons, List.length_nil, List.length_map, List.length_set, ne_eq, not_true_eq_false, not_false_eq_true, Nat.succ_ne_zero]; omega)) only [go_sem, reduceIte, reduceCtorEq, Nat.succ_ne_zero, not_false_eq_true, decide_true, decide_false, Nat.reduceAdd, Nat.reduceMul, Nat.reduceEqDiff, Nat.reduceLeDiff]
                    refine ret_n (v := .tuple #[]) (ares0 ret34) ⟨rfl, Y1 ++ Y, f1, f2, ?_⟩
                    rw [hG2, set_two]
                    simp only [List.append_assoc]
                · have : B2 = [] := List.eq_nil_of_length_eq_zero (by omega)
                  subst this
                  obtain ⟨f1, f2⟩ := sym_merge hA hB hJ1 hJ2 hY1 hY2 (by rw [List.append_nil] : A2.Perm (A2 ++ [])) sA.2.1
                  simp only [List.length_nil, Nat.add_zero] at *
                  simp -implicitDefEqProofs (maxSteps := 2000000) (disch := first | omega | (simp only [nx_new, nx_set, List.length_cons, List.length_nil, List.length_map, List.length_set, ne_eq, not_true_eq_false, not_false_eq_true, Nat.succ_ne_zero]; done) | (simp only [nx_new, nx_set, List.length_cons, List.length_nil, List.length_map, List.length_set, ne_eq, not_true_eq_false, not_false_eq_true, Nat.succ_ne_zero]; omega)) only [go_sem, reduceIte, reduceCtorEq, Nat.succ_ne_zero, not_false_eq_true, decide_true, decide_false, Nat.reduceAdd, Nat.reduceMul, Nat.reduceEqDiff, Nat.reduceLeDiff]
                  refine ret_n (v := .tuple #[]) (ares0 ret34) ⟨rfl, Y1 ++ A2, by simpa only [List.append_nil, List.nil_append] using f1, f2, ?_⟩
                  rw [hG2]
                  simp only [List.append_assoc, List.append_nil, List.nil_append]
              · have : A2 = [] := List.eq_nil_of_length_eq_zero (by omega)
                subst this
                obtain ⟨f1, f2⟩ := sym_merge hA hB hJ1 hJ2 hY1 hY2 (by rw [List.nil_append] : B2.Perm ([] ++ B2)) sB.2.1
                simp only [List.length_nil, Nat.add_zero] at *
                simp -implicitDefEqProofs (maxSteps := 2000000) (disch := first | omega | (simp only [nx_new, nx_set, List.length_cons, List.length_nil, List.length_map, List.length_set, ne_eq, not_true_eq_false, not_false_eq_true, Nat.succ_ne_zero]; done) | (simp only [nx_new, nx_set, List.length_cons, List.length_nil, List.length_map, List.length_set, ne_eq, not_true_eq_false, not_false_eq_true, Nat.succ_ne_zero]; omega)) only [go_sem, reduceIte, reduceCtorEq, Nat.succ_ne_zero, not_false_eq_true, decide_true, decide_false, Nat.reduceAdd, Nat.reduceMul, Nat.reduceEqDiff, Nat.reduceLeDiff]
                refine ret_n (v := .tuple #[]) (ares0 ret34) ⟨rfl, Y1 ++ B2, by simpa only [List.append_nil, List.nil_append] using f1, f2, ?_⟩
                rw [hG2]
                simp only [List.append_assoc, List.append_nil, List.nil_append]
end Go.Proofs.Ytjgdmjoafpbnaaa
