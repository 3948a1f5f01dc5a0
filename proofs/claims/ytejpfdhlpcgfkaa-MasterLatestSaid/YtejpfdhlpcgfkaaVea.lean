/- symMerge at calibrations, where one stands behind the others. -/
import Derived.Test.YtejpfdhlpcgfkaaVe
set_option linter.unusedVariables false
set_option linter.unusedSimpArgs false
set_option linter.unusedSectionVars false
namespace Go.Proofs.Ytejpfdhlpcgfkaa
open Go.Abs Go.Sm
set_option maxHeartbeats 8000000
set_option maxRecDepth 100000
theorem conv_up (x : Int) (h0 : 0 ≤ x) (h1 : x ≤ 9223372036854775807) : aconv Try.prog 3 72 (.int .i64 x) = some (.int .u64 x) := by
  simp only [aconv, u3, u72]
  have : IntKind.u64.wrap x = x := by
    unfold IntKind.wrap
    simp only [IntKind.bits, IntKind.signed, Bool.false_and, Bool.false_eq_true, if_false]
    exact Int.emod_eq_of_lt h0 (by omega)
  rw [this]
theorem conv_dn (x : Int) (h0 : 0 ≤ x) (h1 : x ≤ 9223372036854775807) : aconv Try.prog 72 3 (.int .u64 x) = some (.int .i64 x) := by
  simp only [aconv, u3, u72]
  rw [wrap_i64 (by omega) (by omega)]
theorem shr_one (x : Int) (h0 : 0 ≤ x) : abin Try.prog .shr 72 (.int .u64 x) (.int .u64 1) = some (.int .u64 (x / 2)) := by
  have e : x.fdiv (2 ^ 1) = x / 2 := by rw [Int.fdiv_eq_ediv_of_nonneg _ (by decide)]; rfl
  have : abin Try.prog .shr 72 (.int .u64 x) (.int .u64 1) = some (.int .u64 (x.fdiv (2 ^ 1))) := rfl
  rw [this, e]
theorem part_last {A1 A2 A : List Nat} (hA : A1 ++ A2 = A) {k : Nat} (hk : A1.length = k) : (∀ x, A1.getLast? = some x ↔ 0 < k ∧ A[k - 1]? = some x) ∧ (∀ x, A2.head? = some x ↔ A[k]? = some x) := by
  subst hA; subst hk
  refine ⟨fun x => ?_, fun x => ?_⟩
  · rw [List.getLast?_eq_getElem?]
    constructor
    · intro h
      have := (List.getElem?_eq_some_iff.1 h).1
      refine ⟨by omega, ?_⟩
      rw [List.getElem?_append_left this]; exact h
    · rintro ⟨h0, h⟩
      rw [List.getElem?_append_left (by omega)] at h
      exact h
  · rw [List.getElem?_append_right (Nat.le_refl _), Nat.sub_self, List.head?_eq_getElem?]
theorem n42 : Try.f42.ntmps = 220 := rfl
theorem ret42 : Try.f42.results = #[] := rfl
theorem sym1_spec {H : Hp} {q n N : Nat} {E : Nat → Cal} {key : Nat → Int} (hcmp : Cmp9 E n key) (hqn : q < H.next) (A : List Nat) (y : Nat) (hA : A.Pairwise (bf key)) (hAB : ∀ x, x ∈ A → x < y) (hn : ∀ x, x ∈ A → x < n) (hyn : y < n) (hA2 : 2 ≤ A.length) (hN : A.length + 1 = N) (hb : N ≤ 1000000)
    (hg : H.get q = .row (rw9 E (A ++ [y])) true 9) :
    ACalls Try.prog 42 [.slice (some ⟨q, 0, none⟩) N N, .int .i64 0, .int .i64 A.length, .int .i64 N, .func (.func 25) #[] #[]] H (fun w H' => w = .tuple #[] ∧ ∃ Y, Y.Perm (A ++ [y]) ∧ Y.Pairwise (bf key) ∧ KX q H H' ∧ H'.get q = .row (rw9 E Y) true 9) := by
  have hNl : A.length + 1 = N := hN
  refine ACalls_enter Try.func42 (by kernel_rfl) rfl (by kernel_rfl) (by simp [n42]) fun hw hr => AWP_step ?_
  simp -implicitDefEqProofs (maxSteps := 2000000) (disch := first | omega | (simp only [nx_new, nx_set, List.length_cons, List.length_nil, List.length_map, List.length_set, ne_eq, not_true_eq_false, not_false_eq_true, Nat.succ_ne_zero]; done) | (simp only [nx_new, nx_set, List.length_cons, List.length_nil, List.length_map, List.length_set, ne_eq, not_true_eq_false, not_false_eq_true, Nat.succ_ne_zero]; omega)) only [go_sem, reduceIte, reduceCtorEq, Nat.succ_ne_zero, not_false_eq_true, decide_true, decide_false, Nat.reduceAdd, Nat.reduceMul, Nat.reduceEqDiff, Nat.reduceLeDiff]
  refine AWP_step ?_
  simp -implicitDefEqProofs (maxSteps := 2000000) (disch := first | omega | (simp only [nx_new, nx_set, List.length_cons, List.length_nil, List.length_map, List.length_set, ne_eq, not_true_eq_false, not_false_eq_true, Nat.succ_ne_zero]; done) | (simp only [nx_new, nx_set, List.length_cons, List.length_nil, List.length_map, List.length_set, ne_eq, not_true_eq_false, not_false_eq_true, Nat.succ_ne_zero]; omega)) only [go_sem, reduceIte, reduceCtorEq, Nat.succ_ne_zero, not_false_eq_true, decide_true, decide_false, Nat.reduceAdd, Nat.reduceMul, Nat.reduceEqDiff, Nat.reduceLeDiff]
  refine AWP_loop (σ := Nat × Nat × Hp) (fun s => [(14, .int .i64 s.1), (15, .int .i64 s.2.1), (0, .slice (some ⟨q, 0, none⟩) N N), (2, .int .i64 A.length), (4, .func (.func 25) #[] #[])]) (fun s => s.2.2)
    (fun s => s.1 ≤ s.2.1 ∧ s.2.1 ≤ A.length ∧ (∀ x, 0 < s.1 → A[s.1 - 1]? = some x → key x ≤ key y) ∧ (∀ x, A[s.2.1]? = some x → key y < key x) ∧ Keeps H s.2.2) (fun s => s.2.1 - s.1) (0, A.length, H) ⟨Nat.zero_le _, Nat.le_refl _, (fun y h => by simp only at h; omega), (fun y h => by simp at h), Keeps.refl _⟩ (Weak.sub ?_) ?_
  · (simp -implicitDefEqProofs (disch := omega) only [Abs.Sub, get_cons_eq, get_cons_ne, and_self, Option.some.injEq, Value.int.injEq, Value.slice.injEq, true_and, and_true, Int.natCast_zero, Int.natCast_add, Int.natCast_one, List.length_nil]; try omega)
  rintro ⟨i, j, G⟩ ⟨hij, hjA, hlo, hhi, hk⟩
  simp only at hij hjA hlo hhi hk ⊢
  refine AWP_of_awp ?_
  have hgG : G.get q = .row (rw9 E (A ++ [y])) true 9 := (hk.get q hqn).trans hg
  have hqG : q < G.next := Nat.lt_of_lt_of_le hqn hk.next
  by_cases hlt : i < j
  · have hsum : ((i : Int) + (j : Int)) / 2 = (((i + j) / 2 : Nat) : Int) := by omega
    have hup := conv_up ((i : Int) + (j : Int)) (by omega) (by omega)
    have hsh := shr_one ((i : Int) + (j : Int)) (by omega)
    rw [hsum] at hsh
    have hdn := conv_dn (((i + j) / 2 : Nat) : Int) (by omega) (by omega)
    have hh : (i + j) / 2 < A.length := by omega
    have hxn := hn _ (List.getElem_mem hh)
    have hAg : A[(i + j) / 2]? = some A[(i + j) / 2] := List.getElem?_eq_getElem hh
    generalize A[(i + j) / 2] = x at *
    have hh1 : i ≤ (i + j) / 2 := by omega
    have hh2 : (i + j) / 2 < j := by omega
    generalize (i + j) / 2 = h at *
    have h1 : aload G ⟨q, h * 9, none⟩ 9 = some (E x).cells := ld9 hqG hgG (by rw [List.getElem?_append_left (by omega)]; exact hAg)
    have h2 : aload G ⟨q, A.length * 9, none⟩ 9 = some (E y).cells := ld9 hqG hgG (get_app _ _ _ rfl)
    have hcall := hcmp G y x hyn hxn
    rw [cal_agg, cal_agg] at hcall
    simp only [Cal.cells] at h1 h2
    simp -implicitDefEqProofs (maxSteps := 2000000) (disch := first | omega | (simp only [nx_new, nx_set, List.length_cons, List.length_nil, List.length_map, List.length_set, ne_eq, not_true_eq_false, not_false_eq_true, Nat.succ_ne_zero]; done) | (simp only [nx_new, nx_set, List.length_cons, List.length_nil, List.length_map, List.length_set, ne_eq, not_true_eq_false, not_false_eq_true, Nat.succ_ne_zero]; omega)) only [go_sem, reduceIte, reduceCtorEq, Nat.succ_ne_zero, not_false_eq_true, decide_true, decide_false, Nat.reduceAdd, Nat.reduceMul, Nat.reduceEqDiff, Nat.reduceLeDiff, hup, hsh, hdn]
    refine AWP_draw_fast mo (by kernel_rfl) ?_
    simp -implicitDefEqProofs (maxSteps := 2000000) (disch := first | omega | (simp only [nx_new, nx_set, List.length_cons, List.length_nil, List.length_map, List.length_set, ne_eq, not_true_eq_false, not_false_eq_true, Nat.succ_ne_zero]; done) | (simp only [nx_new, nx_set, List.length_cons, List.length_nil, List.length_map, List.length_set, ne_eq, not_true_eq_false, not_false_eq_true, Nat.succ_ne_zero]; omega)) only [go_sem, reduceIte, reduceCtorEq, Nat.succ_ne_zero, not_false_eq_true, decide_true, decide_false, Nat.reduceAdd, Nat.reduceMul, Nat.reduceEqDiff, Nat.reduceLeDiff, h1, h2]
    refine hcall.mono ?_
    rintro _ G2 ⟨rfl, k2⟩
    have kg := k2.grows
    simp -implicitDefEqProofs (maxSteps := 2000000) (disch := first | omega | (simp only [nx_new, nx_set, List.length_cons, List.length_nil, List.length_map, List.length_set, ne_eq, not_true_eq_false, not_false_eq_true, Nat.succ_ne_zero]; done) | (simp only [nx_new, nx_set, List.length_cons, List.length_nil, List.length_map, List.length_set, ne_eq, not_true_eq_false, not_false_eq_true, Nat.succ_ne_zero]; omega)) only [go_sem, reduceIte, reduceCtorEq, Nat.succ_ne_zero, not_false_eq_true, decide_true, decide_false, Nat.reduceAdd, Nat.reduceMul, Nat.reduceEqDiff, Nat.reduceLeDiff, kg]
    refine condS_split (fun hd => ?_) (fun hd => ?_)
    · have hge : key x ≤ key y := by simp only [Bool.not_eq_true'] at hd; have := of_decide_eq_false hd; omega
      simp -implicitDefEqProofs (maxSteps := 2000000) (disch := first | omega | (simp only [nx_new, nx_set, List.length_cons, List.length_nil, List.length_map, List.length_set, ne_eq, not_true_eq_false, not_false_eq_true, Nat.succ_ne_zero]; done) | (simp only [nx_new, nx_set, List.length_cons, List.length_nil, List.length_map, List.length_set, ne_eq, not_true_eq_false, not_false_eq_true, Nat.succ_ne_zero]; omega)) only [go_sem, reduceIte, reduceCtorEq, Nat.succ_ne_zero, not_false_eq_true, decide_true, decide_false, Nat.reduceAdd, Nat.reduceMul, Nat.reduceEqDiff, Nat.reduceLeDiff, hd]
      refine ⟨(h + 1, j, G2), ⟨hh2, hjA, (fun z h0 hz => ?_), hhi, hk.trans k2⟩, by simp only; omega, Weak.sub ?_⟩
      · simp only at hz; rw [Nat.add_sub_cancel, hAg] at hz; cases hz; exact hge
      · (simp -implicitDefEqProofs (disch := omega) only [Abs.Sub, get_cons_eq, get_cons_ne, and_self, Option.some.injEq, Value.int.injEq, Value.slice.injEq, true_and, and_true, Int.natCast_zero, Int.natCast_add, Int.natCast_one, List.length_nil]; try omega)
    · have hlt2 : key y < key x := by simp only [Bool.not_eq_false'] at hd; have := of_decide_eq_true hd; omega
      simp -implicitDefEqProofs (maxSteps := 2000000) (disch := first | omega | (simp only [nx_new, nx_set, List.length_cons, List.length_nil, List.length_map, List.length_set, ne_eq, not_true_eq_false, not_false_eq_true, Nat.succ_ne_zero]; done) | (simp only [nx_new, nx_set, List.length_cons, List.length_nil, List.length_map, List.length_set, ne_eq, not_true_eq_false, not_false_eq_true, Nat.succ_ne_zero]; omega)) only [go_sem, reduceIte, reduceCtorEq, Nat.succ_ne_zero, not_false_eq_true, decide_true, decide_false, Nat.reduceAdd, Nat.reduceMul, Nat.reduceEqDiff, Nat.reduceLeDiff, hd]
      refine ⟨(i, h, G2), ⟨hh1, by simp only; omega, hlo, (fun z hz => ?_), hk.trans k2⟩, by simp only; omega, Weak.sub ?_⟩
      · rw [hAg] at hz; cases hz; exact hlt2
      · (simp -implicitDefEqProofs (disch := omega) only [Abs.Sub, get_cons_eq, get_cons_ne, and_self, Option.some.injEq, Value.int.injEq, Value.slice.injEq, true_and, and_true, Int.natCast_zero, Int.natCast_add, Int.natCast_one, List.length_nil]; try omega)
  · obtain rfl : i = j := by omega
    simp -implicitDefEqProofs (maxSteps := 2000000) (disch := first | omega | (simp only [nx_new, nx_set, List.length_cons, List.length_nil, List.length_map, List.length_set, ne_eq, not_true_eq_false, not_false_eq_true, Nat.succ_ne_zero]; done) | (simp only [nx_new, nx_set, List.length_cons, List.length_nil, List.length_map, List.length_set, ne_eq, not_true_eq_false, not_false_eq_true, Nat.succ_ne_zero]; omega)) only [go_sem, reduceIte, reduceCtorEq, Nat.succ_ne_zero, not_false_eq_true, decide_true, decide_false, Nat.reduceAdd, Nat.reduceMul, Nat.reduceEqDiff, Nat.reduceLeDiff]
    have hAs : A.take i ++ A.drop i = A := List.take_append_drop _ _
    have hAl : (A.take i).length = i := by rw [List.length_take]; omega
    obtain ⟨g1, g2⟩ := part_last hAs hAl
    have hsort : (A.take i ++ y :: A.drop i).Pairwise (bf key) := insert_sorted (by rw [hAs]; exact hA) (fun x hx => by
      obtain ⟨h0, h1⟩ := (g1 x).1 hx
      exact bef_of_le (hlo x h0 h1) (hAB x (by obtain ⟨_, h⟩ := List.getElem?_eq_some_iff.1 h1; rw [← h]; exact List.getElem_mem _))) (fun x hx => .inl (hhi x ((g2 x).1 hx)))
    have hperm : (A.take i ++ y :: A.drop i).Perm (A ++ [y]) := by
      refine insert_perm.trans ?_
      rw [hAs]; exact (List.perm_append_singleton y A).symm
    generalize A.take i = A1 at *
    generalize A.drop i = A2 at *
    subst hAs
    rw [List.length_append] at hNl hA2 hjA ⊢
    refine AWP_loop (σ := Nat × Hp) (fun s => [(17, .int .i64 ((A1.length + A2.length - s.1 : Nat) : Int)), (14, .int .i64 i), (0, .slice (some ⟨q, 0, none⟩) N N)]) (fun s => s.2)
      (fun s => s.1 ≤ A2.length ∧ KX q H s.2 ∧ s.2.get q = .row (rw9 E (A1 ++ A2.take (A2.length - s.1) ++ y :: A2.drop (A2.length - s.1))) true 9) (fun s => A2.length - s.1) (0, G) ⟨Nat.zero_le _, (KX.refl q H).keeps hk, ?_⟩ (Weak.sub ?_) ?_
    rotate_left 1
    · (simp -implicitDefEqProofs (disch := omega) only [Abs.Sub, get_cons_eq, get_cons_ne, and_self, Option.some.injEq, Value.int.injEq, Value.slice.injEq, true_and, and_true, Int.natCast_zero, Int.natCast_add, Int.natCast_one, List.length_nil]; try omega)
    · rintro ⟨k, M⟩ ⟨hk2, hKX, hgM⟩
      simp only at hk2 hKX hgM ⊢
      refine AWP_of_awp ?_
      have hqM : q < M.next := Nat.lt_of_lt_of_le hqn hKX.1
      by_cases hlt3 : k < A2.length
      · have hkA : A2.length - (k + 1) < A2.length := by omega
        have es : A2.length - k = A2.length - (k + 1) + 1 := by omega
        have hd1 : A2.drop (A2.length - (k + 1)) = A2[A2.length - (k + 1)] :: A2.drop (A2.length - (k + 1) + 1) := List.drop_eq_getElem_cons hkA
        have hd2 : A2.take (A2.length - (k + 1) + 1) = A2.take (A2.length - (k + 1)) ++ [A2[A2.length - (k + 1)]] := List.take_succ_eq_append_getElem hkA
        rw [es, hd2] at hgM
        have hu : (A1 ++ A2.take (A2.length - (k + 1))).length = A1.length + (A2.length - (k + 1)) := by rw [List.length_append, List.length_take]; omega
        have hdl : (A2.drop (A2.length - (k + 1) + 1)).length = k := by rw [List.length_drop]; omega
        have e1 : A1 ++ (A2.take (A2.length - (k + 1)) ++ [A2[A2.length - (k + 1)]]) ++ y :: A2.drop (A2.length - (k + 1) + 1) = (A1 ++ A2.take (A2.length - (k + 1))) ++ A2[A2.length - (k + 1)] :: y :: A2.drop (A2.length - (k + 1) + 1) := by
          simp only [List.append_assoc, List.cons_append, List.nil_append]
        have hfin : A1 ++ A2.take (A2.length - (k + 1)) ++ y :: A2.drop (A2.length - (k + 1)) = (A1 ++ A2.take (A2.length - (k + 1))) ++ y :: A2[A2.length - (k + 1)] :: A2.drop (A2.length - (k + 1) + 1) := by
          rw [hd1]
        rw [e1] at hgM
        generalize A2[A2.length - (k + 1)] = x at *
        have hlen : (A1 ++ A2.take (A2.length - (k + 1)) ++ x :: y :: A2.drop (A2.length - (k + 1) + 1)).length = N := by
          rw [List.length_append, hu]; simp only [List.length_cons, hdl]; omega
        generalize hu0 : A1 ++ A2.take (A2.length - (k + 1)) = u at *
        generalize hw0 : A2.drop (A2.length - (k + 1) + 1) = w at *
        have hi1 : ((A1.length + A2.length - k : Nat) : Int).toNat = u.length + 1 := by omega
        have hi2 : (((A1.length + A2.length - k : Nat) : Int) - 1).toNat = u.length := by omega
        have h1 : aload M ⟨q, u.length * 9, none⟩ 9 = some (E x).cells := ld9 hqM hgM (get_app _ _ _ rfl)
        have h2 : aload M ⟨q, (u.length + 1) * 9, none⟩ 9 = some (E y).cells := ld9 hqM hgM (get_adj _ _ _ _ rfl)
        have hrl := rw9_len E (u ++ x :: y :: w)
        rw [hlen] at hrl
        have hlen2 := hlen
        rw [List.length_append, List.length_cons, List.length_cons] at hlen2
        have hsw : splice (splice (rw9 E (u ++ x :: y :: w)) ((u.length + 1) * 9) (E x).cells) (u.length * 9) (E y).cells = rw9 E (u ++ y :: x :: w) := by
          show splice (splice _ _ (enc E x)) _ (enc E y) = _
          rw [rw9, splice_flat (f := enc E) (s := 9) (fun _ => rfl) (by rw [hlen]; omega) x, splice_flat (f := enc E) (s := 9) (fun _ => rfl) (by rw [List.length_set, hlen]; omega) y, swap_adj' u _ x y rfl rfl]
          rfl
        have hsl := splice_length (cs := rw9 E (u ++ x :: y :: w)) (vs := (E x).cells) (o := (u.length + 1) * 9) (by rw [hrl]; simp only [Cal.cells, List.length_cons, List.length_nil]; omega)
        simp only [Cal.cells] at h1 h2 hsw hsl
        simp -implicitDefEqProofs (maxSteps := 2000000) (disch := first | omega | (simp only [nx_new, nx_set, List.length_cons, List.length_nil, List.length_map, List.length_set, ne_eq, not_true_eq_false, not_false_eq_true, Nat.succ_ne_zero]; done) | (simp only [nx_new, nx_set, List.length_cons, List.length_nil, List.length_map, List.length_set, ne_eq, not_true_eq_false, not_false_eq_true, Nat.succ_ne_zero]; omega)) only [go_sem, reduceIte, reduceCtorEq, Nat.succ_ne_zero, not_false_eq_true, decide_true, decide_false, Nat.reduceAdd, Nat.reduceMul, Nat.reduceEqDiff, Nat.reduceLeDiff]
        refine AWP_draw_fast mo (by kernel_rfl) ?_
        simp -implicitDefEqProofs (maxSteps := 2000000) (disch := first | omega | (simp only [nx_new, nx_set, List.length_cons, List.length_nil, List.length_map, List.length_set, ne_eq, not_true_eq_false, not_false_eq_true, Nat.succ_ne_zero]; done) | (simp only [nx_new, nx_set, List.length_cons, List.length_nil, List.length_map, List.length_set, ne_eq, not_true_eq_false, not_false_eq_true, Nat.succ_ne_zero]; omega)) only [go_sem, reduceIte, reduceCtorEq, Nat.succ_ne_zero, not_false_eq_true, decide_true, decide_false, Nat.reduceAdd, Nat.reduceMul, Nat.reduceEqDiff, Nat.reduceLeDiff, hi1, hi2, h1, h2, hgM]
        rw [hsw]
        refine ⟨(k + 1, M.set q (.row (rw9 E (u ++ y :: x :: w)) true 9)), ⟨hlt3, hKX.set _, by simp only [hu0, hfin]; exact Hp.get_set_same _ _ _ _ rfl⟩, by simp only; omega, Weak.sub ?_⟩
        (simp -implicitDefEqProofs (disch := omega) only [Abs.Sub, get_cons_eq, get_cons_ne, and_self, Option.some.injEq, Value.int.injEq, Value.slice.injEq, true_and, and_true, Int.natCast_zero, Int.natCast_add, Int.natCast_one, List.length_nil]; try omega)
      · obtain rfl : k = A2.length := by omega
        simp -implicitDefEqProofs (maxSteps := 2000000) (disch := first | omega | (simp only [nx_new, nx_set, List.length_cons, List.length_nil, List.length_map, List.length_set, ne_eq, not_true_eq_false, not_false_eq_true, Nat.succ_ne_zero]; done) | (simp only [nx_new, nx_set, List.length_cons, List.length_nil, List.length_map, List.length_set, ne_eq, not_true_eq_false, not_false_eq_true, Nat.succ_ne_zero]; omega)) only [go_sem, reduceIte, reduceCtorEq, Nat.succ_ne_zero, not_false_eq_true, decide_true, decide_false, Nat.reduceAdd, Nat.reduceMul, Nat.reduceEqDiff, Nat.reduceLeDiff]
        refine ret_r (v := .tuple #[]) (ares0 ret42) ⟨rfl, A1 ++ y :: A2, hperm, hsort, hKX, ?_⟩
        rw [hgM, Nat.sub_self]
        simp only [List.take_zero, List.drop_zero, List.append_nil]
    · simp only [Nat.sub_zero, List.take_length, List.drop_length]
      exact hgG
end Go.Proofs.Ytejpfdhlpcgfkaa
