/- Stable sorting of a row of whole numbers: exchanging ranges, rotating. -/
import Derived.Test.YtjgdmjoafpbnaaaAbsV
import Derived.Test.YtjgdmjoafpbnaaaAbsW
import Derived.Test.YtjgdmjoafpbnaaaFacts
set_option linter.unusedVariables false
set_option linter.unusedSimpArgs false
set_option linter.unusedSectionVars false
namespace Go.Proofs.Ytjgdmjoafpbnaaa
open Go.Abs Go.Sm
set_option maxHeartbeats 8000000
set_option maxRecDepth 100000

def iv (n : Nat) : Value := .int .i64 n
theorem iv_flat (n : Nat) : refs 0 (iv n) = true := rfl
theorem mo : Try.prog.follows .mixedOrders = true := by kernel_rfl
theorem ares0 {P : Program} {fn : Func} {env : Env} {H : Hp} (h : fn.results = #[]) : ares P fn env H = some (.tuple #[]) := by simp [ares, h]
theorem set_self {H : Hp} {q : Nat} {b : Blk} (h : H.get q = b) : H.set q b = H := by
  cases H
  simp only [Hp.set, Hp.mk.injEq, true_and]
  funext j
  split
  · rename_i e; subst e; exact h.symm
  · rfl
theorem set_two {H : Hp} {q : Nat} {b c : Blk} : (H.set q b).set q c = H.set q c := set_set_same _ _ _ _ rfl
theorem ld_iv {H : Hp} {q k : Nat} {xs : List Nat} (hg : H.get q = .row (xs.map iv) true k) {i x : Nat} (hi : xs[i]? = some x) : load1 H ⟨q, i, none⟩ = some (.int .i64 x) := by
  rw [l1_row _ _ _ _ _ hg, List.getElem?_map, hi]; rfl
theorem set_iv (xs : List Nat) (i x : Nat) : (xs.map iv).set i (.int .i64 x) = (xs.set i x).map iv := by
  rw [List.map_set]; rfl

theorem n51 : Try.f51.ntmps = 38 := rfl
theorem ret51 : Try.f51.results = #[] := rfl
/-- What has been exchanged after k rounds. -/
def swR (p s t s' r : List Nat) (k : Nat) : List Nat := p ++ (s'.take k ++ s.drop k) ++ t ++ (s.take k ++ s'.drop k) ++ r
theorem swR_here {p s t s' r : List Nat} {k : Nat} (h : k < s.length) (h' : k < s'.length) : swR p s t s' r k = (p ++ s'.take k) ++ s[k] :: ((s.drop (k + 1) ++ t ++ s.take k) ++ s'[k] :: (s'.drop (k + 1) ++ r)) := by
  unfold swR
  rw [List.drop_eq_getElem_cons h, List.drop_eq_getElem_cons h']
  simp only [List.append_assoc, List.cons_append, List.nil_append]
theorem swR_next {p s t s' r : List Nat} {k : Nat} (h : k < s.length) (h' : k < s'.length) : swR p s t s' r (k + 1) = (p ++ s'.take k) ++ s'[k] :: ((s.drop (k + 1) ++ t ++ s.take k) ++ s[k] :: (s'.drop (k + 1) ++ r)) := by
  unfold swR
  rw [List.take_succ_eq_append_getElem h, List.take_succ_eq_append_getElem h']
  simp only [List.append_assoc, List.cons_append, List.nil_append]
theorem swapRange_spec {H : Hp} {q : Nat} {fv : Value} {N : Nat} {a b c : Int} (p s t s' r : List Nat) (hs : s.length = s'.length) (hN : (p ++ s ++ t ++ s' ++ r).length = N) (hb : N ≤ 1000000) (ha : a = p.length) (hb2 : b = ((p.length + s.length + t.length : Nat) : Int)) (hc : c = s.length)
    (hg : H.get q = .row ((p ++ s ++ t ++ s' ++ r).map iv) true 1) :
    ACalls Try.prog 51 [.slice (some ⟨q, 0, none⟩) N N, .int .i64 a, .int .i64 b, .int .i64 c, fv] H (fun v H' => v = .tuple #[] ∧ H' = H.set q (.row ((p ++ s' ++ t ++ s ++ r).map iv) true 1)) := by
  subst ha; subst hb2; subst hc
  refine ACalls_enter Try.func51 (by kernel_rfl) rfl (by kernel_rfl) (by simp [n51]) fun hw hr => AWP_of_awp ?_
  simp -implicitDefEqProofs (maxSteps := 2000000) (disch := first | omega | (simp only [nx_new, nx_set, List.length_cons, List.length_nil, List.length_map, List.length_set, ne_eq, not_true_eq_false, not_false_eq_true, Nat.succ_ne_zero]; done) | (simp only [nx_new, nx_set, List.length_cons, List.length_nil, List.length_map, List.length_set, ne_eq, not_true_eq_false, not_false_eq_true, Nat.succ_ne_zero]; omega)) only [go_sem, reduceIte, reduceCtorEq, Nat.succ_ne_zero, not_false_eq_true, decide_true, decide_false, Nat.reduceAdd, Nat.reduceMul, Nat.reduceEqDiff, Nat.reduceLeDiff]
  have hNl : p.length + s.length + t.length + s.length + r.length = N := by rw [← hN]; simp only [List.length_append]; omega
  refine AWP_loop (σ := Nat × Hp) (fun k => [(10, .int .i64 k.1), (0, .slice (some ⟨q, 0, none⟩) N N), (1, .int .i64 p.length), (2, .int .i64 ((p.length + s.length + t.length : Nat) : Int)), (3, .int .i64 s.length)]) (fun k => k.2) (fun k => k.1 ≤ s.length ∧ k.2 = H.set q (.row ((swR p s t s' r k.1).map iv) true 1)) (fun k => s.length - k.1) (0, H) ⟨Nat.zero_le _, ?_⟩ (Weak.sub ?_) ?_
  rotate_left 1
  · simp -implicitDefEqProofs (disch := omega) only [Abs.Sub, get_cons_eq, get_cons_ne, and_self, Int.natCast_zero, Int.natCast_add, Int.natCast_one]
  · rintro ⟨k, G⟩ ⟨hk, hG⟩
    simp only at hk hG ⊢
    refine AWP_of_awp ?_
    have hgG : G.get q = .row ((swR p s t s' r k).map iv) true 1 := by rw [hG]; exact Hp.get_set_same _ _ _ _ rfl
    by_cases hlt : k < s.length
    · have hlt' : k < s'.length := by omega
      have e1 := swR_here (p := p) (t := t) (r := r) hlt hlt'
      have e2 := swR_next (p := p) (t := t) (r := r) hlt hlt'
      generalize s[k] = x at *
      generalize s'[k] = y at *
      have hu : (p ++ s'.take k).length = p.length + k := by rw [List.length_append, List.length_take]; omega
      have hv : (s.drop (k + 1) ++ t ++ s.take k).length = s.length - (k + 1) + t.length + k := by simp only [List.length_append, List.length_drop, List.length_take]; omega
      generalize p ++ s'.take k = u at *
      generalize s.drop (k + 1) ++ t ++ s.take k = v at *
      generalize s'.drop (k + 1) ++ r = w at *
      have hi1 : (((p.length : Int)) + k).toNat = p.length + k := by omega
      have hi2 : ((((p.length + s.length + t.length : Nat) : Int)) + k).toNat = p.length + s.length + t.length + k := by omega
      have h1 : load1 G ⟨q, p.length + k, none⟩ = some (.int .i64 x) := ld_iv hgG (by rw [e1]; exact get_app _ _ _ (by omega))
      have h2 : load1 G ⟨q, p.length + s.length + t.length + k, none⟩ = some (.int .i64 y) := ld_iv hgG (by rw [e1]; exact get_app2 _ _ _ _ _ (by omega))
      have hlen : (swR p s t s' r k).length = N := by
        unfold swR; simp only [List.length_append, List.length_take, List.length_drop]; omega
      simp -implicitDefEqProofs (maxSteps := 2000000) (disch := first | omega | (simp only [nx_new, nx_set, List.length_cons, List.length_nil, List.length_map, List.length_set, ne_eq, not_true_eq_false, not_false_eq_true, Nat.succ_ne_zero]; done) | (simp only [nx_new, nx_set, List.length_cons, List.length_nil, List.length_map, List.length_set, ne_eq, not_true_eq_false, not_false_eq_true, Nat.succ_ne_zero]; omega)) only [go_sem, reduceIte, reduceCtorEq, Nat.succ_ne_zero, not_false_eq_true, decide_true, decide_false, Nat.reduceAdd, Nat.reduceMul, Nat.reduceEqDiff, Nat.reduceLeDiff]
      refine AWP_draw_fast mo (by kernel_rfl) ?_
      simp -implicitDefEqProofs (maxSteps := 2000000) (disch := first | omega | (simp only [nx_new, nx_set, List.length_cons, List.length_nil, List.length_map, List.length_set, ne_eq, not_true_eq_false, not_false_eq_true, Nat.succ_ne_zero]; done) | (simp only [nx_new, nx_set, List.length_cons, List.length_nil, List.length_map, List.length_set, ne_eq, not_true_eq_false, not_false_eq_true, Nat.succ_ne_zero]; omega)) only [go_sem, reduceIte, reduceCtorEq, Nat.succ_ne_zero, not_false_eq_true, decide_true, decide_false, Nat.reduceAdd, Nat.reduceMul, Nat.reduceEqDiff, Nat.reduceLeDiff, hi1, hi2, h1, h2, hgG]
      have eG : G.set q (.row (((List.map iv (swR p s t s' r k)).set (p.length + k) (.int .i64 y)).set (p.length + s.length + t.length + k) (.int .i64 x)) true 1) = H.set q (.row ((swR p s t s' r (k + 1)).map iv) true 1) := by
        rw [set_iv, set_iv, e1, e2, swap_two u v w x y (by omega) (by omega), hG, set_two]
      rw [eG]
      refine ⟨(k + 1, _), ⟨hlt, rfl⟩, by simp only; omega, Weak.sub ?_⟩
      simp -implicitDefEqProofs (disch := omega) only [Abs.Sub, get_cons_eq, get_cons_ne, and_self, Int.natCast_zero, Int.natCast_add, Int.natCast_one]
    · have hke : k = s.length := by omega
      simp -implicitDefEqProofs (maxSteps := 2000000) (disch := first | omega | (simp only [nx_new, nx_set, List.length_cons, List.length_nil, List.length_map, List.length_set, ne_eq, not_true_eq_false, not_false_eq_true, Nat.succ_ne_zero]; done) | (simp only [nx_new, nx_set, List.length_cons, List.length_nil, List.length_map, List.length_set, ne_eq, not_true_eq_false, not_false_eq_true, Nat.succ_ne_zero]; omega)) only [go_sem, reduceIte, reduceCtorEq, Nat.succ_ne_zero, not_false_eq_true, decide_true, decide_false, Nat.reduceAdd, Nat.reduceMul, Nat.reduceEqDiff, Nat.reduceLeDiff]
      refine ret_n (v := .tuple #[]) (ares0 ret51) ⟨rfl, ?_⟩
      rw [hG]
      unfold swR
      rw [List.take_of_length_le (by omega), List.take_of_length_le (by omega), List.drop_eq_nil_of_le (by omega), List.drop_eq_nil_of_le (by omega)]
      simp
  · unfold swR
    simp only [List.take_zero, List.drop_zero, List.nil_append]
    exact (set_self hg).symm
end Go.Proofs.Ytjgdmjoafpbnaaa
