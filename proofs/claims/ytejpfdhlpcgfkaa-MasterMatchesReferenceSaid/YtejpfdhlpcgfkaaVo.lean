/- The reference's Median and Latest, walked. -/
import Derived.Test.YtejpfdhlpcgfkaaVl
import Derived.Test.YtejpfdhlpcgfkaaVn
set_option linter.unusedVariables false
set_option linter.unusedSimpArgs false
set_option linter.unusedSectionVars false
namespace Go.Proofs.Ytejpfdhlpcgfkaa
open Go.Abs Go.Sm
set_option maxHeartbeats 8000000
set_option maxRecDepth 100000
def cnt (l : List Int) (i k : Nat) (x : Int) : Nat := (l.take k).countP (fun y => decide (y < x)) + (l.take (min k i)).count x
theorem cnt_succ {l : List Int} {i k : Nat} {x y : Int} (hk : k < l.length) (hy : l[k] = y) : cnt l i (k + 1) x = cnt l i k x + if y < x ∨ (y = x ∧ k < i) then 1 else 0 := by
  have htk := List.take_succ_eq_append_getElem hk
  rw [hy] at htk
  rw [cnt, cnt]
  by_cases h1 : k < i
  · rw [show min (k + 1) i = k + 1 by omega, show min k i = k by omega, htk, List.countP_append, List.count_append]
    simp only [List.countP_cons, List.countP_nil, List.count_cons, List.count_nil, decide_eq_true_eq, beq_iff_eq, Nat.zero_add]
    by_cases h2 : y < x
    · rw [if_pos h2, if_neg (by omega), if_pos (.inl h2)]; omega
    · by_cases h3 : y = x
      · rw [if_neg h2, if_pos h3, if_pos (.inr ⟨h3, h1⟩)]; omega
      · rw [if_neg h2, if_neg h3, if_neg (by omega)]; omega
  · rw [show min (k + 1) i = i by omega, show min k i = i by omega, htk, List.countP_append]
    simp only [List.countP_cons, List.countP_nil, decide_eq_true_eq, Nat.zero_add]
    by_cases h2 : y < x
    · rw [if_pos h2, if_pos (.inl h2)]; omega
    · rw [if_neg h2, if_neg (by omega)]; omega
theorem cnt_end {l : List Int} {i : Nat} {x : Int} (hi : i < l.length) : cnt l i l.length x = rank l i x := by
  rw [cnt, rank, List.take_of_length_le (Nat.le_refl _), show min l.length i = i by omega]
theorem cnt_zero (l : List Int) (i : Nat) (x : Int) : cnt l i 0 x = 0 := by simp [cnt]
theorem cnt_le {l : List Int} {i k : Nat} {x : Int} (hk : k ≤ l.length) : cnt l i k x ≤ k := by
  induction k with
  | zero => rw [cnt_zero]; exact Nat.le_refl _
  | succ k ih =>
    have := ih (by omega)
    rw [cnt_succ (show k < l.length by omega) rfl]
    split <;> omega
theorem n14 : Try.f14.ntmps = 62 := rfl
theorem ret14 : Try.f14.results = #[.tmp 2, .tmp 3] := rfl
theorem refmed_spec (H : Hp) (a : Option Addr) (l : List Int) (hl : l.length ≤ 1000000) (he : Elems H a 1 (l.map ic)) :
    ACalls Try.prog 14 [.slice a l.length l.length] H (fun v H' => v = .tuple #[.int .i64 (medV l), .int .i64 (medE l)] ∧ H' = H) := by
  refine ACalls_enter Try.func14 (by kernel_rfl) rfl (by kernel_rfl) (by simp [n14]) fun hw hr => AWP_of_awp ?_
  simp -implicitDefEqProofs (maxSteps := 2000000) (disch := first | omega | (simp only [nx_new, nx_set, List.length_cons, List.length_nil, List.length_map, List.length_set, ne_eq, not_true_eq_false, not_false_eq_true, Nat.succ_ne_zero]; done) | (simp only [nx_new, nx_set, List.length_cons, List.length_nil, List.length_map, List.length_set, ne_eq, not_true_eq_false, not_false_eq_true, Nat.succ_ne_zero]; omega)) only [go_sem, reduceIte, reduceCtorEq, Nat.succ_ne_zero, not_false_eq_true, decide_true, decide_false, Nat.reduceAdd, Nat.reduceMul, Nat.reduceEqDiff, Nat.reduceLeDiff]
  refine condS_split (fun hc => ?_) (fun hc => ?_)
  · have h1 : 1000 < l.length := by have := of_decide_eq_true hc; omega
    simp -implicitDefEqProofs (maxSteps := 2000000) (disch := first | omega | (simp only [nx_new, nx_set, List.length_cons, List.length_nil, List.length_map, List.length_set, ne_eq, not_true_eq_false, not_false_eq_true, Nat.succ_ne_zero]; done) | (simp only [nx_new, nx_set, List.length_cons, List.length_nil, List.length_map, List.length_set, ne_eq, not_true_eq_false, not_false_eq_true, Nat.succ_ne_zero]; omega)) only [go_sem, reduceIte, reduceCtorEq, Nat.succ_ne_zero, not_false_eq_true, decide_true, decide_false, Nat.reduceAdd, Nat.reduceMul, Nat.reduceEqDiff, Nat.reduceLeDiff, hc]
    exact ret_r (v := .tuple #[.int .i64 0, .int .i64 2]) (by rw [ares_tmp_tmp ret14]; rfl) ⟨by simp [medV, medE, h1], rfl⟩
  have h1 : ¬1000 < l.length := by have := of_decide_eq_false hc; omega
  simp -implicitDefEqProofs (maxSteps := 2000000) (disch := first | omega | (simp only [nx_new, nx_set, List.length_cons, List.length_nil, List.length_map, List.length_set, ne_eq, not_true_eq_false, not_false_eq_true, Nat.succ_ne_zero]; done) | (simp only [nx_new, nx_set, List.length_cons, List.length_nil, List.length_map, List.length_set, ne_eq, not_true_eq_false, not_false_eq_true, Nat.succ_ne_zero]; omega)) only [go_sem, reduceIte, reduceCtorEq, Nat.succ_ne_zero, not_false_eq_true, decide_true, decide_false, Nat.reduceAdd, Nat.reduceMul, Nat.reduceEqDiff, Nat.reduceLeDiff, hc]
  refine condS_split (fun hz => ?_) (fun hz => ?_)
  · have h0 : l.length = 0 := by simpa using hz
    simp -implicitDefEqProofs (maxSteps := 2000000) (disch := first | omega | (simp only [nx_new, nx_set, List.length_cons, List.length_nil, List.length_map, List.length_set, ne_eq, not_true_eq_false, not_false_eq_true, Nat.succ_ne_zero]; done) | (simp only [nx_new, nx_set, List.length_cons, List.length_nil, List.length_map, List.length_set, ne_eq, not_true_eq_false, not_false_eq_true, Nat.succ_ne_zero]; omega)) only [go_sem, reduceIte, reduceCtorEq, Nat.succ_ne_zero, not_false_eq_true, decide_true, decide_false, Nat.reduceAdd, Nat.reduceMul, Nat.reduceEqDiff, Nat.reduceLeDiff, hz]
    exact ret_r (v := .tuple #[.int .i64 0, .int .i64 10]) (by rw [ares_tmp_tmp ret14]; rfl) ⟨by simp [medV, medE, h0], rfl⟩
  have h0 : l.length ≠ 0 := by simpa using hz
  have hidx : IntKind.i64.wrap (((l.length : Int) - 1).tdiv 2) = (((l.length - 1) / 2 : Nat) : Int) := by
    have e : ((l.length : Int) - 1).tdiv 2 = (((l.length - 1) / 2 : Nat) : Int) := by
      rw [show (l.length : Int) - 1 = ((l.length - 1 : Nat) : Int) by omega]
      exact (Int.ofNat_tdiv _ _).symm
    rw [e]
    exact wrap_i64 (by omega) (by omega)
  simp -implicitDefEqProofs (maxSteps := 2000000) (disch := first | omega | (simp only [nx_new, nx_set, List.length_cons, List.length_nil, List.length_map, List.length_set, ne_eq, not_true_eq_false, not_false_eq_true, Nat.succ_ne_zero]; done) | (simp only [nx_new, nx_set, List.length_cons, List.length_nil, List.length_map, List.length_set, ne_eq, not_true_eq_false, not_false_eq_true, Nat.succ_ne_zero]; omega)) only [go_sem, reduceIte, reduceCtorEq, Nat.succ_ne_zero, not_false_eq_true, decide_true, decide_false, Nat.reduceAdd, Nat.reduceMul, Nat.reduceEqDiff, Nat.reduceLeDiff, hz]
  refine AWP_loop (σ := Nat) (fun i => [(4, .int .i64 i), (0, .slice a l.length l.length)]) (fun _ => H) (fun i => i ≤ l.length ∧ ∀ (j : Nat) (h : j < l.length), j < i → rank l j l[j] ≠ (l.length - 1) / 2) (fun i => l.length - i) 0 ⟨Nat.zero_le _, fun j _ h => by omega⟩ (Weak.sub ?_) ?_
  · (simp -implicitDefEqProofs (disch := omega) only [Abs.Sub, get_cons_eq, get_cons_ne, and_self, Option.some.injEq, Value.int.injEq, Value.slice.injEq, true_and, and_true, Int.natCast_zero, Int.natCast_add, Int.natCast_one, List.length_nil]; try omega)
  · rintro i ⟨hi, hno⟩
    refine AWP_of_awp ?_
    by_cases hlt : i < l.length
    · obtain ⟨b, o, rfl, hload⟩ := elem1 he i hlt
      have hce := fun x => @cnt_end l i x hlt
      have hrm := fun h => rank_med hlt h
      have hnx := fun (h : rank l i l[i] ≠ (l.length - 1) / 2) (j : Nat) (hj : j < l.length) (hji : j < i + 1) => show rank l j l[j] ≠ (l.length - 1) / 2 by
        rcases Nat.lt_or_ge j i with h3 | h3
        · exact hno j hj h3
        · obtain rfl : j = i := by omega
          exact h
      generalize l[i] = x at *
      simp -implicitDefEqProofs (maxSteps := 2000000) (disch := first | omega | (simp only [nx_new, nx_set, List.length_cons, List.length_nil, List.length_map, List.length_set, ne_eq, not_true_eq_false, not_false_eq_true, Nat.succ_ne_zero]; done) | (simp only [nx_new, nx_set, List.length_cons, List.length_nil, List.length_map, List.length_set, ne_eq, not_true_eq_false, not_false_eq_true, Nat.succ_ne_zero]; omega)) only [go_sem, reduceIte, reduceCtorEq, Nat.succ_ne_zero, not_false_eq_true, decide_true, decide_false, Nat.reduceAdd, Nat.reduceMul, Nat.reduceEqDiff, Nat.reduceLeDiff]
      refine AWP_loop (σ := Nat) (fun k => [(6, .int .i64 k), (5, .int .i64 (cnt l i k x)), (4, .int .i64 i), (0, .slice (some ⟨b, o, none⟩) l.length l.length)]) (fun _ => H) (fun k => k ≤ l.length) (fun k => l.length - k) 0 (Nat.zero_le _) (Weak.sub ?_) ?_
      · rw [cnt_zero]
        (simp -implicitDefEqProofs (disch := omega) only [Abs.Sub, get_cons_eq, get_cons_ne, and_self, Option.some.injEq, Value.int.injEq, Value.slice.injEq, true_and, and_true, Int.natCast_zero, Int.natCast_add, Int.natCast_one, List.length_nil]; try omega)
      · intro k hk
        refine AWP_of_awp ?_
        have hcl := @cnt_le l i k x hk
        by_cases hkt : k < l.length
        · obtain ⟨b2, o2, e2, hload2⟩ := elem1 he k hkt
          cases e2
          have hcs := @cnt_succ l i k x l[k] hkt rfl
          generalize l[k] = y at *
          simp -implicitDefEqProofs (maxSteps := 2000000) (disch := first | omega | (simp only [nx_new, nx_set, List.length_cons, List.length_nil, List.length_map, List.length_set, ne_eq, not_true_eq_false, not_false_eq_true, Nat.succ_ne_zero]; done) | (simp only [nx_new, nx_set, List.length_cons, List.length_nil, List.length_map, List.length_set, ne_eq, not_true_eq_false, not_false_eq_true, Nat.succ_ne_zero]; omega)) only [go_sem, reduceIte, reduceCtorEq, Nat.succ_ne_zero, not_false_eq_true, decide_true, decide_false, Nat.reduceAdd, Nat.reduceMul, Nat.reduceEqDiff, Nat.reduceLeDiff]
          refine AWP_draw_fast mo (by kernel_rfl) ?_
          by_cases c1 : y < x
          · rw [if_pos (.inl c1)] at hcs
            have d1 : decide (y < x) = true := decide_eq_true c1
            simp -implicitDefEqProofs (maxSteps := 2000000) (disch := first | omega | (simp only [nx_new, nx_set, List.length_cons, List.length_nil, List.length_map, List.length_set, ne_eq, not_true_eq_false, not_false_eq_true, Nat.succ_ne_zero]; done) | (simp only [nx_new, nx_set, List.length_cons, List.length_nil, List.length_map, List.length_set, ne_eq, not_true_eq_false, not_false_eq_true, Nat.succ_ne_zero]; omega)) only [go_sem, reduceIte, reduceCtorEq, Nat.succ_ne_zero, not_false_eq_true, decide_true, decide_false, Nat.reduceAdd, Nat.reduceMul, Nat.reduceEqDiff, Nat.reduceLeDiff, hload, hload2, d1]
            exact ⟨k + 1, hkt, by omega, Weak.sub (by rw [hcs]; (simp -implicitDefEqProofs (disch := omega) only [Abs.Sub, get_cons_eq, get_cons_ne, and_self, Option.some.injEq, Value.int.injEq, Value.slice.injEq, true_and, and_true, Int.natCast_zero, Int.natCast_add, Int.natCast_one, List.length_nil]; try omega))⟩
          · have d1 : decide (y < x) = false := decide_eq_false c1
            by_cases c2 : y = x
            · have d2 : (y == x) = true := beq_iff_eq.2 c2
              by_cases c3 : k < i
              · rw [if_pos (.inr ⟨c2, c3⟩)] at hcs
                simp -implicitDefEqProofs (maxSteps := 2000000) (disch := first | omega | (simp only [nx_new, nx_set, List.length_cons, List.length_nil, List.length_map, List.length_set, ne_eq, not_true_eq_false, not_false_eq_true, Nat.succ_ne_zero]; done) | (simp only [nx_new, nx_set, List.length_cons, List.length_nil, List.length_map, List.length_set, ne_eq, not_true_eq_false, not_false_eq_true, Nat.succ_ne_zero]; omega)) only [go_sem, reduceIte, reduceCtorEq, Nat.succ_ne_zero, not_false_eq_true, decide_true, decide_false, Nat.reduceAdd, Nat.reduceMul, Nat.reduceEqDiff, Nat.reduceLeDiff, hload, hload2, d1, d2]
                exact ⟨k + 1, hkt, by omega, Weak.sub (by rw [hcs]; (simp -implicitDefEqProofs (disch := omega) only [Abs.Sub, get_cons_eq, get_cons_ne, and_self, Option.some.injEq, Value.int.injEq, Value.slice.injEq, true_and, and_true, Int.natCast_zero, Int.natCast_add, Int.natCast_one, List.length_nil]; try omega))⟩
              · rw [if_neg (by omega)] at hcs
                simp -implicitDefEqProofs (maxSteps := 2000000) (disch := first | omega | (simp only [nx_new, nx_set, List.length_cons, List.length_nil, List.length_map, List.length_set, ne_eq, not_true_eq_false, not_false_eq_true, Nat.succ_ne_zero]; done) | (simp only [nx_new, nx_set, List.length_cons, List.length_nil, List.length_map, List.length_set, ne_eq, not_true_eq_false, not_false_eq_true, Nat.succ_ne_zero]; omega)) only [go_sem, reduceIte, reduceCtorEq, Nat.succ_ne_zero, not_false_eq_true, decide_true, decide_false, Nat.reduceAdd, Nat.reduceMul, Nat.reduceEqDiff, Nat.reduceLeDiff, hload, hload2, d1, d2]
                exact ⟨k + 1, hkt, by omega, Weak.sub (by rw [hcs]; (simp -implicitDefEqProofs (disch := omega) only [Abs.Sub, get_cons_eq, get_cons_ne, and_self, Option.some.injEq, Value.int.injEq, Value.slice.injEq, true_and, and_true, Int.natCast_zero, Int.natCast_add, Int.natCast_one, List.length_nil]; try omega))⟩
            · have d2 : (y == x) = false := beq_eq_false_iff_ne.2 c2
              rw [if_neg (by omega)] at hcs
              simp -implicitDefEqProofs (maxSteps := 2000000) (disch := first | omega | (simp only [nx_new, nx_set, List.length_cons, List.length_nil, List.length_map, List.length_set, ne_eq, not_true_eq_false, not_false_eq_true, Nat.succ_ne_zero]; done) | (simp only [nx_new, nx_set, List.length_cons, List.length_nil, List.length_map, List.length_set, ne_eq, not_true_eq_false, not_false_eq_true, Nat.succ_ne_zero]; omega)) only [go_sem, reduceIte, reduceCtorEq, Nat.succ_ne_zero, not_false_eq_true, decide_true, decide_false, Nat.reduceAdd, Nat.reduceMul, Nat.reduceEqDiff, Nat.reduceLeDiff, hload, hload2, d1, d2]
              exact ⟨k + 1, hkt, by omega, Weak.sub (by rw [hcs]; (simp -implicitDefEqProofs (disch := omega) only [Abs.Sub, get_cons_eq, get_cons_ne, and_self, Option.some.injEq, Value.int.injEq, Value.slice.injEq, true_and, and_true, Int.natCast_zero, Int.natCast_add, Int.natCast_one, List.length_nil]; try omega))⟩
        · obtain rfl : k = l.length := by omega
          rw [hce] at hcl ⊢
          by_cases hrk : rank l i x = (l.length - 1) / 2
          · have hx := hrm hrk
            simp -implicitDefEqProofs (maxSteps := 2000000) (disch := first | omega | (simp only [nx_new, nx_set, List.length_cons, List.length_nil, List.length_map, List.length_set, ne_eq, not_true_eq_false, not_false_eq_true, Nat.succ_ne_zero]; done) | (simp only [nx_new, nx_set, List.length_cons, List.length_nil, List.length_map, List.length_set, ne_eq, not_true_eq_false, not_false_eq_true, Nat.succ_ne_zero]; omega)) only [go_sem, reduceIte, reduceCtorEq, Nat.succ_ne_zero, not_false_eq_true, decide_true, decide_false, Nat.reduceAdd, Nat.reduceMul, Nat.reduceEqDiff, Nat.reduceLeDiff, hidx, hload]
            refine ret_r (v := .tuple #[.int .i64 x, .int .i64 0]) (by rw [ares_tmp_tmp ret14]; rfl) ⟨?_, rfl⟩
            rw [medV, medE, if_neg h1, if_neg h0, if_neg h1, if_neg h0, hx]
          · simp -implicitDefEqProofs (maxSteps := 2000000) (disch := first | omega | (simp only [nx_new, nx_set, List.length_cons, List.length_nil, List.length_map, List.length_set, ne_eq, not_true_eq_false, not_false_eq_true, Nat.succ_ne_zero]; done) | (simp only [nx_new, nx_set, List.length_cons, List.length_nil, List.length_map, List.length_set, ne_eq, not_true_eq_false, not_false_eq_true, Nat.succ_ne_zero]; omega)) only [go_sem, reduceIte, reduceCtorEq, Nat.succ_ne_zero, not_false_eq_true, decide_true, decide_false, Nat.reduceAdd, Nat.reduceMul, Nat.reduceEqDiff, Nat.reduceLeDiff, hidx]
            exact ⟨i + 1, ⟨hlt, hnx hrk⟩, by omega, Weak.sub (by (simp -implicitDefEqProofs (disch := omega) only [Abs.Sub, get_cons_eq, get_cons_ne, and_self, Option.some.injEq, Value.int.injEq, Value.slice.injEq, true_and, and_true, Int.natCast_zero, Int.natCast_add, Int.natCast_one, List.length_nil]; try omega))⟩
    · obtain ⟨j, hj, hr2⟩ := rank_exists h0
      exact absurd hr2 (hno j hj (by omega))
def Cal.pc (c : Cal) : List Value := [.int .i64 c.v0, .int .i64 c.v1, .int .i64 c.v2, .int .i64 c.v3]
def bools (n : Nat) (T : List Nat) : List Value := (List.range n).map fun i => .bool (decide (i ∈ T))
theorem bools_get {n i : Nat} {T : List Nat} (h : i < n) : (bools n T)[i]? = some (.bool (decide (i ∈ T))) := by
  rw [bools, List.getElem?_map, List.getElem?_range h]; rfl
theorem bools_set {n j : Nat} {T : List Nat} (h : j < n) : (bools n T).set j (.bool true) = bools n (T ++ [j]) := by
  apply List.ext_getElem
  · simp [bools]
  · intro i h1 h2
    have hi : i < n := by simpa [bools] using h2
    simp only [bools, List.getElem_set, List.getElem_map, List.getElem_range, List.mem_append, List.mem_singleton]
    by_cases e : j = i
    · rw [if_pos e, decide_eq_true (.inr e.symm)]
    · rw [if_neg e]
      congr 1
      exact decide_eq_decide.2 ⟨.inl, fun h => h.resolve_right fun h2 => e h2.symm⟩
theorem make_bools (H : Hp) {n : Nat} (hn : n ≤ 1000000) : amakeSlice Try.prog H 64 (.int .i64 n) (.int .i64 n) = some (.slice (some ⟨H.next, 0, none⟩) n n, H.new (.row (bools n []) true 1)) := by
  have e : zrow [.bool false] n = bools n [] := by
    have e2 : bools n [] = List.replicate n (.bool false) := by
      simp only [bools, List.not_mem_nil, decide_false]
      rw [List.map_const', List.length_range]
    rw [zrow, e2]
    clear e2 hn
    induction n with
    | zero => rfl
    | succ n ih => rw [List.replicate_succ, List.flatten_cons, ih, List.replicate_succ]; rfl
  simp only [amakeSlice, u64, ts4, tb4, tz4, Option.bind_some]
  rw [if_pos ⟨trivial, by omega, by omega, by omega, rfl, rfl⟩]
  have : (Value.bool false).cells.toList = [.bool false] := rfl
  rw [this, Int.toNat_natCast, e]
def pcs (l : List Cal) (T : List Nat) : List (List Value) := T.map fun i => (lat l i).pc
theorem pcs_len (l : List Cal) (T : List Nat) : ∀ x, x ∈ pcs l T → x.length = 4 := by
  intro x hx
  obtain ⟨c, _, rfl⟩ := List.mem_map.1 hx
  rfl
/-- The best one of the first k that are not taken. -/
def bestI (l : List Cal) (w : Want) (T : List Nat) (k : Nat) (b : Int) : Prop :=
  (b = -1 ∧ ∀ i, i < k → ¬(w.app (lat l i) = true ∧ i ∉ T)) ∨ ∃ j : Nat, b = j ∧ j < k ∧ w.app (lat l j) = true ∧ j ∉ T ∧ ∀ i, i < k → w.app (lat l i) = true ∧ i ∉ T → i = j ∨ bfL l j i
theorem best_skip {l : List Cal} {w : Want} {T : List Nat} {k : Nat} {b : Int} (h : bestI l w T k b) (hn : ¬(w.app (lat l k) = true ∧ k ∉ T)) : bestI l w T (k + 1) b := by
  rcases h with ⟨h1, h2⟩ | ⟨j, h1, h2, h3, h4, h5⟩
  · refine .inl ⟨h1, fun i hi => ?_⟩
    rcases Nat.lt_or_ge i k with h | h
    · exact h2 i h
    · obtain rfl : i = k := by omega
      exact hn
  · refine .inr ⟨j, h1, by omega, h3, h4, fun i hi hc => ?_⟩
    rcases Nat.lt_or_ge i k with h | h
    · exact h5 i h hc
    · obtain rfl : i = k := by omega
      exact absurd hc hn
theorem best_first {l : List Cal} {w : Want} {T : List Nat} {k : Nat} (h : bestI l w T k (-1)) (h1 : w.app (lat l k) = true) (h2 : k ∉ T) : bestI l w T (k + 1) k := by
  rcases h with ⟨_, h⟩ | ⟨j, hj, _⟩
  · refine .inr ⟨k, rfl, by omega, h1, h2, fun i hi hc => ?_⟩
    rcases Nat.lt_or_ge i k with h3 | h3
    · exact absurd hc (h i h3)
    · exact .inl (by omega)
  · omega
theorem best_new {l : List Cal} {w : Want} {T : List Nat} {k j : Nat} (h : bestI l w T k j) (h1 : w.app (lat l k) = true) (h2 : k ∉ T) (hat : (lat l j).at_ ≤ (lat l k).at_) : bestI l w T (k + 1) k := by
  rcases h with ⟨h, _⟩ | ⟨j', hj, hjk, _, _, h5⟩
  · omega
  · obtain rfl : j = j' := by omega
    have hb : bfL l k j := by simp only [bfL]; omega
    refine .inr ⟨k, rfl, by omega, h1, h2, fun i hi hc => ?_⟩
    rcases Nat.lt_or_ge i k with h3 | h3
    · rcases h5 i h3 hc with rfl | h6
      · exact .inr hb
      · exact .inr (bfL_trans hb h6)
    · exact .inl (by omega)
theorem best_old {l : List Cal} {w : Want} {T : List Nat} {k j : Nat} (h : bestI l w T k j) (hat : (lat l k).at_ < (lat l j).at_) : bestI l w T (k + 1) j := by
  rcases h with ⟨h, _⟩ | ⟨j', hj, hjk, h3, h4, h5⟩
  · omega
  · obtain rfl : j = j' := by omega
    refine .inr ⟨j, rfl, by omega, h3, h4, fun i hi hc => ?_⟩
    rcases Nat.lt_or_ge i k with h6 | h6
    · exact h5 i h6 hc
    · obtain rfl : i = k := by omega
      exact .inr (.inl hat)
end Go.Proofs.Ytejpfdhlpcgfkaa
