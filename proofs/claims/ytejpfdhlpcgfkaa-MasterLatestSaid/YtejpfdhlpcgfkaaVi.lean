/- MedianMiddle. -/
import Derived.Test.YtejpfdhlpcgfkaaVh
set_option linter.unusedVariables false
set_option linter.unusedSimpArgs false
set_option linter.unusedSectionVars false
namespace Go.Proofs.Ytejpfdhlpcgfkaa
open Go.Abs Go.Sm
set_option maxHeartbeats 8000000
set_option maxRecDepth 100000
theorem srt_sorted (l : List Int) : (srt l).Pairwise (· ≤ ·) := by
  have := List.pairwise_mergeSort (le := fun x y : Int => decide (x ≤ y)) (fun a b c h1 h2 => by simp at *; omega) (fun a b => by simp; omega) l
  exact this.imp fun h => by simpa using h
theorem srt_perm (l : List Int) : (srt l).Perm l := List.mergeSort_perm _ _
theorem srt_len (l : List Int) : (srt l).length = l.length := List.length_mergeSort _
theorem med_at {l : List Int} (h : l.length ≠ 0) : ∃ hk : (l.length - 1) / 2 < (srt l).length, med l = (srt l)[(l.length - 1) / 2] := by
  have hk : (l.length - 1) / 2 < (srt l).length := by rw [srt_len]; omega
  exact ⟨hk, by rw [med, List.getD_eq_getElem?_getD, List.getElem?_eq_getElem hk]; rfl⟩
theorem med_mem {l : List Int} (h : l.length ≠ 0) : med l ∈ l := by
  obtain ⟨hk, e⟩ := med_at h
  rw [e]
  exact (srt_perm l).mem_iff.1 (List.getElem_mem hk)
theorem low_count {l : List Int} (h : l.length ≠ 0) : l.length ≤ 2 * l.countP (fun x => decide (x ≤ med l)) := by
  obtain ⟨hk, e⟩ := med_at h
  have h1 : l.countP (fun x => decide (x ≤ med l)) = (srt l).countP (fun x => decide (x ≤ med l)) := ((srt_perm l).countP_eq _).symm
  have h2 : ((srt l).take ((l.length - 1) / 2 + 1)).countP (fun x => decide (x ≤ med l)) = ((srt l).take ((l.length - 1) / 2 + 1)).length := by
    rw [List.countP_eq_length]
    intro x hx
    obtain ⟨i, hi, rfl⟩ := List.getElem_of_mem hx
    rw [List.length_take] at hi
    rw [List.getElem_take, decide_eq_true_eq, e]
    rcases Nat.lt_or_ge i ((l.length - 1) / 2) with h3 | h3
    · exact List.pairwise_iff_getElem.1 (srt_sorted l) i _ (by omega) hk h3
    · have : i = (l.length - 1) / 2 := by omega
      subst this; exact Int.le_refl _
  have h3 := (List.take_sublist ((l.length - 1) / 2 + 1) (srt l)).countP_le (p := fun x => decide (x ≤ med l))
  rw [h2, List.length_take] at h3
  rw [h1]
  omega
theorem high_count {l : List Int} (h : l.length ≠ 0) : l.length ≤ 2 * l.countP (fun x => decide (med l ≤ x)) := by
  obtain ⟨hk, e⟩ := med_at h
  have hsl := srt_len l
  have h1 : l.countP (fun x => decide (med l ≤ x)) = (srt l).countP (fun x => decide (med l ≤ x)) := ((srt_perm l).countP_eq _).symm
  have h2 : ((srt l).drop ((l.length - 1) / 2)).countP (fun x => decide (med l ≤ x)) = ((srt l).drop ((l.length - 1) / 2)).length := by
    rw [List.countP_eq_length]
    intro x hx
    obtain ⟨i, hi, rfl⟩ := List.getElem_of_mem hx
    rw [List.length_drop] at hi
    rw [List.getElem_drop, decide_eq_true_eq, e]
    rcases Nat.eq_zero_or_pos i with h3 | h3
    · subst h3; exact Int.le_refl _
    · exact List.pairwise_iff_getElem.1 (srt_sorted l) _ _ hk (by omega) (by omega)
  have h3 := (List.drop_sublist ((l.length - 1) / 2) (srt l)).countP_le (p := fun x => decide (med l ≤ x))
  rw [h2, List.length_drop] at h3
  rw [h1]
  omega
theorem n4 : Try.f4.ntmps = 78 := rfl
theorem ret4 : Try.f4.results = #[.tmp 2] := rfl
theorem middle_law (H : Hp) (a : Option Addr) (l : List Int) (he : Elems H a 1 (l.map ic)) : ACalls Try.prog 4 [.slice a l.length l.length] H (fun v H' => v = .bool true) := by
  refine ACalls_enter Try.func4 (by kernel_rfl) rfl (by kernel_rfl) (by simp [n4]) fun hw hr => AWP_of_awp ?_
  simp -implicitDefEqProofs (maxSteps := 2000000) (disch := first | omega | (simp only [nx_new, nx_set, List.length_cons, List.length_nil, List.length_map, List.length_set, ne_eq, not_true_eq_false, not_false_eq_true, Nat.succ_ne_zero]; done) | (simp only [nx_new, nx_set, List.length_cons, List.length_nil, List.length_map, List.length_set, ne_eq, not_true_eq_false, not_false_eq_true, Nat.succ_ne_zero]; omega)) only [go_sem, reduceIte, reduceCtorEq, Nat.succ_ne_zero, not_false_eq_true, decide_true, decide_false, Nat.reduceAdd, Nat.reduceMul, Nat.reduceEqDiff, Nat.reduceLeDiff]
  refine (head_spec H).mono ?_
  rintro _ G0 ⟨rfl, k0⟩
  simp -implicitDefEqProofs (maxSteps := 2000000) (disch := first | omega | (simp only [nx_new, nx_set, List.length_cons, List.length_nil, List.length_map, List.length_set, ne_eq, not_true_eq_false, not_false_eq_true, Nat.succ_ne_zero]; done) | (simp only [nx_new, nx_set, List.length_cons, List.length_nil, List.length_map, List.length_set, ne_eq, not_true_eq_false, not_false_eq_true, Nat.succ_ne_zero]; omega)) only [go_sem, reduceIte, reduceCtorEq, Nat.succ_ne_zero, not_false_eq_true, decide_true, decide_false, Nat.reduceAdd, Nat.reduceMul, Nat.reduceEqDiff, Nat.reduceLeDiff]
  refine guardS_split (fun hc => ?_) (fun hc => ?_)
  · simp -implicitDefEqProofs (maxSteps := 2000000) (disch := first | omega | (simp only [nx_new, nx_set, List.length_cons, List.length_nil, List.length_map, List.length_set, ne_eq, not_true_eq_false, not_false_eq_true, Nat.succ_ne_zero]; done) | (simp only [nx_new, nx_set, List.length_cons, List.length_nil, List.length_map, List.length_set, ne_eq, not_true_eq_false, not_false_eq_true, Nat.succ_ne_zero]; omega)) only [go_sem, reduceIte, reduceCtorEq, Nat.succ_ne_zero, not_false_eq_true, decide_true, decide_false, Nat.reduceAdd, Nat.reduceMul, Nat.reduceEqDiff, Nat.reduceLeDiff, hc]
    exact ret_r (v := .bool true) (by rw [ares_tmp ret4]; rfl) rfl
  simp -implicitDefEqProofs (maxSteps := 2000000) (disch := first | omega | (simp only [nx_new, nx_set, List.length_cons, List.length_nil, List.length_map, List.length_set, ne_eq, not_true_eq_false, not_false_eq_true, Nat.succ_ne_zero]; done) | (simp only [nx_new, nx_set, List.length_cons, List.length_nil, List.length_map, List.length_set, ne_eq, not_true_eq_false, not_false_eq_true, Nat.succ_ne_zero]; omega)) only [go_sem, reduceIte, reduceCtorEq, Nat.succ_ne_zero, not_false_eq_true, decide_true, decide_false, Nat.reduceAdd, Nat.reduceMul, Nat.reduceEqDiff, Nat.reduceLeDiff, hc]
  refine condS_split (fun hz => ?_) (fun hz => ?_)
  · simp -implicitDefEqProofs (maxSteps := 2000000) (disch := first | omega | (simp only [nx_new, nx_set, List.length_cons, List.length_nil, List.length_map, List.length_set, ne_eq, not_true_eq_false, not_false_eq_true, Nat.succ_ne_zero]; done) | (simp only [nx_new, nx_set, List.length_cons, List.length_nil, List.length_map, List.length_set, ne_eq, not_true_eq_false, not_false_eq_true, Nat.succ_ne_zero]; omega)) only [go_sem, reduceIte, reduceCtorEq, Nat.succ_ne_zero, not_false_eq_true, decide_true, decide_false, Nat.reduceAdd, Nat.reduceMul, Nat.reduceEqDiff, Nat.reduceLeDiff, hz]
    exact ret_r (v := .bool true) (by rw [ares_tmp ret4]; rfl) rfl
  have hl : l.length ≤ 100 := by have := of_decide_eq_false hc; omega
  have h0 : l.length ≠ 0 := by simpa using hz
  simp -implicitDefEqProofs (maxSteps := 2000000) (disch := first | omega | (simp only [nx_new, nx_set, List.length_cons, List.length_nil, List.length_map, List.length_set, ne_eq, not_true_eq_false, not_false_eq_true, Nat.succ_ne_zero]; done) | (simp only [nx_new, nx_set, List.length_cons, List.length_nil, List.length_map, List.length_set, ne_eq, not_true_eq_false, not_false_eq_true, Nat.succ_ne_zero]; omega)) only [go_sem, reduceIte, reduceCtorEq, Nat.succ_ne_zero, not_false_eq_true, decide_true, decide_false, Nat.reduceAdd, Nat.reduceMul, Nat.reduceEqDiff, Nat.reduceLeDiff, hz]
  have md := median_spec G0 a l (by omega) (he.grows k0.grows)
  rw [show medV l = med l by rw [medV, if_neg (by omega), if_neg h0], show medE l = 0 by rw [medE, if_neg (by omega), if_neg h0]] at md
  refine md.mono ?_
  rintro _ G1 ⟨rfl, k1⟩
  simp -implicitDefEqProofs (maxSteps := 2000000) (disch := first | omega | (simp only [nx_new, nx_set, List.length_cons, List.length_nil, List.length_map, List.length_set, ne_eq, not_true_eq_false, not_false_eq_true, Nat.succ_ne_zero]; done) | (simp only [nx_new, nx_set, List.length_cons, List.length_nil, List.length_map, List.length_set, ne_eq, not_true_eq_false, not_false_eq_true, Nat.succ_ne_zero]; omega)) only [go_sem, reduceIte, reduceCtorEq, Nat.succ_ne_zero, not_false_eq_true, decide_true, decide_false, Nat.reduceAdd, Nat.reduceMul, Nat.reduceEqDiff, Nat.reduceLeDiff]
  have he1 := (he.grows k0.grows).grows k1.grows
  have hm := med_mem h0
  have hlo := low_count h0
  have hhi := high_count h0
  generalize med l = n at *
  refine AWP_loop (σ := Nat) (fun k => [(9, .int .i64 k), (8, .int .i64 ((l.take k).countP (fun x => decide (n ≤ x)))), (7, .int .i64 ((l.take k).countP (fun x => decide (x ≤ n)))), (6, .bool ((l.take k).any (fun x => x == n))), (5, .int .i64 0), (4, .int .i64 n), (3, .bool true), (0, .slice a l.length l.length)])
    (fun _ => G1) (fun k => k ≤ l.length) (fun k => l.length - k) 0 (Nat.zero_le _) (Weak.sub ?_) ?_
  · simp only [List.take_zero, List.countP_nil, List.any_nil]
    (simp -implicitDefEqProofs (disch := omega) only [Abs.Sub, get_cons_eq, get_cons_ne, and_self, Option.some.injEq, Value.int.injEq, Value.slice.injEq, true_and, and_true, Int.natCast_zero, Int.natCast_add, Int.natCast_one, List.length_nil]; try omega)
  · intro k hk
    refine AWP_of_awp ?_
    have hcl := List.countP_le_length (p := fun x => decide (n ≤ x)) (l := l.take k)
    have hcl2 := List.countP_le_length (p := fun x => decide (x ≤ n)) (l := l.take k)
    rw [List.length_take] at hcl hcl2
    by_cases hlt : k < l.length
    · obtain ⟨b, o, rfl, hload⟩ := elem1 he1 k hlt
      have htk := List.take_succ_eq_append_getElem hlt
      generalize l[k] = x at *
      have a1 : (l.take (k + 1)).any (fun x => x == n) = ((l.take k).any (fun x => x == n) || x == n) := by rw [htk, List.any_append]; simp
      have a2 : (l.take (k + 1)).countP (fun x => decide (x ≤ n)) = (l.take k).countP (fun x => decide (x ≤ n)) + if x ≤ n then 1 else 0 := by rw [htk, List.countP_append]; simp
      have a3 : (l.take (k + 1)).countP (fun x => decide (n ≤ x)) = (l.take k).countP (fun x => decide (n ≤ x)) + if n ≤ x then 1 else 0 := by rw [htk, List.countP_append]; simp
      cases hany : (l.take k).any (fun x => x == n)
      · rw [hany] at a1
        simp -implicitDefEqProofs (maxSteps := 2000000) (disch := first | omega | (simp only [nx_new, nx_set, List.length_cons, List.length_nil, List.length_map, List.length_set, ne_eq, not_true_eq_false, not_false_eq_true, Nat.succ_ne_zero]; done) | (simp only [nx_new, nx_set, List.length_cons, List.length_nil, List.length_map, List.length_set, ne_eq, not_true_eq_false, not_false_eq_true, Nat.succ_ne_zero]; omega)) only [go_sem, reduceIte, reduceCtorEq, Nat.succ_ne_zero, not_false_eq_true, decide_true, decide_false, Nat.reduceAdd, Nat.reduceMul, Nat.reduceEqDiff, Nat.reduceLeDiff, hload, hany]
        refine condS_split (fun h1 => ?_) (fun h1 => ?_)
        · have b1 := of_decide_eq_true h1
          rw [if_pos b1] at a2
          simp -implicitDefEqProofs (maxSteps := 2000000) (disch := first | omega | (simp only [nx_new, nx_set, List.length_cons, List.length_nil, List.length_map, List.length_set, ne_eq, not_true_eq_false, not_false_eq_true, Nat.succ_ne_zero]; done) | (simp only [nx_new, nx_set, List.length_cons, List.length_nil, List.length_map, List.length_set, ne_eq, not_true_eq_false, not_false_eq_true, Nat.succ_ne_zero]; omega)) only [go_sem, reduceIte, reduceCtorEq, Nat.succ_ne_zero, not_false_eq_true, decide_true, decide_false, Nat.reduceAdd, Nat.reduceMul, Nat.reduceEqDiff, Nat.reduceLeDiff, hload, h1]
          refine condS_split (fun h2 => ?_) (fun h2 => ?_)
          · have b2 := of_decide_eq_true h2
            have xb : (x == n) = true := by rw [beq_iff_eq]; omega
            rw [if_pos b2] at a3
            rw [xb] at a1
            simp -implicitDefEqProofs (maxSteps := 2000000) (disch := first | omega | (simp only [nx_new, nx_set, List.length_cons, List.length_nil, List.length_map, List.length_set, ne_eq, not_true_eq_false, not_false_eq_true, Nat.succ_ne_zero]; done) | (simp only [nx_new, nx_set, List.length_cons, List.length_nil, List.length_map, List.length_set, ne_eq, not_true_eq_false, not_false_eq_true, Nat.succ_ne_zero]; omega)) only [go_sem, reduceIte, reduceCtorEq, Nat.succ_ne_zero, not_false_eq_true, decide_true, decide_false, Nat.reduceAdd, Nat.reduceMul, Nat.reduceEqDiff, Nat.reduceLeDiff, h2]
            exact ⟨k + 1, hlt, by omega, Weak.sub (by simp only [a1, a2, a3, Bool.true_or, Bool.false_or, Bool.or_true, Bool.or_false, Nat.add_zero]; (simp -implicitDefEqProofs (disch := omega) only [Abs.Sub, get_cons_eq, get_cons_ne, and_self, Option.some.injEq, Value.int.injEq, Value.slice.injEq, true_and, and_true, Int.natCast_zero, Int.natCast_add, Int.natCast_one, List.length_nil]; try omega))⟩
          · have b2 := of_decide_eq_false h2
            have xb : (x == n) = false := by rw [beq_eq_false_iff_ne]; omega
            rw [if_neg b2] at a3
            rw [xb] at a1
            simp -implicitDefEqProofs (maxSteps := 2000000) (disch := first | omega | (simp only [nx_new, nx_set, List.length_cons, List.length_nil, List.length_map, List.length_set, ne_eq, not_true_eq_false, not_false_eq_true, Nat.succ_ne_zero]; done) | (simp only [nx_new, nx_set, List.length_cons, List.length_nil, List.length_map, List.length_set, ne_eq, not_true_eq_false, not_false_eq_true, Nat.succ_ne_zero]; omega)) only [go_sem, reduceIte, reduceCtorEq, Nat.succ_ne_zero, not_false_eq_true, decide_true, decide_false, Nat.reduceAdd, Nat.reduceMul, Nat.reduceEqDiff, Nat.reduceLeDiff, h2]
            exact ⟨k + 1, hlt, by omega, Weak.sub (by simp only [a1, a2, a3, Bool.true_or, Bool.false_or, Bool.or_true, Bool.or_false, Nat.add_zero]; (simp -implicitDefEqProofs (disch := omega) only [Abs.Sub, get_cons_eq, get_cons_ne, and_self, Option.some.injEq, Value.int.injEq, Value.slice.injEq, true_and, and_true, Int.natCast_zero, Int.natCast_add, Int.natCast_one, List.length_nil]; try omega))⟩
        · have b1 := of_decide_eq_false h1
          have b2 : n ≤ x := by omega
          have xb : (x == n) = false := by rw [beq_eq_false_iff_ne]; omega
          rw [if_neg b1] at a2
          rw [if_pos b2] at a3
          rw [xb] at a1
          simp -implicitDefEqProofs (maxSteps := 2000000) (disch := first | omega | (simp only [nx_new, nx_set, List.length_cons, List.length_nil, List.length_map, List.length_set, ne_eq, not_true_eq_false, not_false_eq_true, Nat.succ_ne_zero]; done) | (simp only [nx_new, nx_set, List.length_cons, List.length_nil, List.length_map, List.length_set, ne_eq, not_true_eq_false, not_false_eq_true, Nat.succ_ne_zero]; omega)) only [go_sem, reduceIte, reduceCtorEq, Nat.succ_ne_zero, not_false_eq_true, decide_true, decide_false, Nat.reduceAdd, Nat.reduceMul, Nat.reduceEqDiff, Nat.reduceLeDiff, hload, h1]
          exact ⟨k + 1, hlt, by omega, Weak.sub (by simp only [a1, a2, a3, Bool.true_or, Bool.false_or, Bool.or_true, Bool.or_false, Nat.add_zero]; (simp -implicitDefEqProofs (disch := omega) only [Abs.Sub, get_cons_eq, get_cons_ne, and_self, Option.some.injEq, Value.int.injEq, Value.slice.injEq, true_and, and_true, Int.natCast_zero, Int.natCast_add, Int.natCast_one, List.length_nil]; try omega))⟩
      · rw [hany] at a1
        simp -implicitDefEqProofs (maxSteps := 2000000) (disch := first | omega | (simp only [nx_new, nx_set, List.length_cons, List.length_nil, List.length_map, List.length_set, ne_eq, not_true_eq_false, not_false_eq_true, Nat.succ_ne_zero]; done) | (simp only [nx_new, nx_set, List.length_cons, List.length_nil, List.length_map, List.length_set, ne_eq, not_true_eq_false, not_false_eq_true, Nat.succ_ne_zero]; omega)) only [go_sem, reduceIte, reduceCtorEq, Nat.succ_ne_zero, not_false_eq_true, decide_true, decide_false, Nat.reduceAdd, Nat.reduceMul, Nat.reduceEqDiff, Nat.reduceLeDiff, hload, hany]
        refine condS_split (fun h1 => ?_) (fun h1 => ?_)
        · have b1 := of_decide_eq_true h1
          rw [if_pos b1] at a2
          simp -implicitDefEqProofs (maxSteps := 2000000) (disch := first | omega | (simp only [nx_new, nx_set, List.length_cons, List.length_nil, List.length_map, List.length_set, ne_eq, not_true_eq_false, not_false_eq_true, Nat.succ_ne_zero]; done) | (simp only [nx_new, nx_set, List.length_cons, List.length_nil, List.length_map, List.length_set, ne_eq, not_true_eq_false, not_false_eq_true, Nat.succ_ne_zero]; omega)) only [go_sem, reduceIte, reduceCtorEq, Nat.succ_ne_zero, not_false_eq_true, decide_true, decide_false, Nat.reduceAdd, Nat.reduceMul, Nat.reduceEqDiff, Nat.reduceLeDiff, hload, h1]
          refine condS_split (fun h2 => ?_) (fun h2 => ?_)
          · have b2 := of_decide_eq_true h2
            have xb : (x == n) = true := by rw [beq_iff_eq]; omega
            rw [if_pos b2] at a3
            rw [xb] at a1
            simp -implicitDefEqProofs (maxSteps := 2000000) (disch := first | omega | (simp only [nx_new, nx_set, List.length_cons, List.length_nil, List.length_map, List.length_set, ne_eq, not_true_eq_false, not_false_eq_true, Nat.succ_ne_zero]; done) | (simp only [nx_new, nx_set, List.length_cons, List.length_nil, List.length_map, List.length_set, ne_eq, not_true_eq_false, not_false_eq_true, Nat.succ_ne_zero]; omega)) only [go_sem, reduceIte, reduceCtorEq, Nat.succ_ne_zero, not_false_eq_true, decide_true, decide_false, Nat.reduceAdd, Nat.reduceMul, Nat.reduceEqDiff, Nat.reduceLeDiff, h2]
            exact ⟨k + 1, hlt, by omega, Weak.sub (by simp only [a1, a2, a3, Bool.true_or, Bool.false_or, Bool.or_true, Bool.or_false, Nat.add_zero]; (simp -implicitDefEqProofs (disch := omega) only [Abs.Sub, get_cons_eq, get_cons_ne, and_self, Option.some.injEq, Value.int.injEq, Value.slice.injEq, true_and, and_true, Int.natCast_zero, Int.natCast_add, Int.natCast_one, List.length_nil]; try omega))⟩
          · have b2 := of_decide_eq_false h2
            have xb : (x == n) = false := by rw [beq_eq_false_iff_ne]; omega
            rw [if_neg b2] at a3
            rw [xb] at a1
            simp -implicitDefEqProofs (maxSteps := 2000000) (disch := first | omega | (simp only [nx_new, nx_set, List.length_cons, List.length_nil, List.length_map, List.length_set, ne_eq, not_true_eq_false, not_false_eq_true, Nat.succ_ne_zero]; done) | (simp only [nx_new, nx_set, List.length_cons, List.length_nil, List.length_map, List.length_set, ne_eq, not_true_eq_false, not_false_eq_true, Nat.succ_ne_zero]; omega)) only [go_sem, reduceIte, reduceCtorEq, Nat.succ_ne_zero, not_false_eq_true, decide_true, decide_false, Nat.reduceAdd, Nat.reduceMul, Nat.reduceEqDiff, Nat.reduceLeDiff, h2]
            exact ⟨k + 1, hlt, by omega, Weak.sub (by simp only [a1, a2, a3, Bool.true_or, Bool.false_or, Bool.or_true, Bool.or_false, Nat.add_zero]; (simp -implicitDefEqProofs (disch := omega) only [Abs.Sub, get_cons_eq, get_cons_ne, and_self, Option.some.injEq, Value.int.injEq, Value.slice.injEq, true_and, and_true, Int.natCast_zero, Int.natCast_add, Int.natCast_one, List.length_nil]; try omega))⟩
        · have b1 := of_decide_eq_false h1
          have b2 : n ≤ x := by omega
          have xb : (x == n) = false := by rw [beq_eq_false_iff_ne]; omega
          rw [if_neg b1] at a2
          rw [if_pos b2] at a3
          rw [xb] at a1
          simp -implicitDefEqProofs (maxSteps := 2000000) (disch := first | omega | (simp only [nx_new, nx_set, List.length_cons, List.length_nil, List.length_map, List.length_set, ne_eq, not_true_eq_false, not_false_eq_true, Nat.succ_ne_zero]; done) | (simp only [nx_new, nx_set, List.length_cons, List.length_nil, List.length_map, List.length_set, ne_eq, not_true_eq_false, not_false_eq_true, Nat.succ_ne_zero]; omega)) only [go_sem, reduceIte, reduceCtorEq, Nat.succ_ne_zero, not_false_eq_true, decide_true, decide_false, Nat.reduceAdd, Nat.reduceMul, Nat.reduceEqDiff, Nat.reduceLeDiff, hload, h1]
          exact ⟨k + 1, hlt, by omega, Weak.sub (by simp only [a1, a2, a3, Bool.true_or, Bool.false_or, Bool.or_true, Bool.or_false, Nat.add_zero]; (simp -implicitDefEqProofs (disch := omega) only [Abs.Sub, get_cons_eq, get_cons_ne, and_self, Option.some.injEq, Value.int.injEq, Value.slice.injEq, true_and, and_true, Int.natCast_zero, Int.natCast_add, Int.natCast_one, List.length_nil]; try omega))⟩
    · have hke : k = l.length := by omega
      subst hke
      rw [List.take_of_length_le (Nat.le_refl _)] at *
      have hany : (l.any fun x => x == n) = true := List.any_eq_true.2 ⟨n, hm, by simp⟩
      simp -implicitDefEqProofs (maxSteps := 2000000) (disch := first | omega | (simp only [nx_new, nx_set, List.length_cons, List.length_nil, List.length_map, List.length_set, ne_eq, not_true_eq_false, not_false_eq_true, Nat.succ_ne_zero]; done) | (simp only [nx_new, nx_set, List.length_cons, List.length_nil, List.length_map, List.length_set, ne_eq, not_true_eq_false, not_false_eq_true, Nat.succ_ne_zero]; omega)) only [go_sem, reduceIte, reduceCtorEq, Nat.succ_ne_zero, not_false_eq_true, decide_true, decide_false, Nat.reduceAdd, Nat.reduceMul, Nat.reduceEqDiff, Nat.reduceLeDiff, hany]
      exact ret_r (v := .bool true) (by rw [ares_tmp ret4]; rfl) rfl
end Go.Proofs.Ytejpfdhlpcgfkaa
