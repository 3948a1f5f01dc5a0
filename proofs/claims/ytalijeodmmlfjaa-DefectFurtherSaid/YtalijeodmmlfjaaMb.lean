/- Plain laws: the borders increase strictly, and are what they are made of. -/
import Derived.Test.YtalijeodmmlfjaaMa
set_option linter.unusedVariables false
set_option linter.unusedSimpArgs false
set_option linter.unusedSectionVars false
namespace Go.Proofs.Ytalijeodmmlfjaa

theorem compact_facts {l : List Int} (hs : l.Pairwise (· ≤ ·)) : ∀ m, m ≤ l.length →
    (Lib.compactUpTo l.toArray m).Pairwise (· < ·) ∧ (∀ x, x ∈ Lib.compactUpTo l.toArray m → 0 < m ∧ x ≤ l.toArray[m - 1]!) ∧ ∀ i, i < m → l.toArray[i]! ∈ Lib.compactUpTo l.toArray m
  | 0, _ => ⟨by simp [Lib.compactUpTo], by simp [Lib.compactUpTo], fun i h => by omega⟩
  | m + 1, hm => by
    obtain ⟨h1, h2, h3⟩ := compact_facts hs m (by omega)
    have hle : ∀ i, i < m → l.toArray[i]! ≤ l.toArray[m]! := fun i hi => by
      rw [bang (by omega), bang (by omega)]
      exact List.pairwise_iff_getElem.1 hs i m (by omega) (by omega) hi
    rw [Lib.compactUpTo_succ]
    by_cases hk : Lib.keeps l.toArray m = true
    · rw [if_pos hk]
      have hlt : ∀ x, x ∈ Lib.compactUpTo l.toArray m → x < l.toArray[m]! := fun x hx => by
        obtain ⟨h0, hx1⟩ := h2 x hx
        have h4 := hle (m - 1) (by omega)
        simp only [Lib.keeps, decide_eq_true_eq] at hk
        rcases hk with hk | hk
        · omega
        · omega
      refine ⟨?_, fun x hx => ?_, fun i hi => ?_⟩
      · rw [List.pairwise_append]
        refine ⟨h1, List.pairwise_singleton _ _, fun x hx y hy => ?_⟩
        rw [List.mem_singleton] at hy
        rw [hy]
        exact hlt x hx
      · rw [List.mem_append, List.mem_singleton] at hx
        refine ⟨Nat.succ_pos _, ?_⟩
        rw [Nat.add_sub_cancel]
        rcases hx with hx | rfl
        · have := hlt x hx; omega
        · exact Int.le_refl _
      · rw [List.mem_append, List.mem_singleton]
        by_cases him : i = m
        · subst him; exact .inr rfl
        · exact .inl (h3 i (by omega))
    · rw [if_neg hk, List.append_nil]
      have hm0 : 0 < m := by
        rcases Nat.eq_zero_or_pos m with rfl | h
        · exact absurd (Lib.keeps_lt_one _ 0 (by omega)) hk
        · exact h
      have heq : l.toArray[m]! = l.toArray[m - 1]! := by
        simp only [Lib.keeps, decide_eq_true_eq, not_or, Decidable.not_not] at hk
        exact hk.2
      refine ⟨h1, fun x hx => ⟨Nat.succ_pos _, ?_⟩, fun i hi => ?_⟩
      · rw [Nat.add_sub_cancel, heq]; exact (h2 x hx).2
      · by_cases him : i = m
        · subst him; rw [heq]; exact h3 _ (by omega)
        · exact h3 i (by omega)
theorem sorted_sort (l : List Int) : (l.mergeSort fun x y => decide (x ≤ y)).Pairwise (· ≤ ·) := by
  have := List.pairwise_mergeSort (le := fun x y : Int => decide (x ≤ y)) (fun a b c h1 h2 => by simp only [decide_eq_true_eq] at *; omega) (fun a b => by simp only [Bool.or_eq_true, decide_eq_true_eq]; omega) l
  exact this.imp fun h => by simpa using h
theorem bordL_strict (l : List D) : (bordL l).Pairwise (· < ·) := (compact_facts (sorted_sort _) _ (Nat.le_refl _)).1
theorem bordL_mem_iff {l : List D} {x : Int} : x ∈ bordL l ↔ x ∈ bordB l := by
  refine ⟨bordL_mem, fun h => ?_⟩
  have h2 : x ∈ (bordB l).mergeSort fun x y => decide (x ≤ y) := List.mem_mergeSort.2 h
  obtain ⟨i, hi, rfl⟩ := List.getElem_of_mem h2
  have := (compact_facts (sorted_sort (bordB l)) _ (Nat.le_refl _)).2.2 i hi
  rw [bang hi] at this
  exact this
end Go.Proofs.Ytalijeodmmlfjaa
