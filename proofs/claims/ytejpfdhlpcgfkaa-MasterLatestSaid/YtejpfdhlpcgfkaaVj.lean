/- MedianShifts: the plain laws. -/
import Derived.Test.YtejpfdhlpcgfkaaVi
set_option linter.unusedVariables false
set_option linter.unusedSimpArgs false
set_option linter.unusedSectionVars false
namespace Go.Proofs.Ytejpfdhlpcgfkaa
open Go.Abs Go.Sm
set_option maxHeartbeats 8000000
set_option maxRecDepth 100000
theorem med_perm {l l' : List Int} (h : l.Perm l') : med l = med l' := by
  rw [med, med, srt_eq (l := l) ((srt_perm l').trans h.symm) (srt_sorted l'), h.length_eq]
theorem med_shift {l : List Int} (h : l.length ≠ 0) (d : Int) : med (l.map (· + d)) = med l + d := by
  have e : srt (l.map (· + d)) = (srt l).map (· + d) := srt_eq ((srt_perm l).map _) (by
    rw [List.pairwise_map]
    exact (srt_sorted l).imp fun h => by omega)
  have hk : (l.length - 1) / 2 < (srt l).length := by rw [srt_len]; omega
  rw [med, med, e, List.length_map, List.getD_eq_getElem?_getD, List.getD_eq_getElem?_getD, List.getElem?_map, List.getElem?_eq_getElem hk]
  rfl
theorem low_k {l : List Int} (h : l.length ≠ 0) : (l.length - 1) / 2 + 1 ≤ l.countP (fun x => decide (x ≤ med l)) := by
  obtain ⟨hk, e⟩ := med_at h
  have h1 : l.countP (fun x => decide (x ≤ med l)) = (srt l).countP (fun x => decide (x ≤ med l)) := ((srt_perm l).countP_eq _).symm
  have h2 : ((srt l).take ((l.length - 1) / 2 + 1)).countP (fun x => decide (x ≤ med l)) = ((srt l).take ((l.length - 1) / 2 + 1)).length := by
    rw [List.countP_eq_length]
    intro x hx
    obtain ⟨i, hi, rfl⟩ := List.getElem_of_mem hx
    rw [List.length_take] at hi
    rw [List.getElem_take, decide_eq_true_eq, e]
    rcases Nat.lt_or_ge i ((l.length - 1) / 2) with h3 | h3
    · exact List.pairwise_iff_getElem.1 (srt_sorted l) i _ (by omega) hk h3
    · have : i = (l.length - 1) / 2 := by omega
      subst this; exact Int.le_refl _
  have h3 := (List.take_sublist ((l.length - 1) / 2 + 1) (srt l)).countP_le (p := fun x => decide (x ≤ med l))
  rw [h2, List.length_take] at h3
  rw [h1]
  omega
theorem below_k {l : List Int} (h : l.length ≠ 0) {v : Int} (hv : v < med l) : l.countP (fun x => decide (x ≤ v)) ≤ (l.length - 1) / 2 := by
  obtain ⟨hk, e⟩ := med_at h
  have h1 : l.countP (fun x => decide (x ≤ v)) = (srt l).countP (fun x => decide (x ≤ v)) := ((srt_perm l).countP_eq _).symm
  have h2 : ((srt l).drop ((l.length - 1) / 2)).countP (fun x => decide (x ≤ v)) = 0 := by
    rw [List.countP_eq_zero]
    intro x hx
    obtain ⟨i, hi, rfl⟩ := List.getElem_of_mem hx
    rw [List.length_drop] at hi
    rw [List.getElem_drop, decide_eq_true_eq]
    rcases Nat.eq_zero_or_pos i with h3 | h3
    · subst h3
      simp only [Nat.add_zero]
      omega
    · have := List.pairwise_iff_getElem.1 (srt_sorted l) ((l.length - 1) / 2) ((l.length - 1) / 2 + i) hk (by omega) (by omega)
      omega
  have h4 : (srt l).countP (fun x => decide (x ≤ v)) = ((srt l).take ((l.length - 1) / 2)).countP (fun x => decide (x ≤ v)) + ((srt l).drop ((l.length - 1) / 2)).countP (fun x => decide (x ≤ v)) := by
    rw [← List.countP_append, List.take_append_drop]
  have h5 := List.countP_le_length (p := fun x => decide (x ≤ v)) (l := (srt l).take ((l.length - 1) / 2))
  rw [List.length_take] at h5
  omega
theorem count_set : ∀ {l : List Int} {i : Nat} (hi : i < l.length) {y v : Int}, l[i] ≤ y → (l.set i y).countP (fun x => decide (x ≤ v)) ≤ l.countP (fun x => decide (x ≤ v))
  | x :: l, 0, _, y, v, h => by
    simp only [List.getElem_cons_zero] at h
    simp only [List.set_cons_zero, List.countP_cons, decide_eq_true_eq]
    split <;> split <;> omega
  | x :: l, i + 1, hi, y, v, h => by
    have ih := count_set (l := l) (i := i) (by simpa using hi) (y := y) (v := v) (by simpa using h)
    simp only [List.set_cons_succ, List.countP_cons]
    omega
theorem med_more {l : List Int} {i : Nat} (hi : i < l.length) {y : Int} (h : l[i] ≤ y) : med l ≤ med (l.set i y) := by
  have h0 : l.length ≠ 0 := by omega
  rcases Int.lt_or_le (med (l.set i y)) (med l) with hlt | hle
  · have h1 := below_k h0 hlt
    have h2 := low_k (l := l.set i y) (by rw [List.length_set]; exact h0)
    have h3 := count_set hi (y := y) (v := med (l.set i y)) h
    rw [List.length_set] at h2
    omega
  · exact hle
end Go.Proofs.Ytejpfdhlpcgfkaa
