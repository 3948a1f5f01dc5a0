/- Plain laws: sorted borders, lists of spans told by what they contain. -/
import Derived.Test.YtalijeodmmlfjaaWe
set_option linter.unusedVariables false
set_option linter.unusedSimpArgs false
set_option linter.unusedSectionVars false
namespace Go.Proofs.Ytalijeodmmlfjaa

theorem cells_flat (l : List D) (d : D) : (l.map D.cells).flatten ++ d.cells = ((l ++ [d]).map D.cells).flatten := by simp
theorem cells_len (l : List D) : ∀ x, x ∈ l.map D.cells → x.length = 5 := by
  intro x hx
  obtain ⟨d, _, rfl⟩ := List.mem_map.1 hx
  rfl
theorem cells_one (l : List D) : ((l.map D.cells).flatten).all Abs.one = true := by
  induction l with
  | nil => rfl
  | cons s out ih => simp only [List.map_cons, List.flatten_cons, List.all_append, ih, Bool.and_true]; rfl

/-! ### the borders -/
theorem compact_mem_iff {l : List Int} {x : Int} : x ∈ Lib.compact l ↔ ∃ i, i < l.length ∧ Lib.keeps l.toArray i = true ∧ l.toArray[i]! = x := by
  simp only [Lib.compact, Lib.compactUpTo, List.mem_map, List.mem_filter, List.mem_range, and_assoc]
theorem bang {l : List Int} {i : Nat} (h : i < l.length) : l.toArray[i]! = l[i] := by
  rw [getElem!_pos _ i (by simpa using h)]; simp

/-! ### spans -/
/-- In order, with at least one moment between, from lo on. -/
def NormF : Int → List (Int × Int) → Prop
  | _, [] => True
  | lo, s :: l => lo ≤ s.1 ∧ s.1 ≤ s.2 ∧ NormF (s.2 + 2) l
theorem NormF.le {lo lo' : Int} (h : lo' ≤ lo) : ∀ {l : List (Int × Int)}, NormF lo l → NormF lo' l
  | [], _ => trivial
  | _ :: _, hn => ⟨Int.le_trans h hn.1, hn.2⟩
theorem insideB_lt {lo m : Int} (hm : m < lo) : ∀ {l : List (Int × Int)}, NormF lo l → insideB l m = false
  | [], _ => rfl
  | s :: l, h => by
    have ih := insideB_lt (lo := s.2 + 2) (m := m) (by have := h.1; have := h.2.1; omega) h.2.2
    simp only [insideB, List.any_cons, Bool.or_eq_false_iff] at ih ⊢
    refine ⟨?_, ih⟩
    have := h.1
    rw [decide_eq_false (by omega)]; rfl
/-- Two such lists that contain the same moments are one. -/
theorem norm_unique : ∀ {xs ys : List (Int × Int)} {lo : Int}, NormF lo xs → NormF lo ys → (∀ m, insideB xs m = insideB ys m) → xs = ys
  | [], [], _, _, _, _ => rfl
  | [], s :: l, lo, _, h, he => by
    have := he s.1
    have h2 := h.2.1
    simp [insideB, h2] at this
  | s :: l, [], lo, h, _, he => by
    have := he s.1
    have h2 := h.2.1
    simp [insideB, h2] at this
  | s :: xs, t :: ys, lo, hx, hy, he => by
    have inS : ∀ m, s.1 ≤ m → m ≤ s.2 → insideB (s :: xs) m = true := fun m h1 h2 => by simp [insideB, h1, h2]
    have inT : ∀ m, t.1 ≤ m → m ≤ t.2 → insideB (t :: ys) m = true := fun m h1 h2 => by simp [insideB, h1, h2]
    have outS : ∀ m, m < s.1 ∨ m = s.2 + 1 → insideB (s :: xs) m = false := fun m h => by
      have h1 := hx.2.1
      have := insideB_lt (lo := s.2 + 2) (m := m) (by omega) hx.2.2
      simp only [insideB, List.any_cons, Bool.or_eq_false_iff] at this ⊢
      refine ⟨?_, this⟩
      by_cases h2 : s.1 ≤ m
      · rw [decide_eq_false (show ¬m ≤ s.2 by omega)]; simp
      · rw [decide_eq_false h2]; rfl
    have outT : ∀ m, m < t.1 ∨ m = t.2 + 1 → insideB (t :: ys) m = false := fun m h => by
      have h1 := hy.2.1
      have := insideB_lt (lo := t.2 + 2) (m := m) (by omega) hy.2.2
      simp only [insideB, List.any_cons, Bool.or_eq_false_iff] at this ⊢
      refine ⟨?_, this⟩
      by_cases h2 : t.1 ≤ m
      · rw [decide_eq_false (show ¬m ≤ t.2 by omega)]; simp
      · rw [decide_eq_false h2]; rfl
    have hs1 := hx.2.1
    have ht1 := hy.2.1
    have e1 : s.1 = t.1 := by
      rcases Int.lt_trichotomy s.1 t.1 with h | h | h
      · have a := inS s.1 (Int.le_refl _) hs1
        rw [he, outT _ (.inl h)] at a; cases a
      · exact h
      · have a := inT t.1 (Int.le_refl _) ht1
        rw [← he, outS _ (.inl h)] at a; cases a
    have e2 : s.2 = t.2 := by
      rcases Int.lt_trichotomy s.2 t.2 with h | h | h
      · have a := inT (s.2 + 1) (by omega) (by omega)
        rw [← he, outS _ (.inr rfl)] at a; cases a
      · exact h
      · have a := inS (t.2 + 1) (by omega) (by omega)
        rw [he, outT _ (.inr rfl)] at a; cases a
    have est : s = t := Prod.ext e1 e2
    subst est
    congr 1
    refine norm_unique hx.2.2 hy.2.2 fun m => ?_
    by_cases h : m ≤ s.2 + 1
    · rw [insideB_lt (lo := s.2 + 2) (by omega) hx.2.2, insideB_lt (lo := s.2 + 2) (by omega) hy.2.2]
    · have := he m
      simp only [insideB, List.any_cons] at this ⊢
      rw [decide_eq_false (show ¬m ≤ s.2 by omega)] at this
      simpa using this
end Go.Proofs.Ytalijeodmmlfjaa
