/- Plain laws: how many points meet a list; points told of the set of spans. -/
import Derived.Test.YtjgdmjoafpbnaaaSl
set_option linter.unusedVariables false
set_option linter.unusedSimpArgs false
set_option linter.unusedSectionVars false
namespace Go.Proofs.Ytjgdmjoafpbnaaa
open Go.Abs Go.Sm

theorem meetB_iff {s : Sp} {q : List Int} : meetB s q = true ↔ ∃ p, p ∈ q ∧ s.1 ≤ p ∧ p ≤ s.2 := by
  simp only [meetB, List.any_eq_true, Bool.and_eq_true, decide_eq_true_eq]
theorem disjB_iff {s t : Sp} : disjB s t = true ↔ s.2 < t.1 ∨ t.2 < s.1 := by simp only [disjB, Bool.or_eq_true, decide_eq_true_eq]
/-- Disjoint spans want a point each. -/
theorem stab_len : ∀ {D : List Sp} {q : List Int}, D.Pairwise (fun s t => disjB s t = true) → (∀ s, s ∈ D → meetB s q = true) → D.length ≤ q.length
  | [], _, _, _ => Nat.zero_le _
  | s :: D, q, hd, hq => by
    obtain ⟨p, hp, h1, h2⟩ := meetB_iff.1 (hq s (List.mem_cons_self ..))
    have hd' := List.pairwise_cons.1 hd
    have := stab_len (D := D) (q := q.erase p) hd'.2 fun t ht => by
      obtain ⟨p', hp', h3, h4⟩ := meetB_iff.1 (hq t (List.mem_cons_of_mem _ ht))
      refine meetB_iff.2 ⟨p', (List.mem_erase_of_ne ?_).2 hp', h3, h4⟩
      rintro rfl
      have := disjB_iff.1 (hd'.1 t ht)
      omega
    have hl := List.length_erase_of_mem hp
    have hpos := List.length_pos_of_mem hp
    rw [List.length_cons]
    omega
theorem Chain.family {l : List Sp} (hw : Wf l) {aps : List Nat} {P : Int} (h : Chain l P aps) : (aps.map (at_ l)).Pairwise (fun s t => disjB s t = true) ∧ ∀ s, s ∈ aps.map (at_ l) → s ∈ l :=
  ⟨(h.disj hw).imp fun {s t} h => disjB_iff.2 (.inl h), fun s hs => by
    obtain ⟨i, hi, rfl⟩ := List.mem_map.1 hs
    have : i < l.length := by rcases h.in i hi with h | h <;> first | exact h.1 | exact h
    rw [at_get this]
    exact List.getElem_mem this⟩
theorem Chain.stabs {l : List Sp} (hw : Wf l) {aps : List Nat} (h : Chain l (-40000) aps) {s : Sp} (hs : s ∈ l) : meetB s (ptsOf l aps) = true := by
  obtain ⟨j, hj, rfl⟩ := at_mem hs
  exact h.meets hw j hj (by have := hw.at hj; omega)
/-- Whatever points meet the list are at least as many as the plan's. -/
theorem Chain.least {l : List Sp} (hw : Wf l) {aps : List Nat} {P : Int} (h : Chain l P aps) {q : List Int} (hq : ∀ s, s ∈ l → meetB s q = true) : aps.length ≤ q.length := by
  obtain ⟨h1, h2⟩ := h.family hw
  have := stab_len h1 fun s hs => hq s (h2 s hs)
  rwa [List.length_map] at this
theorem ptsOf_len (l : List Sp) (aps : List Nat) : (ptsOf l aps).length = aps.length := List.length_map _
theorem accepted {l : List Sp} {pts aps : List Int} (h : checkB l pts aps = true) {c : List Nat} (hch : Chain l (-40000) c) : meetsB l pts = true ∧ pts.length = c.length := by
  simp only [checkB, Bool.and_eq_true, decide_eq_true_eq] at h
  obtain ⟨hv, hlen, _, hm, hin, hd⟩ := h
  have hw : Wf l := valid_in hv
  refine ⟨hm, ?_⟩
  have h1 := hch.least hw (q := pts) fun s hs => List.all_eq_true.1 hm s hs
  have h2 := stab_len (D := chosen l aps) (q := ptsOf l c) (of_decide_eq_true hd) fun s hs => by
    obtain ⟨i, hi, rfl⟩ := List.mem_map.1 hs
    have h3 := List.all_eq_true.1 hin i hi
    simp only [inrB, Bool.and_eq_true, decide_eq_true_eq] at h3
    have hil : i.toNat < l.length := by omega
    rw [at_get hil]
    exact hch.stabs hw (List.getElem_mem hil)
  rw [chosen_len, ptsOf_len] at h2
  omega

/-! ### the points alone -/
/-- The points of the plan behind P, told of the set of spans. -/
def PC (l : List Sp) : Int → List Int → Prop
  | P, [] => ∀ s, s ∈ l → s.1 ≤ P
  | P, q :: r => (∃ s, s ∈ l ∧ P < s.1 ∧ s.2 = q) ∧ (∀ s, s ∈ l → P < s.1 → q ≤ s.2) ∧ PC l q r
theorem PC.unique {l : List Sp} : ∀ {xs ys : List Int} {P : Int}, PC l P xs → PC l P ys → xs = ys
  | [], [], _, _, _ => rfl
  | [], y :: ys, P, hx, hy => by obtain ⟨s, h1, h2, _⟩ := hy.1; have := hx s h1; omega
  | x :: xs, [], P, hx, hy => by obtain ⟨s, h1, h2, _⟩ := hx.1; have := hy s h1; omega
  | x :: xs, y :: ys, P, hx, hy => by
    obtain ⟨s, h1, h2, h3⟩ := hx.1
    obtain ⟨t, h4, h5, h6⟩ := hy.1
    have h7 := hx.2.1 t h4 h5
    have h8 := hy.2.1 s h1 h2
    obtain rfl : x = y := by omega
    rw [PC.unique hx.2.2 hy.2.2]
theorem PC.congr {l l' : List Sp} (h : ∀ s, s ∈ l ↔ s ∈ l') : ∀ {xs : List Int} {P : Int}, PC l P xs → PC l' P xs
  | [], P, hx => fun s hs => hx s ((h s).2 hs)
  | x :: xs, P, hx => by
    obtain ⟨s, h1, h2, h3⟩ := hx.1
    exact ⟨⟨s, (h s).1 h1, h2, h3⟩, fun s hs => hx.2.1 s ((h s).2 hs), PC.congr h hx.2.2⟩
theorem Chain.pc {l : List Sp} : ∀ {aps : List Nat} {P : Int}, Chain l P aps → PC l P (ptsOf l aps)
  | [], P, h => fun s hs => by obtain ⟨j, hj, rfl⟩ := at_mem hs; exact h j hj
  | i :: r, P, h => by
    refine ⟨⟨at_ l i, ?_, h.2.1, rfl⟩, fun s hs hP => ?_, Chain.pc h.2.2.2⟩
    · rw [at_get h.1]; exact List.getElem_mem h.1
    · obtain ⟨j, hj, rfl⟩ := at_mem hs
      rcases h.2.2.1 j hj hP with h1 | rfl
      · show till l i ≤ till l j
        rcases h1 with h1 | h1 <;> omega
      · exact Int.le_refl _
/-- Where all spans lie behind both, it begins alike. -/
theorem PC.start {l : List Sp} {P P' : Int} (h : ∀ s, s ∈ l → P < s.1) (h' : ∀ s, s ∈ l → P' < s.1) : ∀ {xs : List Int}, PC l P xs → PC l P' xs
  | [], hx => fun s hs => by have := h s hs; have := hx s hs; omega
  | x :: xs, hx => by
    obtain ⟨s, h1, h2, h3⟩ := hx.1
    exact ⟨⟨s, h1, h' s h1, h3⟩, fun s hs _ => hx.2.1 s hs (h s hs), hx.2.2⟩
theorem PC.move {l : List Sp} {d : Int} : ∀ {xs : List Int} {P : Int}, PC l P xs → PC (l.map fun s => (s.1 + d, s.2 + d)) (P + d) (xs.map (· + d))
  | [], P, hx => fun s hs => by
    obtain ⟨t, ht, rfl⟩ := List.mem_map.1 hs
    have := hx t ht
    simp only; omega
  | x :: xs, P, hx => by
    obtain ⟨s, h1, h2, h3⟩ := hx.1
    refine ⟨⟨(s.1 + d, s.2 + d), List.mem_map.2 ⟨s, h1, rfl⟩, by simp only; omega, by simp only; omega⟩, fun s hs hP => ?_, PC.move hx.2.2⟩
    obtain ⟨t, ht, rfl⟩ := List.mem_map.1 hs
    have := hx.2.1 t ht (by simp only at hP; omega)
    simp only; omega
theorem PC.append {a b : List Sp} {m : Int} (ha : ∀ s, s ∈ a → s.2 ≤ m) (hb : ∀ s, s ∈ b → m < s.1 ∧ s.1 ≤ s.2) : ∀ {xs ys : List Int} {P P0 : Int}, PC a P xs → P ≤ m → P0 ≤ m → PC b P0 ys → PC (a ++ b) P (xs ++ ys)
  | [], ys, P, P0, hx, hP, hP0, hy => by
    have hy := hy.start (P' := P) (fun s hs => by have := hb s hs; omega) (fun s hs => by have := hb s hs; omega)
    have : ∀ {ys : List Int} {P : Int}, (∀ s, s ∈ a → s.1 ≤ P) → PC b P ys → PC (a ++ b) P ys := by
      intro ys
      induction ys with
      | nil => intro P hx hy s hs; rcases List.mem_append.1 hs with h | h
               · exact hx s h
               · exact hy s h
      | cons y ys ih =>
        intro P hx hy
        obtain ⟨s, h1, h2, h3⟩ := hy.1
        have hs := hb s h1
        refine ⟨⟨s, List.mem_append_right _ h1, h2, h3⟩, fun t ht htP => ?_, ih (fun t ht => by have := hx t ht; omega) hy.2.2⟩
        rcases List.mem_append.1 ht with h | h
        · have := hx t h; omega
        · exact hy.2.1 t h htP
    exact this hx hy
  | x :: xs, ys, P, P0, hx, hP, hP0, hy => by
    obtain ⟨s, h1, h2, h3⟩ := hx.1
    have hs := ha s h1
    refine ⟨⟨s, List.mem_append_left _ h1, h2, h3⟩, fun t ht htP => ?_, PC.append ha hb hx.2.2 (by omega) hP0 hy⟩
    rcases List.mem_append.1 ht with h | h
    · exact hx.2.1 t h htP
    · have := hb t h; omega

/-! ### more spans, wider ones, turned ones -/
theorem further_len {l : List Sp} {s : Sp} (hw : Wf l) (hw' : Wf (l ++ [s])) {c c' : List Nat} (h : Chain l (-40000) c) (h' : Chain (l ++ [s]) (-40000) c') : c'.length = c.length ∨ c'.length = c.length + 1 := by
  have h1 := h.least hw (q := ptsOf (l ++ [s]) c') fun t ht => h'.stabs hw' (List.mem_append_left _ ht)
  have hs := hw' s (by simp)
  have h2 := h'.least hw' (q := ptsOf l c ++ [s.2]) fun t ht => by
    rcases List.mem_append.1 ht with ht | ht
    · obtain ⟨p, hp, hp1⟩ := meetB_iff.1 (h.stabs hw ht)
      exact meetB_iff.2 ⟨p, List.mem_append_left _ hp, hp1⟩
    · rw [List.mem_singleton] at ht
      subst ht
      exact meetB_iff.2 ⟨t.2, by simp, by omega, by omega⟩
  rw [List.length_append, ptsOf_len, List.length_singleton] at h2
  rw [ptsOf_len] at h1
  omega
theorem wide_len {l : List Sp} {k : Nat} {left right : Int} (hk : k < l.length) (h0 : 0 ≤ left) (h1 : 0 ≤ right) (hw : Wf l) (hw' : Wf (l.set k ((at_ l k).1 - left, (at_ l k).2 + right))) {c c' : List Nat} (h : Chain l (-40000) c) (h' : Chain (l.set k ((at_ l k).1 - left, (at_ l k).2 + right)) (-40000) c') : c'.length ≤ c.length := by
  have := h'.least hw' (q := ptsOf l c) fun t ht => by
    obtain ⟨i, hi, rfl⟩ := List.getElem_of_mem ht
    rw [List.length_set] at hi
    rw [List.getElem_set]
    split
    · rename_i e
      subst e
      obtain ⟨p, hp, hp1, hp2⟩ := meetB_iff.1 (h.stabs hw (List.getElem_mem hi))
      rw [at_get hi]
      exact meetB_iff.2 ⟨p, hp, by simp only; omega, by simp only; omega⟩
    · exact h.stabs hw (List.getElem_mem hi)
  rwa [ptsOf_len] at this
theorem turned_len {l : List Sp} (hw : Wf l) (hw' : Wf (l.map fun s => (-s.2, -s.1))) {c c' : List Nat} (h : Chain l (-40000) c) (h' : Chain (l.map fun s => (-s.2, -s.1)) (-40000) c') : c'.length = c.length := by
  have h1 := h.least hw (q := (ptsOf (l.map fun s => (-s.2, -s.1)) c').map (- ·)) fun t ht => by
    obtain ⟨p, hp, hp1, hp2⟩ := meetB_iff.1 (h'.stabs hw' (List.mem_map.2 ⟨t, ht, rfl⟩))
    exact meetB_iff.2 ⟨-p, List.mem_map.2 ⟨p, hp, rfl⟩, by simp only at hp2; omega, by simp only at hp1; omega⟩
  have h2 := h'.least hw' (q := (ptsOf l c).map (- ·)) fun t ht => by
    obtain ⟨s, hs, rfl⟩ := List.mem_map.1 ht
    obtain ⟨p, hp, hp1, hp2⟩ := meetB_iff.1 (h.stabs hw hs)
    exact meetB_iff.2 ⟨-p, List.mem_map.2 ⟨p, hp, rfl⟩, by simp only; omega, by simp only; omega⟩
  rw [List.length_map, ptsOf_len] at h1 h2
  omega
end Go.Proofs.Ytjgdmjoafpbnaaa
