/- The reference's Median and Latest: the plain laws. -/
import Derived.Test.YtejpfdhlpcgfkaaVj
set_option linter.unusedVariables false
set_option linter.unusedSimpArgs false
set_option linter.unusedSectionVars false
namespace Go.Proofs.Ytejpfdhlpcgfkaa
open Go.Abs Go.Sm
set_option maxHeartbeats 8000000
set_option maxRecDepth 100000
/-! ### the median by ranks -/
def rank (l : List Int) (i : Nat) (x : Int) : Nat := l.countP (fun y => decide (y < x)) + (l.take i).count x
theorem le_split (l : List Int) (x : Int) : l.countP (fun y => decide (y ≤ x)) = l.countP (fun y => decide (y < x)) + l.count x := by
  induction l with
  | nil => rfl
  | cons y l ih =>
    simp only [List.countP_cons, List.count_cons, ih, decide_eq_true_eq, beq_iff_eq]
    by_cases h1 : y < x
    · rw [if_pos (by omega), if_pos h1, if_neg (by omega)]; omega
    · by_cases h2 : y = x
      · rw [if_pos (by omega), if_neg h1, if_pos h2]; omega
      · rw [if_neg (by omega), if_neg h1, if_neg h2]; omega
theorem lt_pred (l : List Int) (x : Int) : l.countP (fun y => decide (y < x)) = l.countP (fun y => decide (y ≤ x - 1)) := by
  congr 1
  funext y
  exact decide_eq_decide.2 (by omega)
theorem le_mono (l : List Int) {x y : Int} (h : x < y) : l.countP (fun z => decide (z ≤ x)) ≤ l.countP (fun z => decide (z < y)) :=
  List.countP_mono_left fun z _ hz => by simp only [decide_eq_true_eq] at hz ⊢; omega
theorem count_take_lt {l : List Int} {i : Nat} (hi : i < l.length) : (l.take i).count l[i] < l.count l[i] := by
  have h1 : (l.take (i + 1)).count l[i] = (l.take i).count l[i] + 1 := by
    rw [List.take_succ_eq_append_getElem hi, List.count_append]; simp
  have h2 := (List.take_sublist (i + 1) l).count_le l[i]
  omega
theorem count_at : ∀ {l : List Int} {x : Int} {j : Nat}, j < l.count x → ∃ (i : Nat) (h : i < l.length), l[i] = x ∧ (l.take i).count x = j
  | [], x, j, h => by simp at h
  | y :: l, x, j, h => by
    by_cases hy : y = x
    · subst hy
      cases j with
      | zero => exact ⟨0, by simp, rfl, rfl⟩
      | succ j =>
        rw [List.count_cons_self] at h
        obtain ⟨i, h1, h2, h3⟩ := count_at (l := l) (x := y) (j := j) (by omega)
        exact ⟨i + 1, by simpa using h1, by simpa using h2, by rw [List.take_succ_cons, List.count_cons_self, h3]⟩
    · rw [List.count_cons_of_ne hy] at h
      obtain ⟨i, h1, h2, h3⟩ := count_at (l := l) (x := x) (j := j) h
      exact ⟨i + 1, by simpa using h1, by simpa using h2, by rw [List.take_succ_cons, List.count_cons_of_ne hy, h3]⟩
theorem rank_med {l : List Int} {i : Nat} (hi : i < l.length) (h : rank l i l[i] = (l.length - 1) / 2) : l[i] = med l := by
  have h0 : l.length ≠ 0 := by omega
  have h1 := count_take_lt hi
  have h2 := le_split l l[i]
  rw [rank] at h
  rcases Int.lt_trichotomy l[i] (med l) with hlt | heq | hgt
  · have := below_k h0 hlt
    omega
  · exact heq
  · have h3 := low_k h0
    have h4 := le_mono l hgt
    omega
theorem rank_exists {l : List Int} (h0 : l.length ≠ 0) : ∃ (i : Nat) (h : i < l.length), rank l i l[i] = (l.length - 1) / 2 := by
  have h1 : l.countP (fun y => decide (y < med l)) ≤ (l.length - 1) / 2 := by
    rw [lt_pred]; exact below_k h0 (by omega)
  have h2 := low_k h0
  rw [le_split] at h2
  obtain ⟨i, hi, hx, hc⟩ := count_at (l := l) (x := med l) (j := (l.length - 1) / 2 - l.countP (fun y => decide (y < med l))) (by omega)
  exact ⟨i, hi, by rw [rank, hx, hc]; omega⟩

/-! ### the latest ones, by their numbers in the list -/
def lat (l : List Cal) (i : Nat) : Cal := l.getD i cal0
def apps (l : List Cal) (w : Want) : List Nat := (List.range l.length).filter fun i => w.app (lat l i)
def bfL (l : List Cal) (i j : Nat) : Prop := (lat l j).at_ < (lat l i).at_ ∨ ((lat l i).at_ = (lat l j).at_ ∧ j < i)
theorem lat_get {l : List Cal} {i : Nat} (h : i < l.length) : lat l i = l[i] := by
  rw [lat, List.getD_eq_getElem?_getD, List.getElem?_eq_getElem h]; rfl
theorem lat_range (l : List Cal) : (List.range l.length).map (lat l) = l := by
  apply List.ext_getElem
  · simp
  · intro i h1 h2
    simp only [List.getElem_map, List.getElem_range]
    exact lat_get h2
theorem used_apps (l : List Cal) (w : Want) : usedL l w = (apps l w).reverse.map (lat l) := by
  have e : l.reverse = (List.range l.length).reverse.map (lat l) := by rw [List.map_reverse, lat_range]
  rw [usedL]
  conv => lhs; rw [e]
  rw [List.filter_map, apps, ← List.filter_reverse]
  rfl
theorem order_S {l : List Cal} {w : Want} {Y : List Nat} (h : Order (usedL l w) Y) : ∃ S : List Nat, S.Perm (apps l w) ∧ S.Pairwise (bfL l) ∧ S.map (lat l) = Y.map fun i => (usedL l w).getD i cal0 := by
  have hu := used_apps l w
  have hdec : (apps l w).reverse.Pairwise (fun a b => b < a) := by
    rw [List.pairwise_reverse]
    exact List.pairwise_lt_range.filter _
  obtain ⟨B, hB⟩ : ∃ B, B = (apps l w).reverse := ⟨_, rfl⟩
  rw [← hB] at hu hdec
  have hlen : (usedL l w).length = B.length := by rw [hu, List.length_map]
  have hin : ∀ y, y ∈ Y → y < B.length := fun y hy => by
    have := h.1.mem_iff.1 hy
    rw [List.mem_range] at this; omega
  have hBg : ∀ y, y < B.length → lat l (B.getD y 0) = (usedL l w).getD y cal0 := fun y hy => by
    rw [hu, List.getD_eq_getElem?_getD, List.getD_eq_getElem?_getD, List.getElem?_map, List.getElem?_eq_getElem hy]; rfl
  have hBr : (List.range B.length).map (fun i => B.getD i 0) = B := by
    apply List.ext_getElem
    · simp
    · intro i h1 h2
      simp only [List.getElem_map, List.getElem_range]
      rw [List.getD_eq_getElem?_getD, List.getElem?_eq_getElem h2]; rfl
  refine ⟨Y.map fun i => B.getD i 0, ?_, ?_, ?_⟩
  · have h1 := h.1.map (fun i => B.getD i 0)
    rw [hlen, hBr] at h1
    exact h1.trans (by rw [hB]; exact List.reverse_perm _)
  · rw [List.pairwise_map]
    refine h.2.imp_of_mem fun {a b} ha hb hab => ?_
    have ga := hBg a (hin a ha)
    have gb := hBg b (hin b hb)
    simp only [bf, bef] at hab
    rw [bfL, ga, gb]
    rcases hab with h1 | ⟨h1, h2⟩
    · left; omega
    · right
      refine ⟨by omega, ?_⟩
      have h3 := List.pairwise_iff_getElem.1 hdec a b (hin a ha) (hin b hb) h2
      rw [List.getD_eq_getElem?_getD, List.getD_eq_getElem?_getD, List.getElem?_eq_getElem (hin a ha), List.getElem?_eq_getElem (hin b hb)]
      exact h3
  · rw [List.map_map]
    exact List.map_congr_left fun y hy => hBg y (hin y hy)
theorem mem_apps {l : List Cal} {w : Want} {i : Nat} : i ∈ apps l w ↔ i < l.length ∧ w.app (lat l i) = true := by
  rw [apps, List.mem_filter, List.mem_range]
theorem apps_nodup (l : List Cal) (w : Want) : (apps l w).Nodup := List.nodup_range.filter _
theorem bfL_anti {l : List Cal} {i j : Nat} (h : bfL l i j) (h' : bfL l j i) : False := by
  simp only [bfL] at h h'; omega
theorem bfL_trans {l : List Cal} {i j k : Nat} (h : bfL l i j) (h' : bfL l j k) : bfL l i k := by
  simp only [bfL] at h h' ⊢; omega
theorem S_unique {l : List Cal} {w : Want} {S S' : List Nat} (h1 : S.Perm (apps l w)) (h2 : S.Pairwise (bfL l)) (h3 : S'.Perm (apps l w)) (h4 : S'.Pairwise (bfL l)) : S = S' :=
  List.Perm.eq_of_pairwise (le := bfL l) (fun a b _ _ h h' => (bfL_anti h h').elim) h2 h4 (h1.trans h3.symm)
instance (l : List Cal) (i j : Nat) : Decidable (bfL l i j) := inferInstanceAs (Decidable ((lat l j).at_ < (lat l i).at_ ∨ ((lat l i).at_ = (lat l j).at_ ∧ j < i)))
theorem exists_S (l : List Cal) (w : Want) : ∃ S : List Nat, S.Perm (apps l w) ∧ S.Pairwise (bfL l) := by
  have hp : ((apps l w).mergeSort fun a b => decide (a = b ∨ bfL l a b)).Perm (apps l w) := List.mergeSort_perm _ _
  refine ⟨_, hp, ?_⟩
  have h1 := List.pairwise_mergeSort (le := fun a b => decide (a = b ∨ bfL l a b)) (fun a b c h1 h2 => by
    simp only [decide_eq_true_eq] at h1 h2 ⊢
    rcases h1 with rfl | h1
    · exact h2
    · rcases h2 with rfl | h2
      · exact .inr h1
      · exact .inr (bfL_trans h1 h2)) (fun a b => by
    have h : (a = b ∨ bfL l a b) ∨ (b = a ∨ bfL l b a) := by simp only [bfL]; omega
    simpa using h) (apps l w)
  have h2 : ((apps l w).mergeSort fun a b => decide (a = b ∨ bfL l a b)).Nodup := hp.nodup_iff.2 (apps_nodup l w)
  exact h1.imp₂ (fun a b h3 h4 => by
    simp only [decide_eq_true_eq] at h3
    exact h3.resolve_left h4) h2
theorem cand_drop {l : List Cal} {w : Want} {S : List Nat} {r i : Nat} (hp : S.Perm (apps l w)) : (i < l.length ∧ w.app (lat l i) = true ∧ i ∉ S.take r) ↔ i ∈ S.drop r := by
  have hn : S.Nodup := hp.nodup_iff.2 (apps_nodup l w)
  have hm : i ∈ S ↔ i < l.length ∧ w.app (lat l i) = true := hp.mem_iff.trans mem_apps
  rw [← List.take_append_drop r S, List.nodup_append] at hn
  constructor
  · rintro ⟨h1, h2, h3⟩
    have h4 := hm.2 ⟨h1, h2⟩
    rw [← List.take_append_drop r S, List.mem_append] at h4
    exact h4.resolve_left h3
  · intro h
    have h4 := hm.1 (List.mem_of_mem_drop h)
    exact ⟨h4.1, h4.2, fun h5 => hn.2.2 _ h5 _ h rfl⟩
theorem none_is {l : List Cal} {w : Want} {S : List Nat} {r : Nat} (hp : S.Perm (apps l w)) (hno : ∀ i, i < l.length → ¬(w.app (lat l i) = true ∧ i ∉ S.take r)) : S.length ≤ r := by
  rcases Nat.lt_or_ge r S.length with h | h
  · have hm : S[r] ∈ S.drop r := by
      rw [List.drop_eq_getElem_cons h]; exact List.mem_cons_self ..
    obtain ⟨h1, h2, h3⟩ := (cand_drop hp).2 hm
    exact absurd ⟨h2, h3⟩ (hno _ h1)
  · exact h
theorem best_is {l : List Cal} {w : Want} {S : List Nat} {r j : Nat} (hp : S.Perm (apps l w)) (hs : S.Pairwise (bfL l)) (h1 : j < l.length) (h2 : w.app (lat l j) = true) (h3 : j ∉ S.take r)
    (hmax : ∀ i, i < l.length → w.app (lat l i) = true ∧ i ∉ S.take r → i = j ∨ bfL l j i) : ∃ h : r < S.length, S[r] = j := by
  have hj := (cand_drop (r := r) hp).1 ⟨h1, h2, h3⟩
  have hr : r < S.length := by
    rcases Nat.lt_or_ge r S.length with h | h
    · exact h
    · rw [List.drop_of_length_le h] at hj; cases hj
  refine ⟨hr, ?_⟩
  have hd := List.drop_eq_getElem_cons hr
  have hs2 : (S.drop r).Pairwise (bfL l) := hs.sublist (List.drop_sublist r S)
  rw [hd] at hj hs2
  rcases List.mem_cons.1 hj with h | h
  · exact h.symm
  · have h4 := (List.pairwise_cons.1 hs2).1 j h
    obtain ⟨g1, g2, g3⟩ := (cand_drop (r := r) hp).2 (show S[r] ∈ S.drop r by rw [hd]; exact List.mem_cons_self ..)
    rcases hmax _ g1 ⟨g2, g3⟩ with h5 | h5
    · exact h5
    · exact (bfL_anti h4 h5).elim
end Go.Proofs.Ytejpfdhlpcgfkaa
