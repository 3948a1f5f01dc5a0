/- Stable sorting, told of lists: runs that are merged. -/
import Derived.Test.YtejpfdhlpcgfkaaAbsT
set_option linter.unusedVariables false
set_option linter.unusedSimpArgs false
set_option linter.unusedSectionVars false
namespace Go.Sm

section
variable {α : Type} (key : α → Int) (tag : α → Nat)
/-- x comes before y: by the key, then by the tag. -/
def bef (x y : α) : Prop := key x < key y ∨ (key x = key y ∧ tag x < tag y)
variable {key tag}
theorem bef.trans {x y z : α} (h : bef key tag x y) (k : bef key tag y z) : bef key tag x z := by
  unfold bef at *; omega
theorem bef_irrefl (x : α) : ¬bef key tag x x := by unfold bef; omega
theorem bef_of_lt {x y : α} (h : key x < key y) : bef key tag x y := .inl h
theorem bef_of_le {x y : α} (h : key x ≤ key y) (ht : tag x < tag y) : bef key tag x y := by unfold bef; omega

/-- A list is sorted if its parts are, and what ends the one comes before what begins the other. -/
theorem sorted_app {l r : List α} (hl : l.Pairwise (bef key tag)) (hr : r.Pairwise (bef key tag)) (h : ∀ x y, l.getLast? = some x → r.head? = some y → bef key tag x y) : (l ++ r).Pairwise (bef key tag) := by
  rw [List.pairwise_append]
  refine ⟨hl, hr, fun x hx y hy => ?_⟩
  rcases List.eq_nil_or_concat l with rfl | ⟨l', z, rfl⟩
  · cases hx
  · cases r with
    | nil => cases hy
    | cons u r =>
      rw [List.concat_eq_append] at *
      have hzu := h z u (by simp) rfl
      have hxz : x = z ∨ bef key tag x z := by
        rcases List.mem_append.1 hx with hx | hx
        · exact .inr ((List.pairwise_append.1 hl).2.2 x hx z (by simp))
        · exact .inl (by simpa using hx)
      have huy : u = y ∨ bef key tag u y := by
        rcases List.mem_cons.1 hy with hy | hy
        · exact .inl hy.symm
        · exact .inr ((List.pairwise_cons.1 hr).1 y hy)
      rcases hxz with rfl | hxz <;> rcases huy with rfl | huy
      · exact hzu
      · exact hzu.trans huy
      · exact hxz.trans hzu
      · exact (hxz.trans hzu).trans huy

/-- Two sorted rearrangements of one list are one. -/
theorem sorted_unique : ∀ {l r : List α}, l.Perm r → l.Pairwise (bef key tag) → r.Pairwise (bef key tag) → l = r
  | [], r, h, _, _ => (List.nil_perm.1 h).symm
  | x :: l, [], h, _, _ => by have := h.length_eq; simp at this
  | x :: l, y :: r, h, hl, hr => by
    have hxy : x = y := by
      rcases List.mem_cons.1 (h.mem_iff.1 (List.mem_cons_self ..)) with e | hx
      · exact e
      · rcases List.mem_cons.1 (h.mem_iff.2 (List.mem_cons_self ..)) with e | hy
        · exact e.symm
        · exact absurd (((List.pairwise_cons.1 hl).1 y hy).trans ((List.pairwise_cons.1 hr).1 x hx)) (bef_irrefl _)
    subst hxy
    rw [sorted_unique (List.Perm.cons_inv h) (List.pairwise_cons.1 hl).2 (List.pairwise_cons.1 hr).2]

variable (key tag)
/-- ys is xs, sorted in runs of s elements (the last one may have fewer). -/
inductive Runs (s : Nat) : List α → List α → Prop where
  | last {xs ys : List α} : xs.length ≤ s → ys.Perm xs → ys.Pairwise (bef key tag) → Runs s xs ys
  | cons {X Y xs ys : List α} : X.length = s → Y.Perm X → Y.Pairwise (bef key tag) → Runs s xs ys → Runs s (X ++ xs) (Y ++ ys)
variable {key tag}
theorem Runs.length {s : Nat} {xs ys : List α} (h : Runs key tag s xs ys) : ys.length = xs.length := by
  induction h with
  | last _ h _ => exact h.length_eq
  | cons _ h _ _ ih => simp only [List.length_append, ih, h.length_eq]
theorem Runs.perm {s : Nat} {xs ys : List α} (h : Runs key tag s xs ys) : ys.Perm xs := by
  induction h with
  | last _ h _ => exact h
  | cons _ h _ _ ih => exact h.append ih
theorem Runs.first {s : Nat} {xs ys : List α} (h : Runs key tag s xs ys) (hs : s ≤ xs.length) :
    ∃ X Y xs' ys', xs = X ++ xs' ∧ ys = Y ++ ys' ∧ X.length = s ∧ Y.Perm X ∧ Y.Pairwise (bef key tag) ∧ Runs key tag s xs' ys' := by
  cases h with
  | last h1 h2 h3 => exact ⟨xs, ys, [], [], by simp, by simp, by omega, h2, h3, .last (Nat.zero_le _) (List.Perm.refl _) List.Pairwise.nil⟩
  | cons h1 h2 h3 h4 => exact ⟨_, _, _, _, rfl, rfl, h1, h2, h3, h4⟩
theorem Runs.one {s : Nat} {xs ys : List α} (h : Runs key tag s xs ys) (hs : xs.length ≤ s) (h0 : 0 < s) : ys.Perm xs ∧ ys.Pairwise (bef key tag) := by
  cases h with
  | last _ h2 h3 => exact ⟨h2, h3⟩
  | cons h1 h2 h3 h4 =>
    rename_i X Y xs ys
    rw [List.length_append] at hs
    have hx : xs = [] := List.eq_nil_of_length_eq_zero (by omega)
    have hy : ys = [] := List.eq_nil_of_length_eq_zero (by rw [h4.length, hx]; rfl)
    subst hx; subst hy
    simpa using ⟨h2, h3⟩
/-- Runs that may stand ahead of others. -/
def Ahead (key : α → Int) (tag : α → Nat) (s : Nat) (X Y : List α) : Prop := ∀ xs ys, Runs key tag s xs ys → Runs key tag s (X ++ xs) (Y ++ ys)
theorem Ahead.nil {s : Nat} : Ahead key tag s [] [] := fun _ _ h => h
theorem Ahead.snoc {s : Nat} {X Y A B : List α} (h : Ahead key tag s X Y) (h1 : A.length = s) (h2 : B.Perm A) (h3 : B.Pairwise (bef key tag)) : Ahead key tag s (X ++ A) (Y ++ B) := fun xs ys hr => by
  rw [List.append_assoc, List.append_assoc]
  exact h _ _ (.cons h1 h2 h3 hr)

/-! ### exchanges -/
theorem set_app {β : Type} (u : List β) (x y : β) (w : List β) : (u ++ x :: w).set u.length y = u ++ y :: w := by
  rw [List.set_append_right _ _ (Nat.le_refl _), Nat.sub_self]; rfl
theorem swap_two {β : Type} (u v w : List β) (x y : β) {i j : Nat} (hi : i = u.length) (hj : j = u.length + 1 + v.length) : ((u ++ x :: (v ++ y :: w)).set i y).set j x = u ++ y :: (v ++ x :: w) := by
  subst hi; subst hj
  rw [set_app]
  have : (u ++ y :: (v ++ y :: w)) = (u ++ y :: v) ++ y :: w := by simp
  rw [this]
  have hl : u.length + 1 + v.length = (u ++ y :: v).length := by simp; omega
  rw [hl, set_app]
  simp
theorem swap_two' {β : Type} (u v w : List β) (x y : β) {i j : Nat} (hi : i = u.length) (hj : j = u.length + 1 + v.length) : ((u ++ x :: (v ++ y :: w)).set j x).set i y = u ++ y :: (v ++ x :: w) := by
  subst hi; subst hj
  have : (u ++ x :: (v ++ y :: w)) = (u ++ x :: v) ++ y :: w := by simp
  have hl : u.length + 1 + v.length = (u ++ x :: v).length := by simp; omega
  rw [this, hl, set_app]
  have : ((u ++ x :: v) ++ x :: w) = u ++ x :: (v ++ x :: w) := by simp
  rw [this, set_app]
theorem get_app {β : Type} (u : List β) (x : β) (w : List β) {i : Nat} (hi : i = u.length) : (u ++ x :: w)[i]? = some x := by
  subst hi; simp
theorem get_app2 {β : Type} (u v w : List β) (x y : β) {j : Nat} (hj : j = u.length + 1 + v.length) : (u ++ x :: (v ++ y :: w))[j]? = some y := by
  subst hj
  have : (u ++ x :: (v ++ y :: w)) = (u ++ x :: v) ++ y :: w := by simp
  rw [this]
  exact get_app _ _ _ (by simp; omega)
end
end Go.Sm
namespace Go.Sm
section
variable {α : Type} {key : α → Int} {tag : α → Nat}
theorem bef_all {l r : List α} (hl : l.Pairwise (bef key tag)) (hr : r.Pairwise (bef key tag)) (h : ∀ x y, l.getLast? = some x → r.head? = some y → bef key tag x y) : ∀ x, x ∈ l → ∀ y, y ∈ r → bef key tag x y :=
  (List.pairwise_append.1 (sorted_app hl hr h)).2.2
/-- Two sorted lists, each parted, so that the first parts come before the second ones. -/
theorem sym_merge {A1 A2 B1 B2 M1 M2 : List α} (hA : (A1 ++ A2).Pairwise (bef key tag)) (hB : (B1 ++ B2).Pairwise (bef key tag))
    (h1 : ∀ x y, A1.getLast? = some x → B2.head? = some y → bef key tag x y) (h2 : ∀ x y, B1.getLast? = some x → A2.head? = some y → bef key tag x y)
    (p1 : M1.Perm (A1 ++ B1)) (s1 : M1.Pairwise (bef key tag)) (p2 : M2.Perm (A2 ++ B2)) (s2 : M2.Pairwise (bef key tag)) :
    (M1 ++ M2).Perm ((A1 ++ A2) ++ (B1 ++ B2)) ∧ (M1 ++ M2).Pairwise (bef key tag) := by
  have a := List.pairwise_append.1 hA
  have b := List.pairwise_append.1 hB
  refine ⟨?_, ?_⟩
  · refine (p1.append p2).trans ?_
    rw [List.append_assoc, List.append_assoc]
    refine List.Perm.append_left _ ?_
    rw [← List.append_assoc, ← List.append_assoc]
    exact List.Perm.append_right _ List.perm_append_comm
  · rw [List.pairwise_append]
    refine ⟨s1, s2, fun x hx y hy => ?_⟩
    rcases List.mem_append.1 (p1.mem_iff.1 hx) with hx | hx <;> rcases List.mem_append.1 (p2.mem_iff.1 hy) with hy | hy
    · exact a.2.2 x hx y hy
    · exact bef_all a.1 b.2.1 h1 x hx y hy
    · exact bef_all b.1 a.2.1 h2 x hx y hy
    · exact b.2.2 x hx y hy
theorem insert_sorted {S1 S2 : List α} {x : α} (h : (S1 ++ S2).Pairwise (bef key tag)) (h1 : ∀ y, S1.getLast? = some y → bef key tag y x) (h2 : ∀ y, S2.head? = some y → bef key tag x y) : (S1 ++ x :: S2).Pairwise (bef key tag) := by
  have a := List.pairwise_append.1 h
  refine sorted_app a.1 (List.pairwise_cons.2 ⟨fun y hy => ?_, a.2.1⟩) fun y z hy hz => by cases hz; exact h1 y hy
  exact bef_all (l := [x]) (List.pairwise_singleton _ _) a.2.1 (fun u v hu hv => by cases hu; exact h2 v hv) x (List.mem_singleton.2 rfl) y hy
theorem insert_perm {S1 S2 : List α} {x : α} : (S1 ++ x :: S2).Perm (x :: (S1 ++ S2)) := List.perm_middle
end
end Go.Sm
namespace Go.Sm
theorem swap_adj {β : Type} (u w : List β) (x y : β) {i j : Nat} (hi : i = u.length) (hj : j = u.length + 1) : ((u ++ x :: y :: w).set i y).set j x = u ++ y :: x :: w :=
  swap_two u [] w x y hi (by simpa using hj)
theorem swap_adj' {β : Type} (u w : List β) (x y : β) {i j : Nat} (hi : i = u.length) (hj : j = u.length + 1) : ((u ++ x :: y :: w).set j x).set i y = u ++ y :: x :: w :=
  swap_two' u [] w x y hi (by simpa using hj)
theorem get_adj {β : Type} (u w : List β) (x y : β) {j : Nat} (hj : j = u.length + 1) : (u ++ x :: y :: w)[j]? = some y :=
  get_app2 u [] w x y (by simpa using hj)
end Go.Sm
