/- Appending. -/
import Derived.Test.YtjdmndklnfhmjaaAbsP
set_option linter.unusedVariables false
set_option linter.unusedSimpArgs false
set_option linter.unusedSectionVars false
namespace Go.Abs
open Go.RowKit
section
variable {P : Program} {H : Hp}
theorem aload_length {a : Addr} {n : Nat} {cs : List Value} (h : aload H a n = some cs) : cs.length = n := by
  unfold aload at h
  split at h
  · split at h
    · injection h with h; subst h; simp; omega
    · cases h
  · cases h
theorem asource_slice {size r ro m c : Nat} {xs : List Value} (hx : aload H ⟨r, ro, none⟩ (m * size) = some xs) : asource H size (.slice (some ⟨r, ro, none⟩) m c) = some (m, xs) := by
  by_cases hm : m = 0
  · subst hm
    have := aload_length hx
    rw [Nat.zero_mul] at this
    rw [List.eq_nil_of_length_eq_zero this]
    rfl
  · simp only [asource, if_neg hm, hx, Option.map_some]
theorem append_row {t1 t2 e e2 : TypeId} {size bytes : Nat} {z : Value} (u1 : P.underlying t1 = some (.slice e)) (u2 : P.underlying t2 = some (.slice e2)) (hsz : tsz P e = some size) (hb : tbytes P e = some bytes) (hz : tzero P e = some z) (hzs : z.cells.size = size) (hb0 : bytes ≠ 0) (hs0 : size ≠ 0)
    {q n c m c' r ro : Nat} {cs xs : List Value} (hq : H.get q = .row cs true size) (hx : aload H ⟨r, ro, none⟩ (m * size) = some xs) (hx1 : xs.all one = true) (hcs : cs.length = n * size) (hbd : (n + m) * bytes ≤ 140737488355328) :
    aappend P H [t1, t2] (.slice (some ⟨q, 0, none⟩) n c) (.slice (some ⟨r, ro, none⟩) m c') = some (.slice (some ⟨H.next, 0, none⟩) (n + m) (n + m), (H.set q .dead).new (.row (cs ++ xs) true size)) := by
  have hl := aload_length hx
  simp only [aappend, u1, u2, hsz, hb, hz, asource_slice hx, Option.bind_some]
  rw [if_pos ⟨hzs, hb0, hx1, fun h0 => List.eq_nil_of_length_eq_zero (by rw [hl, h0, Nat.zero_mul]), hl⟩]
  simp only [hq]
  rw [if_pos ⟨trivial, hs0, by rw [Nat.zero_add, hcs], hbd⟩, List.drop_zero]
theorem append_none {t1 t2 e e2 : TypeId} {size bytes : Nat} {z : Value} (u1 : P.underlying t1 = some (.slice e)) (u2 : P.underlying t2 = some (.slice e2)) (hsz : tsz P e = some size) (hb : tbytes P e = some bytes) (hz : tzero P e = some z) (hzs : z.cells.size = size) (hb0 : bytes ≠ 0)
    {c m c' r ro : Nat} {xs : List Value} (hx : aload H ⟨r, ro, none⟩ (m * size) = some xs) (hx1 : xs.all one = true) (hm : m ≠ 0) (hbd : m * bytes ≤ 140737488355328) :
    aappend P H [t1, t2] (.slice none 0 c) (.slice (some ⟨r, ro, none⟩) m c') = some (.slice (some ⟨H.next, 0, none⟩) m m, H.new (.row xs true size)) := by
  have hl := aload_length hx
  simp only [aappend, u1, u2, hsz, hb, hz, asource_slice hx, Option.bind_some]
  rw [if_pos ⟨hzs, hb0, hx1, fun h0 => absurd h0 hm, hl⟩, if_pos ⟨trivial, hbd⟩, if_neg hm]
end
end Go.Abs
namespace Go.Abs
section
variable {P : Program} {H : Hp}
theorem mx_eq (a b : Int) : (if b > a then b else a) = max a b := by split <;> omega
theorem mn_eq (a b : Int) : (if b < a then b else a) = min a b := by split <;> omega
theorem bltn_max2 (ts : List TypeId) (k : IntKind) (a b : Int) : abuiltin P H .max ts [.int k a, .int k b] = some (.int k (max a b), H) := by
  rw [← mx_eq]; rfl
theorem bltn_min2 (ts : List TypeId) (k : IntKind) (a b : Int) : abuiltin P H .min ts [.int k a, .int k b] = some (.int k (min a b), H) := by
  rw [← mn_eq]; rfl
theorem bltn_max3 (ts : List TypeId) (k : IntKind) (a b c : Int) : abuiltin P H .max ts [.int k a, .int k b, .int k c] = some (.int k (max (max a b) c), H) := by
  rw [← mx_eq, ← mx_eq]; rfl
theorem bltn_min3 (ts : List TypeId) (k : IntKind) (a b c : Int) : abuiltin P H .min ts [.int k a, .int k b, .int k c] = some (.int k (min (min a b) c), H) := by
  rw [← mn_eq, ← mn_eq]; rfl
end
attribute [go_sem] bltn_max2 bltn_min2 bltn_max3 bltn_min3
end Go.Abs
namespace Go.Abs
open Go.RowKit
/-- A slice that the call itself has made (from block lo on), or none: its cells are cs. -/
def OwnSl (lo : Nat) (G : Hp) (a : Option Addr) (k : Nat) (cs : List Value) : Prop :=
  (a = none ∧ cs = []) ∨ ∃ q, a = some ⟨q, 0, none⟩ ∧ lo ≤ q ∧ q < G.next ∧ G.get q = .row cs true k
theorem OwnSl.none {lo k : Nat} {G : Hp} : OwnSl lo G .none k [] := .inl ⟨rfl, rfl⟩
theorem OwnSl.keeps {lo k : Nat} {G G' : Hp} {a : Option Addr} {cs : List Value} (h : OwnSl lo G a k cs) (hk : Keeps G G') : OwnSl lo G' a k cs := by
  rcases h with h | ⟨q, h1, h2, h3, h4⟩
  · exact .inl h
  · exact .inr ⟨q, h1, h2, Nat.lt_of_lt_of_le h3 hk.next, by rw [hk.get q h3]; exact h4⟩
theorem OwnSl.elems {lo s : Nat} {G : Hp} {a : Option Addr} {xs : List (List Value)} (h : OwnSl lo G a s xs.flatten) (hs : ∀ x, x ∈ xs → x.length = s) (h0 : s ≠ 0) : Elems G a s xs := by
  rcases h with ⟨h1, h2⟩ | ⟨q, h1, h2, h3, h4⟩
  · have : xs = [] := by
      cases xs with
      | nil => rfl
      | cons x xs =>
        have := hs x (List.mem_cons_self ..)
        rw [List.flatten_cons, List.append_eq_nil_iff] at h2
        rw [h2.1] at this
        exact absurd this.symm h0
    subst this
    exact Elems.nil
  · subst h1
    exact Elems.row h3 h4 hs
section
variable {P : Program} {G : Hp}
theorem append_own {t1 t2 e e2 : TypeId} {size bytes : Nat} {z : Value} (u1 : P.underlying t1 = some (.slice e)) (u2 : P.underlying t2 = some (.slice e2)) (hsz : tsz P e = some size) (hb : tbytes P e = some bytes) (hz : tzero P e = some z) (hzs : z.cells.size = size) (hb0 : bytes ≠ 0) (hs0 : size ≠ 0)
    {lo n c m c' r ro : Nat} {a : Option Addr} {cs xs : List Value} (ho : OwnSl lo G a size cs) (hx : aload G ⟨r, ro, none⟩ (m * size) = some xs) (hx1 : xs.all one = true) (hm : m ≠ 0) (hcs : cs.length = n * size) (hbd : (n + m) * bytes ≤ 140737488355328) :
    ∃ G', aappend P G [t1, t2] (.slice a n c) (.slice (some ⟨r, ro, none⟩) m c') = some (.slice (some ⟨G.next, 0, none⟩) (n + m) (n + m), G') ∧ G'.next = G.next + 1 ∧ G'.get G.next = .row (cs ++ xs) true size ∧
      (∀ b, b < G.next → (∀ q, a = some q → b ≠ q.block) → G'.get b = G.get b) ∧ G'.ob = G.ob := by
  rcases ho with ⟨rfl, rfl⟩ | ⟨q, rfl, h2, h3, h4⟩
  · have hn : n = 0 := by
      rcases Nat.eq_zero_or_pos n with h | h
      · exact h
      · have := Nat.mul_pos h (Nat.pos_of_ne_zero hs0); simp at hcs; omega
    subst hn
    rw [Nat.zero_add] at hbd ⊢
    exact ⟨_, append_none u1 u2 hsz hb hz hzs hb0 hx hx1 hm hbd, rfl, Hp.get_new_same _ _ _ rfl, fun b hb _ => Hp.get_new_ne _ _ _ (by omega), rfl⟩
  · refine ⟨_, append_row u1 u2 hsz hb hz hzs hb0 hs0 h4 hx hx1 hcs hbd, rfl, Hp.get_new_same (G.set q .dead) _ _ rfl, fun b hb hne => ?_, rfl⟩
    rw [Hp.get_new_ne (G.set q .dead) _ _ (by show b ≠ G.next; omega), Hp.get_set_ne _ _ _ _ (hne _ rfl)]
theorem OwnSl.lo_ne {lo k : Nat} {a : Option Addr} {cs : List Value} (h : OwnSl lo G a k cs) {b : Nat} (hb : b < lo) : ∀ q, a = some q → b ≠ q.block := by
  intro q hq
  rcases h with ⟨h1, _⟩ | ⟨q', h1, h2, _⟩
  · rw [h1] at hq; cases hq
  · rw [h1] at hq; cases hq; simp only; omega
end
end Go.Abs

namespace Go.Abs
open Go.RowKit
section
variable {P : Program} {G : Hp}
/-- The elements of a slice, as what is appended. -/
theorem Elems.whole {b o s : Nat} {xs : List (List Value)} (h : Elems G (some ⟨b, o, none⟩) s xs) (hs : ∀ x, x ∈ xs → x.length = s) (hn : xs ≠ []) : aload G ⟨b, o, none⟩ (xs.length * s) = some xs.flatten := by
  have h0 : 0 < xs.length := List.length_pos_iff.2 hn
  obtain ⟨b', o', e0, _, hl0⟩ := h (xs.length - 1) (by omega)
  simp only [Option.some.injEq, Addr.mk.injEq, and_true] at e0
  obtain ⟨rfl, rfl⟩ := e0
  cases hg : G.get b with
  | dead => simp [aload, hg] at hl0
  | row cs own k =>
    have hb : o + xs.length * s ≤ cs.length := by
      simp only [aload, hg] at hl0
      split at hl0
      · rename_i hle
        have : (xs.length - 1) * s + s = xs.length * s := by rw [← Nat.succ_mul]; congr 1; omega
        omega
      · cases hl0
    rw [aload_row hg hb]
    congr 1
    apply List.ext_getElem?
    intro t
    by_cases ht : t < xs.length * s
    · have s0 : 0 < s := by
        rcases Nat.eq_zero_or_pos s with h | h
        · rw [h] at ht; simp at ht
        · exact h
      have hq : t / s < xs.length := (Nat.div_lt_iff_lt_mul s0).2 ht
      obtain ⟨b', o', e0, _, hl⟩ := h (t / s) hq
      simp only [Option.some.injEq, Addr.mk.injEq, and_true] at e0
      obtain ⟨rfl, rfl⟩ := e0
      have hm := Nat.mod_lt t s0
      have hdm := Nat.div_add_mod' t s
      have h1 : (xs.flatten.drop (t / s * s)).take s = xs[t / s] := flat_get hs hq
      have hr : (t / s + 1) * s ≤ xs.length * s := Nat.mul_le_mul_right _ hq
      rw [Nat.succ_mul] at hr
      rw [aload_row hg (by omega)] at hl
      have h2 : ((cs.drop (o + t / s * s)).take s)[t % s]? = ((xs.flatten.drop (t / s * s)).take s)[t % s]? := by
        rw [h1]; rw [Option.some.inj hl]
      rw [List.getElem?_take_of_lt hm, List.getElem?_take_of_lt hm, List.getElem?_drop, List.getElem?_drop] at h2
      rw [List.getElem?_take_of_lt ht, List.getElem?_drop]
      have e1 : o + t / s * s + t % s = o + t := by omega
      have e2 : t / s * s + t % s = t := by omega
      rw [e1, e2] at h2
      exact h2
    · rw [List.getElem?_eq_none (by simp; omega), List.getElem?_eq_none (by rw [flat_len hs]; omega)]
theorem asource_elems {a : Option Addr} {s c : Nat} {xs : List (List Value)} (h : Elems G a s xs) (hs : ∀ x, x ∈ xs → x.length = s) : asource G s (.slice a xs.length c) = some (xs.length, xs.flatten) := by
  by_cases hn : xs = []
  · subst hn
    cases a <;> simp [asource]
  · obtain ⟨b, o, rfl, _, _⟩ := h 0 (List.length_pos_iff.2 hn)
    exact asource_slice (h.whole hs hn)
/-- A slice is appended to an own one, whatever their lengths. -/
theorem append_elems {t1 t2 e e2 : TypeId} {size bytes : Nat} {z : Value} (u1 : P.underlying t1 = some (.slice e)) (u2 : P.underlying t2 = some (.slice e2)) (hsz : tsz P e = some size) (hb : tbytes P e = some bytes) (hz : tzero P e = some z) (hzs : z.cells.size = size) (hb0 : bytes ≠ 0) (hs0 : size ≠ 0)
    {q n m c c' : Nat} {a : Option Addr} {cs xs : List Value} (hq : G.get q = .row cs true size) (hx : asource G size (.slice a m c') = some (m, xs)) (hx1 : xs.all one = true) (hxl : xs.length = m * size) (hcs : cs.length = n * size) (hbd : (n + m) * bytes ≤ 140737488355328) :
    aappend P G [t1, t2] (.slice (some ⟨q, 0, none⟩) n c) (.slice a m c') = some (.slice (some ⟨G.next, 0, none⟩) (n + m) (n + m), (G.set q .dead).new (.row (cs ++ xs) true size)) := by
  simp only [aappend, u1, u2, hsz, hb, hz, hx, Option.bind_some]
  rw [if_pos ⟨hzs, hb0, hx1, fun h0 => List.eq_nil_of_length_eq_zero (by rw [hxl, h0, Nat.zero_mul]), hxl⟩]
  simp only [hq]
  rw [if_pos ⟨trivial, hs0, by rw [Nat.zero_add, hcs], hbd⟩, List.drop_zero]
theorem asource_grows {H H' : Hp} (hw : WfH H) (hg : Grows H H') {s c m : Nat} {a : Option Addr} {xs : List Value} (h : asource H s (.slice a m c) = some (m, xs)) : asource H' s (.slice a m c) = some (m, xs) := by
  cases a with
  | none => exact h
  | some a =>
    simp only [asource] at h ⊢
    by_cases hm : m = 0
    · rw [if_pos hm] at h ⊢; exact h
    · rw [if_neg hm] at h ⊢
      cases hl : aload H a (m * s) with
      | none => rw [hl] at h; simp at h
      | some cs => rw [hl] at h; rw [aload_grows hw hg hl]; exact h
end
end Go.Abs
