/- Appending. -/
import Derived.Test.YtalijeodmmlfjaaAbsP
set_option linter.unusedVariables false
set_option linter.unusedSimpArgs false
set_option linter.unusedSectionVars false
namespace Go.Abs
open Go.RowKit
section
variable {P : Program} {H : Hp}
theorem aload_length {a : Addr} {n : Nat} {cs : List Value} (h : aload H a n = some cs) : cs.length = n := by
  unfold aload at h
  split at h
  · split at h
    · injection h with h; subst h; simp; omega
    · cases h
  · cases h
theorem append_row {t1 t2 e e2 : TypeId} {size bytes : Nat} {z : Value} (u1 : P.underlying t1 = some (.slice e)) (u2 : P.underlying t2 = some (.slice e2)) (hsz : tsz P e = some size) (hb : tbytes P e = some bytes) (hz : tzero P e = some z) (hzs : z.cells.size = size) (hb0 : bytes ≠ 0) (hs0 : size ≠ 0)
    {q n c m c' r ro : Nat} {cs xs : List Value} (hq : H.get q = .row cs true size) (hx : aload H ⟨r, ro, none⟩ (m * size) = some xs) (hx1 : xs.all one = true) (hcs : cs.length = n * size) (hbd : (n + m) * bytes ≤ 140737488355328) :
    aappend P H [t1, t2] (.slice (some ⟨q, 0, none⟩) n c) (.slice (some ⟨r, ro, none⟩) m c') = some (.slice (some ⟨H.next, 0, none⟩) (n + m) (n + m), (H.set q .dead).new (.row (cs ++ xs) true size)) := by
  have hl := aload_length hx
  simp only [aappend, u1, u2, hsz, hb, hz, asource, hx, Option.map_some, Option.bind_some]
  rw [if_pos ⟨hzs, hb0, hx1, fun h0 => List.eq_nil_of_length_eq_zero (by rw [hl, h0, Nat.zero_mul]), hl⟩]
  simp only [hq]
  rw [if_pos ⟨trivial, hs0, by rw [Nat.zero_add, hcs], hbd⟩, List.drop_zero]
theorem append_none {t1 t2 e e2 : TypeId} {size bytes : Nat} {z : Value} (u1 : P.underlying t1 = some (.slice e)) (u2 : P.underlying t2 = some (.slice e2)) (hsz : tsz P e = some size) (hb : tbytes P e = some bytes) (hz : tzero P e = some z) (hzs : z.cells.size = size) (hb0 : bytes ≠ 0)
    {c m c' r ro : Nat} {xs : List Value} (hx : aload H ⟨r, ro, none⟩ (m * size) = some xs) (hx1 : xs.all one = true) (hm : m ≠ 0) (hbd : m * bytes ≤ 140737488355328) :
    aappend P H [t1, t2] (.slice none 0 c) (.slice (some ⟨r, ro, none⟩) m c') = some (.slice (some ⟨H.next, 0, none⟩) m m, H.new (.row xs true size)) := by
  have hl := aload_length hx
  simp only [aappend, u1, u2, hsz, hb, hz, asource, hx, Option.map_some, Option.bind_some]
  rw [if_pos ⟨hzs, hb0, hx1, fun h0 => absurd h0 hm, hl⟩, if_pos ⟨trivial, hbd⟩, if_neg hm]
end
end Go.Abs
namespace Go.Abs
section
variable {P : Program} {H : Hp}
theorem mx_eq (a b : Int) : (if b > a then b else a) = max a b := by split <;> omega
theorem mn_eq (a b : Int) : (if b < a then b else a) = min a b := by split <;> omega
theorem bltn_max2 (ts : List TypeId) (k : IntKind) (a b : Int) : abuiltin P H .max ts [.int k a, .int k b] = some (.int k (max a b), H) := by
  rw [← mx_eq]; rfl
theorem bltn_min2 (ts : List TypeId) (k : IntKind) (a b : Int) : abuiltin P H .min ts [.int k a, .int k b] = some (.int k (min a b), H) := by
  rw [← mn_eq]; rfl
theorem bltn_max3 (ts : List TypeId) (k : IntKind) (a b c : Int) : abuiltin P H .max ts [.int k a, .int k b, .int k c] = some (.int k (max (max a b) c), H) := by
  rw [← mx_eq, ← mx_eq]; rfl
theorem bltn_min3 (ts : List TypeId) (k : IntKind) (a b c : Int) : abuiltin P H .min ts [.int k a, .int k b, .int k c] = some (.int k (min (min a b) c), H) := by
  rw [← mn_eq, ← mn_eq]; rfl
end
attribute [go_sem] bltn_max2 bltn_min2 bltn_max3 bltn_min3
end Go.Abs
