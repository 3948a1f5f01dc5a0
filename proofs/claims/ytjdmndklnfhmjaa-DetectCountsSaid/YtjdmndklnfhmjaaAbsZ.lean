/- What a type of whole numbers and bools says of its cells: structs and arrays, nested. -/
import Derived.Test.YtjdmndklnfhmjaaAbsR
set_option linter.unusedVariables false
set_option linter.unusedSimpArgs false
set_option linter.unusedSectionVars false
namespace Go.Abs
open Go.RowKit
section
variable {H0 : Type} {enc : TypeId × Value → H0} {P : Program} {W : World}
/-- Whatever is read as a t has cells that are as p says. -/
def Lay (enc : TypeId × Value → H0) (P : Program) (W : World) (t : TypeId) (p : List Value → Prop) : Prop :=
  ∀ (fuel : Nat) (cs : List Value) (x : DataW H0 × List MemPlace), DataW.trod enc P W 0 (fun _ => true) true fuel t cs = some x → p cs
theorem Lay.mono {t : TypeId} {p q : List Value → Prop} (h : Lay enc P W t p) (hq : ∀ cs, p cs → q cs) : Lay enc P W t q := fun f cs x hx => hq cs (h f cs x hx)
theorem lay_int {t : TypeId} {k : IntKind} (ht : P.underlying t = some (.int k)) : Lay enc P W t (fun cs => ∃ z, cs = [.int k z] ∧ (Lit.int k z).wf = true) := fun f cs x hx => by
  obtain ⟨n, h, _, hw⟩ := DataW.trod_int ht hx
  exact ⟨n, h, hw⟩
theorem lay_bool {t : TypeId} (ht : P.underlying t = some .bool) : Lay enc P W t (fun cs => ∃ b, cs = [.bool b]) := fun f cs x hx => by
  obtain ⟨n, h, _⟩ := DataW.trod_bool ht hx
  exact ⟨n, h⟩
theorem trod_array {n : Nat} {e t : TypeId} {fuel : Nat} {cs : List Value} {x : DataW H0 × List MemPlace} (ht : P.underlying t = some (.array n e)) (h : DataW.trod enc P W 0 (fun _ => true) true fuel t cs = some x) :
    cs.length = P.cellsOf t ∧ ∃ m, ∀ i, i < n → ∃ y, DataW.trod enc P W 0 (fun _ => true) true m e ((cs.drop (i * P.cellsOf e)).take (P.cellsOf e)) = some y := by
  cases fuel with
  | zero => simp [DataW.trod] at h
  | succ m =>
    unfold DataW.trod at h
    rw [ht] at h
    split at h <;> simp_all
    obtain ⟨hl, xs, hp, hd⟩ := h
    refine ⟨m, fun i hi => ?_⟩
    have h1 := mapM_some_length hp
    have h2 := mapM_some_get hp i i (by simp [hi])
    have hi2 : i < xs.length := by simpa [h1] using hi
    rw [List.getElem?_eq_getElem hi2] at h2
    exact ⟨xs[i].1, xs[i].2, h2⟩
/-- A part of cells: m of them from o on are as p says. -/
def partOf (o m : Nat) (p : List Value → Prop) (cs : List Value) : Prop := p ((cs.drop o).take m)
theorem lay_struct {t : TypeId} {fs : Array Field} (ht : P.underlying t = some (.struct fs)) {ps : List (Nat × Nat × TypeId × (List Value → Prop))}
    (hps : ∀ q ∈ ps, Lay enc P W q.2.2.1 q.2.2.2 ∧ q.2.1 = P.cellsOf q.2.2.1 ∧ ∃ (i : Nat) (f : Field), fs[i]? = some f ∧ f.offset = q.1 ∧ f.type = q.2.2.1) :
    Lay enc P W t (fun cs => cs.length = P.cellsOf t ∧ ∀ q ∈ ps, partOf q.1 q.2.1 q.2.2.2 cs) := fun fuel cs x hx => by
  obtain ⟨xs, n, _, _, hl, hxl, hg⟩ := DataW.trod_struct ht hx
  refine ⟨hl, fun q hq => ?_⟩
  obtain ⟨h1, h2, i, f, hf, ho, hft⟩ := hps q hq
  have h3 := hg i f hf
  have hi : i < xs.length := by rw [hxl]; exact (Array.getElem?_eq_some_iff.1 hf).1
  rw [List.getElem?_eq_getElem hi, ho, hft, ← h2] at h3
  exact h1 _ _ _ h3
theorem lay_array {t e : TypeId} {n m : Nat} {p : List Value → Prop} (ht : P.underlying t = some (.array n e)) (hm : P.cellsOf e = m) (h : Lay enc P W e p) :
    Lay enc P W t (fun cs => cs.length = P.cellsOf t ∧ ∀ i, i < n → partOf (i * m) m p cs) := fun fuel cs x hx => by
  obtain ⟨h1, f, h2⟩ := trod_array ht hx
  refine ⟨h1, fun i hi => ?_⟩
  obtain ⟨y, hy⟩ := h2 i hi
  rw [hm] at hy
  exact h _ _ _ hy
theorem take1_of {cs : List Value} {i : Nat} {v : Value} (h : (cs.drop i).take 1 = [v]) : cs[i]? = some v := by
  rw [← head_take1, h]; rfl
/-- Cells that are ints, one for each place. -/
theorem ints_of {cs : List Value} {m : Nat} (hl : cs.length = m) (h : ∀ i, i < m → ∃ z : Int, cs[i]? = some (Value.int .i64 z)) : ∃ zs : List Int, zs.length = m ∧ cs = zs.map (Value.int .i64) := by
  obtain ⟨zs, hzl, hz⟩ := rows_of (β := Int) (f := fun z => [Value.int .i64 z]) (m := m) (g := fun i l => cs[i]? = l.head?) h
  refine ⟨zs, hzl, List.ext_getElem? fun i => ?_⟩
  by_cases hi : i < m
  · rw [hz i (by omega), List.getElem?_map, List.getElem?_eq_getElem (by omega)]
    rfl
  · rw [List.getElem?_eq_none (by omega), List.getElem?_eq_none (by simp; omega)]
end
end Go.Abs
namespace Go.Abs
theorem CutS.grows {H H' : Hp} {a : Option Addr} {s m : Nat} (h : CutS H a s m) (he : ∀ b o, a = some ⟨b, o, none⟩ → m ≠ 0 → H'.get b = H.get b) : CutS H' a s m := fun b o ha hm => by
  have := h b o ha hm
  simp only [cutOk, he b o ha hm] at this ⊢
  exact this
end Go.Abs
