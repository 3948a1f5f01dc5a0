/- How a call begins: what came in, as rows that are not one's own. -/
import Derived.Test.YtjdmndklnfhmjaaAbsP
import Derived.ChangeArms
import Derived.DataReads
set_option linter.unusedVariables false
set_option linter.unusedSimpArgs false
set_option linter.unusedSectionVars false
namespace Go.Abs
open Go.RowKit

theorem Sim.start (W : World) : Sim W.heap.size (fun _ => none) ⟨0, fun _ => .dead, fun _ => none⟩ W :=
  ⟨Nat.le_refl _, (fun _ _ h => by cases h), (fun _ _ _ _ h => by cases h), (fun _ _ _ _ _ _ _ _ _ h => by cases h), (fun _ _ h => by cases h)⟩
theorem Sim.borrow {base : Nat} {μ : Mu} {H : Hp} {w : World} (h : Sim base μ H w) {cs : List Value} {rb ro : Nat} {arr : Array Value} {T : TypeId} {fz : Nat × Nat} (hr : w.heap[rb]? = some (.cells arr T fz)) (hlt : rb < base)
    (h1 : cs.all one = true) (hf : flatL cs = true) (hle : ro + cs.length ≤ arr.size) (hv : (arr.toList.drop ro).take cs.length = cs) : Sim base (μ.put H.next ⟨rb, ro, 0, 0⟩) (H.new (.row cs false 0)) w := by
  have hmu := Mu.le_put (e := ⟨rb, ro, 0, 0⟩) h.fresh
  refine ⟨h.hb, fun b e he => ?_, fun b cs' own k hg => ?_, fun b b' cs1 cs2 k k' e e' hne g1 g2 m1 m2 => ?_, h.ob⟩
  · rw [Hp.next_new]
    simp only [Mu.put] at he
    split at he
    · omega
    · exact Nat.lt_succ_of_lt (h.dom _ _ he)
  · by_cases hb : b = H.next
    · rw [Hp.get_new_same _ _ _ hb] at hg
      cases hg
      exact ⟨⟨rb, ro, 0, 0⟩, arr, T, fz, by simp [Mu.put, hb], hr, h1, hle, by rw [VRs_flat hf]; exact hv, (fun h => by cases h), fun _ => ⟨hlt, rfl⟩⟩
    · rw [Hp.get_new_ne _ _ _ hb] at hg
      obtain ⟨e, arr', T', fz', he, hr', h1', h2', h3', h4'⟩ := h.row _ _ _ _ hg
      exact ⟨e, arr', T', fz', hmu _ _ he, hr', h1', h2', h3'.mono hmu, h4'⟩
  · by_cases hb : b = H.next
    · rw [Hp.get_new_same _ _ _ hb] at g1; cases g1
    · by_cases hb' : b' = H.next
      · rw [Hp.get_new_same _ _ _ hb'] at g2; cases g2
      · rw [Hp.get_new_ne _ _ _ hb] at g1
        rw [Hp.get_new_ne _ _ _ hb'] at g2
        simp only [Mu.put, hb, hb', if_false] at m1 m2
        exact h.inj _ _ _ _ _ _ _ _ hne g1 g2 m1 m2
theorem Sim.stub {base : Nat} {μ : Mu} {H : Hp} {w : World} (h : Sim base μ H w) (e : Ent) : Sim base (μ.put H.next e) (H.new .dead) w := by
  have hmu := Mu.le_put (e := e) h.fresh
  refine ⟨h.hb, fun b e' he => ?_, fun b cs' own k hg => ?_, fun b b' cs1 cs2 k k' e1 e2 hne g1 g2 m1 m2 => ?_, h.ob⟩
  · rw [Hp.next_new]
    simp only [Mu.put] at he
    split at he
    · omega
    · exact Nat.lt_succ_of_lt (h.dom _ _ he)
  · by_cases hb : b = H.next
    · rw [Hp.get_new_same _ _ _ hb] at hg; cases hg
    · rw [Hp.get_new_ne _ _ _ hb] at hg
      obtain ⟨e, arr', T', fz', he, hr', h1', h2', h3', h4'⟩ := h.row _ _ _ _ hg
      exact ⟨e, arr', T', fz', hmu _ _ he, hr', h1', h2', h3'.mono hmu, h4'⟩
  · by_cases hb : b = H.next
    · rw [Hp.get_new_same _ _ _ hb] at g1; cases g1
    · by_cases hb' : b' = H.next
      · rw [Hp.get_new_same _ _ _ hb'] at g2; cases g2
      · rw [Hp.get_new_ne _ _ _ hb] at g1
        rw [Hp.get_new_ne _ _ _ hb'] at g2
        simp only [Mu.put, hb, hb', if_false] at m1 m2
        exact h.inj _ _ _ _ _ _ _ _ hne g1 g2 m1 m2

section
variable {H0 : Type} {enc : TypeId × Value → H0} {P : Program} {W : World} {β : Type} {f : β → List Value} {n : Nat}

theorem rows_of {m : Nat} {g : Nat → List Value → Prop} (h : ∀ i, i < m → ∃ r : β, g i (f r)) : ∃ rows : List β, rows.length = m ∧ ∀ (i : Nat) (hi : i < rows.length), g i (f rows[i]) := by
  induction m with
  | zero => exact ⟨[], rfl, fun i hi => by simp at hi⟩
  | succ m ih =>
    obtain ⟨rows, hl, hg⟩ := ih fun i hi => h i (by omega)
    obtain ⟨r, hr⟩ := h m (by omega)
    refine ⟨rows ++ [r], by simp [hl], fun i hi => ?_⟩
    by_cases h1 : i < rows.length
    · rw [List.getElem_append_left h1]; exact hg i h1
    · have : i = rows.length := by simp at hi; omega
      subst this
      simp only [List.getElem_append_right (Nat.le_refl _), Nat.sub_self, List.getElem_cons_zero]
      rw [hl]; exact hr

theorem cell_block {a : Addr} {v : Value} (h : W.cell? a = some v) : a.spot = none ∧ ∃ arr T fz, W.heap[a.block]? = some (.cells arr T fz) ∧ arr[a.off]? = some v := by
  unfold World.cell? at h
  split at h
  · rename_i c T fz hb
    split at h
    · cases h
    · rename_i hs
      refine ⟨by simpa using hs, c, T, fz, hb, h⟩
  · cases h

theorem add_zero' (a : Addr) : a.add 0 = a := by simp [Addr.add]
theorem addr_none (b o j : Nat) : (⟨b, o, none⟩ : Addr).add j = ⟨b, o + j, none⟩ := by
  unfold Addr.add
  split
  · rename_i h; subst h; rfl
  · rfl
/-- A slice of elements of s cells that may be cut. -/
def CutS (H : Hp) (a : Option Addr) (s m : Nat) : Prop := ∀ b o, a = some ⟨b, o, none⟩ → m ≠ 0 → cutOk H b s = true
theorem open_rows2 {t e : TypeId} (ut : P.underlying t = some (.slice e)) (hcell : P.cellsOf e = n) (hn : 0 < n) (hlen : ∀ r, (f r).length = n) (hone : ∀ r, (f r).all one = true) (hflat : ∀ r, flatL (f r) = true)
    (helem : ∀ fuel cs x, DataW.trod enc P W 0 (fun _ => true) true fuel e cs = some x → ∃ r : β, cs = f r) {a : Option Addr} {len cap : Nat} {d : DataW H0} {p : List MemPlace}
    (h : DataW.Trod enc P W 0 (fun _ => true) true t (.slice a len cap) d p) {μ : Mu} {H : Hp} (hs : Sim W.heap.size μ H W) :
    ∃ (ν : Mu) (H2 : Hp) (a0 : Option Addr) (rows : List β), rows.length = len ∧ μ.le ν ∧ Sim W.heap.size ν H2 W ∧ Keeps H H2 ∧ VR ν (.slice a0 rows.length rows.length) (.slice a len cap) ∧ Elems H2 a0 n (rows.map f) ∧ CutS H2 a0 n rows.length := by
  obtain ⟨fuel, hf⟩ := h
  rcases DataW.trod_slice ut hf with ⟨h1, _⟩ | ⟨x, len', cap', elems, rest, n', _, h1, _, _, hle, _, hel, hcs, hrs, _⟩
  · simp only [Value.cells, List.cons.injEq, and_true, Value.slice.injEq] at h1
    obtain ⟨rfl, rfl, rfl⟩ := h1
    exact ⟨μ, H, none, [], rfl, fun _ _ h => h, hs, Keeps.refl _, ⟨rfl, rfl⟩, Elems.nil, fun _ _ h => by cases h⟩
  · simp only [Value.cells, List.cons.injEq, and_true, Value.slice.injEq] at h1
    obtain ⟨rfl, rfl, rfl⟩ := h1
    have hmu := Mu.le_put (e := ⟨x.block, x.off, 0, 0⟩) hs.fresh
    by_cases h0 : len = 0
    · subst h0
      refine ⟨_, _, some ⟨H.next, 0, none⟩, [], rfl, hmu, hs.stub _, Keeps.new _ _, ?_, Elems.nil, fun _ _ _ h => absurd rfl h⟩
      refine ⟨rfl, ⟨x.block, x.off, 0, 0⟩, by simp [Mu.put], ?_⟩
      by_cases hc : cap = 0
      · subst hc; exact .inr ⟨rfl, x, rfl⟩
      · have := (hrs rfl).2 0 (by omega)
        rw [List.getElem?_eq_getElem (by rw [(hrs rfl).1]; omega), Option.bind_eq_some_iff] at this
        obtain ⟨cs, hcs1, hcs2⟩ := this
        have hc2 := (World.cells?_some hcs1).2.2 0 (by omega)
        have hl2 := (World.cells?_some hcs1).2.1
        rw [List.getElem?_eq_getElem (by omega)] at hc2
        simp only [Nat.add_zero, Nat.zero_mul, add_zero'] at hc2
        have hsp := (cell_block hc2).1
        obtain ⟨xb, xo, xs⟩ := x
        simp only at hsp
        subst hsp
        exact .inl ⟨cap, hle, fun h => absurd rfl h, rfl⟩
    · obtain ⟨rows, hrl, hrg⟩ := rows_of (β := β) (f := f) (m := len) (g := fun i cs => W.cells? 0 (x.add (i * n)) n = some cs) fun i hi => by
        have := hcs i hi
        rw [List.getElem?_eq_getElem (by omega), Option.bind_eq_some_iff, hcell] at this
        obtain ⟨cs, h1, h2⟩ := this
        obtain ⟨r, rfl⟩ := helem _ _ _ h2
        exact ⟨r, h1⟩
      have hfl := flat_len (s := n) (xs := rows.map f) (by
        intro y hy; obtain ⟨r, _, rfl⟩ := List.mem_map.1 hy; exact hlen r)
      rw [List.length_map] at hfl
      have hsp : x.spot = none := by
        have hc2 := (World.cells?_some (hrg 0 (by omega))).2.2 0 hn
        rw [List.getElem?_eq_getElem (by rw [hlen]; exact hn)] at hc2
        simp only [Nat.zero_mul, add_zero'] at hc2
        exact (cell_block hc2).1
      obtain ⟨xb, xo, xs⟩ := x
      simp only at hsp
      subst hsp
      have hcell2 : ∀ j, j < rows.length * n → W.cell? ((⟨xb, xo, none⟩ : Addr).add j) = ((rows.map f).flatten)[j]? := fun j hj => by
        have hi : j / n < rows.length := Nat.div_lt_of_lt_mul (by rw [Nat.mul_comm]; exact hj)
        have hm : j % n < n := Nat.mod_lt _ hn
        have hc := (World.cells?_some (hrg (j / n) hi)).2.2 (j % n) hm
        have e1 : ((⟨xb, xo, none⟩ : Addr).add (j / n * n)).add (j % n) = (⟨xb, xo, none⟩ : Addr).add j := by
          have := Nat.div_add_mod j n
          rw [Nat.mul_comm] at this
          simp only [addr_none, Addr.mk.injEq, true_and, and_true]
          omega
        rw [e1] at hc
        rw [hc]
        have hg := flat_get (s := n) (xs := rows.map f) (i := j / n) (by
          intro y hy; obtain ⟨r, _, rfl⟩ := List.mem_map.1 hy; exact hlen r) (by rw [List.length_map]; exact hi)
        rw [List.getElem_map] at hg
        rw [← hg, List.getElem?_take_of_lt hm, List.getElem?_drop]
        congr 1
        have := Nat.div_add_mod j n
        rw [Nat.mul_comm] at this
        omega
      have hpos : 0 < rows.length * n := Nat.mul_pos (by omega) hn
      have hc0 := hcell2 0 hpos
      rw [List.getElem?_eq_getElem (by omega)] at hc0
      rw [addr_none] at hc0
      obtain ⟨_, arr, T, fz, hblk, _⟩ := cell_block hc0
      simp only at hblk
      have harr : ∀ j, j < rows.length * n → arr[xo + j]? = ((rows.map f).flatten)[j]? := fun j hj => by
        have := hcell2 j hj
        simp only [World.cell?, addr_none, hblk, Option.isSome_none, Bool.false_eq_true, if_false] at this
        exact this
      have hsz : xo + rows.length * n ≤ arr.size := by
        have h1 := harr (rows.length * n - 1) (by omega)
        rw [List.getElem?_eq_getElem (by omega)] at h1
        have := (Array.getElem?_eq_some_iff.1 h1).1
        omega
      have hlt : xb < W.heap.size := (Array.getElem?_eq_some_iff.1 hblk).1
      refine ⟨_, _, some ⟨H.next, 0, none⟩, rows, hrl, hmu, hs.borrow (cs := (rows.map f).flatten) (ro := xo) hblk hlt ?_ ?_ (by rw [hfl]; exact hsz) ?_, Keeps.new _ _, ?_, ?_, fun b o h _ => by cases h; simp only [cutOk, Hp.get_new_same _ _ _ rfl]⟩
      · rw [List.all_flatten]
        simp only [List.all_map, List.all_eq_true]
        intro r _
        exact hone r
      · have : ∀ l : List β, flatL (l.map f).flatten = true := by
          intro l
          induction l with
          | nil => rfl
          | cons r l ih =>
            have happ : ∀ a b : List Value, flatL a = true → flatL b = true → flatL (a ++ b) = true := by
              intro a b
              induction a with
              | nil => intro _ h; exact h
              | cons v a iha => intro h1 h2; simp only [List.cons_append, flatL, Bool.and_eq_true] at h1 ⊢; exact ⟨h1.1, iha h1.2 h2⟩
            exact happ _ _ (hflat r) ih
        exact this rows
      · apply List.ext_getElem?
        intro j
        rw [hfl]
        by_cases hj : j < rows.length * n
        · rw [List.getElem?_take_of_lt hj, List.getElem?_drop, Array.getElem?_toList]
          exact harr j hj
        · rw [List.getElem?_eq_none (by simp; omega), List.getElem?_eq_none (by omega)]
      · refine ⟨rfl, ⟨xb, xo, 0, 0⟩, by simp [Mu.put], .inl ⟨cap, by rw [hrl]; exact hle, fun h => absurd rfl h, by rw [hrl]; rfl⟩⟩
      · exact Elems.row (Nat.lt_succ_self _) (Hp.get_new_same _ _ _ rfl) (by
          intro y hy; obtain ⟨r, _, rfl⟩ := List.mem_map.1 hy; exact hlen r)
theorem open_rows {t e : TypeId} (ut : P.underlying t = some (.slice e)) (hcell : P.cellsOf e = n) (hn : 0 < n) (hlen : ∀ r, (f r).length = n) (hone : ∀ r, (f r).all one = true) (hflat : ∀ r, flatL (f r) = true)
    (helem : ∀ fuel cs x, DataW.trod enc P W 0 (fun _ => true) true fuel e cs = some x → ∃ r : β, cs = f r) {a : Option Addr} {len cap : Nat} {d : DataW H0} {p : List MemPlace}
    (h : DataW.Trod enc P W 0 (fun _ => true) true t (.slice a len cap) d p) {μ : Mu} {H : Hp} (hs : Sim W.heap.size μ H W) :
    ∃ (ν : Mu) (H2 : Hp) (a0 : Option Addr) (rows : List β), rows.length = len ∧ μ.le ν ∧ Sim W.heap.size ν H2 W ∧ Keeps H H2 ∧ VR ν (.slice a0 rows.length rows.length) (.slice a len cap) ∧ Elems H2 a0 n (rows.map f) := by
  obtain ⟨ν, H2, a0, rows, h1, h2, h3, h4, h5, h6, _⟩ := open_rows2 ut hcell hn hlen hone hflat helem h hs
  exact ⟨ν, H2, a0, rows, h1, h2, h3, h4, h5, h6⟩
end
end Go.Abs
namespace Go.Abs
section
variable {H0 : Type} {enc : TypeId × Value → H0} {P : Program} {W : World}
theorem struct_ints {e : TypeId} {fs : Array Field} {m : Nat} (ue : P.underlying e = some (.struct fs)) (hc : P.cellsOf e = m) (hs : m ≤ fs.size) (hfs : ∀ i, i < m → ∃ f, fs[i]? = some f ∧ f.offset = i ∧ P.underlying f.type = some (.int .i64) ∧ P.cellsOf f.type = 1)
    {sp : Nat → Bool} {held : Bool} {fuel : Nat} {cs : List Value} {x : DataW H0 × List MemPlace} (h : DataW.trod enc P W 0 sp held fuel e cs = some x) : ∃ zs : List Int, zs.length = m ∧ cs = zs.map (Value.int .i64) := by
  obtain ⟨xs, n, _, _, hl, hxl, hg⟩ := DataW.trod_struct ue h
  have each : ∀ i, i < m → ∃ z : Int, cs[i]? = some (Value.int .i64 z) := fun i hi => by
    obtain ⟨f, hf, ho, hu, h1⟩ := hfs i hi
    have := hg i f hf
    rw [List.getElem?_eq_getElem (by omega), ho, h1] at this
    obtain ⟨z, hz, _⟩ := DataW.trod_int hu this
    refine ⟨z, ?_⟩
    have e1 := head_take1 cs i
    rw [hz] at e1
    exact e1.symm
  obtain ⟨zs, hzl, hz⟩ := rows_of (β := Int) (f := fun z => [Value.int .i64 z]) (m := m) (g := fun i l => cs[i]? = l.head?) each
  refine ⟨zs, hzl, List.ext_getElem? fun i => ?_⟩
  by_cases hi : i < m
  · rw [hz i (by omega), List.getElem?_map, List.getElem?_eq_getElem (by omega)]
    rfl
  · rw [List.getElem?_eq_none (by omega), List.getElem?_eq_none (by simp; omega)]
end
end Go.Abs
