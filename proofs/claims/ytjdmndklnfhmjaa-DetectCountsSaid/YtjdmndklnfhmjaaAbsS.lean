/- Contracts of the library's row functions, carried over to the abstract memory. -/
import Derived.Test.YtjdmndklnfhmjaaAbsP
import Derived.Sort.Grow
import Derived.Lib.SlicesCompact
set_option linter.unusedVariables false
set_option linter.unusedSimpArgs false
set_option linter.unusedSectionVars false
namespace Go.Abs
open Go.RowKit Go.Sort

section
variable {P : Program} {α : Type} [Inhabited α]
theorem mapBlock_setRow {w : World} {g : Nat} {arr : Array Value} {T : TypeId} {fz : Nat × Nat} (f : Array Value → Array Value) (hr : w.heap[g]? = some (.cells arr T fz)) : mapBlock w g f = w.setRow g (f arr) := by
  unfold mapBlock World.setRow
  congr 1
  apply Array.ext_getElem?
  intro k
  simp only [Array.getElem?_modify]
  by_cases hk : g = k
  · subst hk
    simp only [if_true, hr, Option.map_some, onCells]
  · simp [hk]
theorem putCells_drop {enc : α → Value} {o : Nat} {ys : List α} {arr : Array Value} (h : o + ys.length ≤ arr.size) : ((putCells enc o ys.toArray arr).toList.drop o).take ys.length = ys.map enc := by
  apply List.ext_getElem?
  intro i
  by_cases hi : i < ys.length
  · rw [List.getElem?_take_of_lt hi, List.getElem?_drop]
    simp only [putCells, Array.toList_mapIdx, List.getElem?_mapIdx, List.size_toArray]
    have e1 : arr.toList[o + i]? = some arr[o + i] := by simp
    rw [e1, Option.map_some, if_pos (by omega)]
    have : o + i - o = i := by omega
    rw [this]
    simp [hi]
  · rw [List.getElem?_eq_none (by simp; omega), List.getElem?_eq_none (by simp; omega)]
theorem size_putCells {enc : α → Value} {o : Nat} {ys : Array α} {arr : Array Value} : (putCells enc o ys arr).size = arr.size := by simp [putCells]

theorem flatL_map {enc : α → Value} (hf : ∀ x, flat (enc x) = true) : ∀ l : List α, flatL (l.map enc) = true
  | [] => rfl
  | x :: l => by simp only [List.map_cons, flatL, hf, flatL_map hf l, Bool.and_self]

/-- A row of one's own, held and put anew. -/
theorem Sim.putRow {base : Nat} {μ : Mu} {H : Hp} {w : World} (enc : α → Value) (h1 : ∀ x, one (enc x) = true) (hf : ∀ x, flat (enc x) = true) (h : Sim base μ H w) {b k : Nat} {xs : List α} (hg : H.get b = .row (xs.map enc) true k) {e : Ent} (he : μ b = some e)
    (ys : List α) (hl : ys.length = xs.length) :
    Holds enc w e.rb e.ro xs.toArray ∧ e.rb < w.heap.size ∧ Sim base μ (H.set b (.row (ys.map enc) true k)) (Sort.putRow enc w e.rb e.ro ys.toArray) ∧ Ext base w (Sort.putRow enc w e.rb e.ro ys.toArray) := by
  obtain ⟨e', arr, T, fz, he', hr, _, hsz, hv, ho, _⟩ := h.row _ _ _ _ hg
  obtain rfl : e' = e := Option.some.inj (he'.symm.trans he)
  obtain ⟨o1, rfl, o3, o4⟩ := ho rfl
  rw [VRs_flat (flatL_map hf xs)] at hv
  rw [List.length_map] at hv hsz
  have hput : Sort.putRow enc w e'.rb e'.ro ys.toArray = w.setRow e'.rb (putCells enc e'.ro ys.toArray arr) := mapBlock_setRow _ hr
  refine ⟨fun j hj => ?_, (Array.getElem?_eq_some_iff.1 hr).1, ?_, ?_⟩
  · simp only [List.size_toArray] at hj
    refine ⟨?_, ?_⟩
    · simp only [World.cell?, hr, Option.isSome_none, Bool.false_eq_true, if_false]
      have e1 : ((arr.toList.drop e'.ro).take xs.length)[j]? = (xs.map enc)[j]? := by rw [hv]
      rw [List.getElem?_take_of_lt hj, List.getElem?_drop] at e1
      rw [← Array.getElem?_toList, e1]
      simp [hj]
    · simp only [World.frozen?, hr]
      simp
  · rw [hput]
    refine h.rewrite hg he hr (by simp [h1]) (by rw [List.length_map, size_putCells]; omega) ?_ (by rw [size_putCells]; exact Nat.le_refl _)
    rw [List.length_map, putCells_drop (by omega), VRs_flat (flatL_map hf ys)]
  · rw [hput]
    exact ext_setRow _ _ _ o1 hr

theorem Sim.growN {base : Nat} {μ : Mu} {H : Hp} {w : World} (h : Sim base μ H w) (os : Array Obj) : Sim base μ H (Sort.grow w os) :=
  ⟨Nat.le_trans h.hb (by rw [size_grow]; omega), h.dom, fun b cs own k hg => by
    obtain ⟨e, arr, T, fz, he, hr, r⟩ := h.row b cs own k hg
    exact ⟨e, arr, T, fz, he, (heap_grow_old w os (Array.getElem?_eq_some_iff.1 hr).1).trans hr, r⟩, h.inj, fun r o ho => by
    obtain ⟨q1, q2, q3⟩ := h.ob r o ho
    exact ⟨q1, (heap_grow_old w os (Array.getElem?_eq_some_iff.1 q2).1).trans q2, q3⟩⟩
theorem Ext.growN {base : Nat} {w : World} (hb : base ≤ w.heap.size) (os : Array Obj) : Ext base w (Sort.grow w os) := by
  exact ⟨⟨rfl, rfl, rfl, by rw [size_grow]; omega, fun k hk => heap_grow_old w os (by omega)⟩, fun k o hk _ => (heap_grow_old w os (Array.getElem?_eq_some_iff.1 hk).1).trans hk, Nat.le_refl _⟩
theorem Ext.aheadN (base : Nat) (w : World) (n : Nat) : Ext base w (Sort.ahead w n) := ⟨⟨rfl, rfl, rfl, Nat.le_refl _, fun _ _ => rfl⟩, fun _ _ h _ => h, Nat.le_add_right _ _⟩

/-- The one argument of such a function: a slice that is not empty. -/
theorem slice_arg {base : Nat} {μ : Mu} {H : Hp} {w : World} (h : Sim base μ H w) {b n c k : Nat} {cs : List Value} (hg : H.get b = .row cs true k) (hn : n ≠ 0) {args : Array Value} (ha : VRs μ [.slice (some ⟨b, 0, none⟩) n c] args.toList) :
    ∃ e cap, μ b = some e ∧ n ≤ cap ∧ (e.k ≠ 0 → e.ro + 0 + cap * e.k ≤ e.rsz) ∧ args = #[.slice (some ⟨e.rb, e.ro, none⟩) n cap] := by
  simp only [VRs, VR] at ha
  obtain ⟨u, r, h1, ⟨_, e, he, h2⟩, h3⟩ := ha
  subst h3
  rcases h2 with ⟨cap, h4, h5, h6⟩ | ⟨h4, _⟩
  · subst h6
    exact ⟨e, cap, he, h4, h5, by apply Array.toList_inj.1; rw [h1]; rfl⟩
  · exact absurd h4 hn

theorem sort_int_calls {f : FuncId} (hc : Callable P f) (hf : ∀ (blk off cap : Nat) (zs : List Int) (w : World), Holds (Value.int .i64) w blk off zs.toArray → blk < w.heap.size → zs.length < 4611686018427387904 →
      Calls P f #[.slice (some ⟨blk, off, none⟩) zs.length cap] w fun e w' => e = .returned (.tuple #[]) ∧ ∃ n os, w' = Sort.grow (Sort.putRow (Value.int .i64) (Sort.ahead w n) blk off (zs.mergeSort fun x y => decide (x ≤ y)).toArray) os)
    {H : Hp} {b k c : Nat} {l : List Int} (hg : H.get b = .row (l.map (Value.int .i64)) true k) (hn : l.length ≠ 0) (hs : l.length < 4611686018427387904) :
    ACalls P f [.slice (some ⟨b, 0, none⟩) l.length c] H (fun v H' => v = .tuple #[] ∧ H' = H.set b (.row ((l.mergeSort fun x y => decide (x ≤ y)).map (Value.int .i64)) true k)) := by
  refine ⟨hc, fun base μ w args' hsim hv => ?_⟩
  obtain ⟨e, cap, he, h1, h2, rfl⟩ := slice_arg hsim hg hn hv
  obtain ⟨hh, hblk, _, _⟩ := Sim.putRow (Value.int .i64) (fun _ => rfl) (fun _ => rfl) hsim hg he l rfl
  refine (hf e.rb e.ro cap l w hh hblk hs).mono ?_
  rintro en w' ⟨rfl, n, os, rfl⟩
  obtain ⟨_, _, h3, h4⟩ := Sim.putRow (Value.int .i64) (fun _ => rfl) (fun _ => rfl) (hsim.heap (w' := Sort.ahead w n) rfl) hg he (l.mergeSort fun x y => decide (x ≤ y)) (List.length_mergeSort _)
  exact ⟨.tuple #[], .tuple #[], _, rfl, ⟨rfl, rfl⟩, μ, fun _ _ h => h, ⟨#[], rfl, rfl⟩, h3.growN os, ((Ext.aheadN base w n).trans h4).trans (Ext.growN h3.hb os)⟩

theorem compact_int_calls {f : FuncId} (hc : Callable P f) (hf : ∀ (blk off cap : Nat) (d : Array Int) (w : World), Holds (Value.int .i64) w blk off d → d.size ≤ 9223372036854775807 → d.size ≤ cap →
      Calls P f #[.slice (some ⟨blk, off, none⟩) d.size cap] w fun e w' => e = .returned (.slice (some ⟨blk, off, none⟩) (Lib.compactUpTo d d.size).length cap) ∧ ∃ q, w' = Sort.putRow (Value.int .i64) (Sort.ahead w q) blk off (Lib.compactUpTo d d.size ++ List.replicate (d.size - (Lib.compactUpTo d d.size).length) 0).toArray)
    {H : Hp} {b k c : Nat} {l : List Int} (hg : H.get b = .row (l.map (Value.int .i64)) true k) (hn : l.length ≠ 0) (hs : l.length ≤ 9223372036854775807) (hle : (Lib.compact l).length ≤ l.length) :
    ACalls P f [.slice (some ⟨b, 0, none⟩) l.length c] H (fun v H' => v = .slice (some ⟨b, 0, none⟩) (Lib.compact l).length (Lib.compact l).length ∧ H' = H.set b (.row ((Lib.compact l ++ List.replicate (l.length - (Lib.compact l).length) 0).map (Value.int .i64)) true k)) := by
  refine ⟨hc, fun base μ w args' hsim hv => ?_⟩
  obtain ⟨e, cap, he, h1, h2, rfl⟩ := slice_arg hsim hg hn hv
  obtain ⟨hh, hblk, _, _⟩ := Sim.putRow (Value.int .i64) (fun _ => rfl) (fun _ => rfl) hsim hg he l rfl
  refine (hf e.rb e.ro cap l.toArray w hh (by simpa using hs) (by simpa using h1)).mono ?_
  rintro en w' ⟨rfl, n, rfl⟩
  obtain ⟨_, _, h3, h4⟩ := Sim.putRow (Value.int .i64) (fun _ => rfl) (fun _ => rfl) (hsim.heap (w' := Sort.ahead w n) rfl) hg he (Lib.compact l ++ List.replicate (l.length - (Lib.compact l).length) 0) (by simp; omega)
  refine ⟨_, _, _, rfl, ⟨rfl, rfl⟩, μ, fun _ _ h => h, ⟨rfl, e, he, .inl ⟨cap, Nat.le_trans hle h1, h2, rfl⟩⟩, h3, (Ext.aheadN base w n).trans h4⟩
end
end Go.Abs
