/- The library's sorting of a row of structs, carried over to the abstract memory. -/
import Derived.Test.YtjdmndklnfhmjaaAbsS
import Derived.Shelf.GgSortFunc.InsertionK
set_option linter.unusedVariables false
set_option linter.unusedSimpArgs false
set_option linter.unusedSectionVars false
namespace Go.Abs
open Go.RowKit Go.Sort Go.Shelf Go.Proofs

section
variable {P : Program}
/-- A row of one's own, held and put anew, told of cells. -/
theorem Sim.putRowV {base : Nat} {μ : Mu} {H : Hp} {w : World} (h : Sim base μ H w) {b k : Nat} {xs : List Value} (hg : H.get b = .row xs true k) (hxf : flatL xs = true) {e : Ent} (he : μ b = some e)
    (ys : List Value) (hl : ys.length = xs.length) (hy1 : ys.all one = true) (hyf : flatL ys = true) :
    Holds id w e.rb e.ro xs.toArray ∧ e.rb < w.heap.size ∧ Sim base μ (H.set b (.row ys true k)) (Sort.putRow id w e.rb e.ro ys.toArray) ∧ Ext base w (Sort.putRow id w e.rb e.ro ys.toArray) := by
  obtain ⟨e', arr, T, fz, he', hr, _, hsz, hv, ho, _⟩ := h.row _ _ _ _ hg
  obtain rfl : e' = e := Option.some.inj (he'.symm.trans he)
  obtain ⟨o1, rfl, o3, o4⟩ := ho rfl
  rw [VRs_flat hxf] at hv
  have hput : Sort.putRow id w e'.rb e'.ro ys.toArray = w.setRow e'.rb (putCells id e'.ro ys.toArray arr) := mapBlock_setRow _ hr
  refine ⟨fun j hj => ?_, (Array.getElem?_eq_some_iff.1 hr).1, ?_, ?_⟩
  · simp only [List.size_toArray] at hj
    refine ⟨?_, ?_⟩
    · simp only [World.cell?, hr, Option.isSome_none, Bool.false_eq_true, if_false]
      have e1 : ((arr.toList.drop e'.ro).take xs.length)[j]? = xs[j]? := by rw [hv]
      rw [List.getElem?_take_of_lt hj, List.getElem?_drop] at e1
      rw [← Array.getElem?_toList, e1]
      simp [hj]
    · simp only [World.frozen?, hr]
      simp
  · rw [hput]
    refine h.rewrite hg he hr hy1 (by rw [size_putCells]; omega) ?_ (by rw [size_putCells]; exact Nat.le_refl _)
    have := putCells_drop (enc := id) (o := e'.ro) (ys := ys) (arr := arr) (by omega)
    rw [List.map_id] at this
    rw [this, VRs_flat hyf]
  · rw [hput]
    exact ext_setRow _ _ _ o1 hr

variable {α : Type} [Inhabited α]
theorem flatten_get {enc : α → List Value} {k : Nat} (hk : ∀ x, (enc x).length = k) : ∀ (l : List α) (t : Nat), t < l.length * k → (l.map enc).flatten[t]? = (enc (l.getD (t / k) default))[t % k]?
  | [], t, h => by simp at h
  | x :: l, t, h => by
    have k0 : 0 < k := by
      rcases Nat.eq_zero_or_pos k with h0 | h0
      · rw [h0] at h; simp at h
      · exact h0
    rw [List.map_cons, List.flatten_cons]
    by_cases ht : t < k
    · rw [List.getElem?_append_left (by rw [hk]; exact ht), Nat.div_eq_of_lt ht, Nat.mod_eq_of_lt ht]
      rfl
    · have hd : t / k = (t - k) / k + 1 := by
        rw [Nat.div_eq_sub_div k0 (by omega)]
      have hm : t % k = (t - k) % k := by
        rw [Nat.mod_eq_sub_mod (by omega)]
      rw [List.getElem?_append_right (by rw [hk]; omega), hk, hd, hm]
      rw [List.length_cons, Nat.succ_mul] at h
      rw [flatten_get hk l (t - k) (by omega)]
      rfl
theorem flatK_list {enc : α → List Value} {k : Nat} (hk : ∀ x, (enc x).length = k) (l : List α) : (flatK enc k l.toArray) = ((l.map enc).flatten).toArray := by
  have hlen : (l.map enc).flatten.length = l.length * k := by
    induction l with
    | nil => simp
    | cons x l ih => rw [List.map_cons, List.flatten_cons, List.length_append, ih, hk, List.length_cons, Nat.succ_mul]; omega
  refine ext_get! (by simp [hlen]) fun t ht => ?_
  have ht' : t < l.length * k := by simpa using ht
  have k0 : 0 < k := by
    rcases Nat.eq_zero_or_pos k with h0 | h0
    · rw [h0] at ht'; simp at ht'
    · exact h0
  rw [get_flatK _ _ _ _ (by simpa using ht')]
  have h2 := flatten_get hk l t ht'
  have hq : t / k < l.length := (Nat.div_lt_iff_lt_mul k0).2 ht'
  have e1 : (l.toArray)[t / k]! = l.getD (t / k) default := by simp [List.getD_eq_getElem?_getD, hq]
  rw [e1]
  simp only [List.getElem!_toArray]
  rw [List.getElem!_eq_getElem?_getD, List.getElem!_eq_getElem?_getD, h2]

theorem perm_of_in {d d' : Array α} (h : PermIn 0 d.size d d') : d'.toList.Perm d.toList := by
  obtain ⟨h1, _, h3⟩ := h
  have e1 : d.extract 0 d.size = d := by simp
  have e2 : d'.extract 0 d.size = d' := by rw [← h1]; simp
  rw [e1, e2] at h3
  exact h3
theorem sorted_of_in {lt : α → α → Bool} {d d' : Array α} (hs : d'.size = d.size) (h : SortedIn lt 0 d.size d') : d'.toList.Pairwise fun x y => lt y x = false := by
  rw [List.pairwise_iff_getElem]
  intro i j hi hj hij
  have hi' : i < d'.size := by simpa using hi
  have hj' : j < d'.size := by simpa using hj
  have := h i j (Nat.zero_le _) hij (by omega)
  rw [getElem!_pos d' i hi', getElem!_pos d' j hj'] at this
  simpa using this

theorem slice_fn_arg {base : Nat} {μ : Mu} {H : Hp} {w : World} (h : Sim base μ H w) {b n c k g : Nat} {cs : List Value} (hg : H.get b = .row cs true k) (hn : n ≠ 0) {args : Array Value} (ha : VRs μ [.slice (some ⟨b, 0, none⟩) n c, .func (.func g) #[] #[]] args.toList) :
    ∃ e cap, μ b = some e ∧ n ≤ cap ∧ args = #[.slice (some ⟨e.rb, e.ro, none⟩) n cap, .func (.func g) #[] #[]] := by
  simp only [VRs, VR] at ha
  obtain ⟨u, r, h1, ⟨_, e, he, h2⟩, u2, r2, h3, ⟨f', c', h4, h5, h6⟩, h7⟩ := ha
  simp only [VRa, VRs] at h5 h6
  have h5 : f' = #[] := by simpa using h5
  have h6 : c' = #[] := by simpa using h6
  subst h5; subst h6; subst h4; subst h7; subst h3
  rcases h2 with ⟨cap, h8, _, h10⟩ | ⟨h8, _⟩
  · subst h10
    exact ⟨e, cap, he, h8, by apply Array.toList_inj.1; rw [h1]; rfl⟩
  · exact absurd h8 hn

theorem sort_struct_calls {enc : α → List Value} {k : Nat} (hk : ∀ x, (enc x).length = k) (h1 : ∀ x, (enc x).all one = true) (hfl : ∀ x, flatL (enc x) = true) {lt : α → α → Bool} {f g : FuncId} (hc : Callable P f)
    (hf : ∀ (blk off cap : Nat) (d : Array α) (w : World), HoldsK enc k w blk off d → blk < w.heap.size → d.size < 4611686018427387904 →
      Calls P f #[.slice (some ⟨blk, off, none⟩) d.size cap, .func (.func g) #[] #[]] w fun e w' => e = .returned (.tuple #[]) ∧ ∃ d' n os, PermIn 0 d.size d d' ∧ SortedIn lt 0 d.size d' ∧ w' = sortWorldK enc k w blk off n d' os)
    {H : Hp} {b kk c : Nat} {l : List α} (hg : H.get b = .row (l.map enc).flatten true kk) (hn : l.length ≠ 0) (hs : l.length < 4611686018427387904) :
    ACalls P f [.slice (some ⟨b, 0, none⟩) l.length c, .func (.func g) #[] #[]] H (fun v H' => v = .tuple #[] ∧ ∃ l' : List α, l'.Perm l ∧ l'.Pairwise (fun x y => lt y x = false) ∧ H' = H.set b (.row (l'.map enc).flatten true kk)) := by
  have hone : ∀ l : List α, ((l.map enc).flatten).all one = true := by
    intro l
    induction l with
    | nil => rfl
    | cons x l ih => rw [List.map_cons, List.flatten_cons, List.all_append, h1, ih]; rfl
  have hflapp : ∀ a b : List Value, flatL a = true → flatL b = true → flatL (a ++ b) = true := by
    intro a
    induction a with
    | nil => intro b _ hb; exact hb
    | cons v a ih => intro b ha hb; simp only [flatL, List.cons_append, Bool.and_eq_true] at ha ⊢; exact ⟨ha.1, ih b ha.2 hb⟩
  have hflat : ∀ l : List α, flatL (l.map enc).flatten = true := by
    intro l
    induction l with
    | nil => rfl
    | cons x l ih => rw [List.map_cons, List.flatten_cons]; exact hflapp _ _ (hfl x) ih
  have hlen : ∀ l : List α, (l.map enc).flatten.length = l.length * k := by
    intro l
    induction l with
    | nil => simp
    | cons x l ih => rw [List.map_cons, List.flatten_cons, List.length_append, ih, hk, List.length_cons, Nat.succ_mul]; omega
  refine ⟨hc, fun base μ w args' hsim hv => ?_⟩
  obtain ⟨e, cap, he, h2, rfl⟩ := slice_fn_arg hsim hg hn hv
  obtain ⟨hh, hblk, _, _⟩ := Sim.putRowV hsim hg (hflat l) he (l.map enc).flatten rfl (hone l) (hflat l)
  have hh' : HoldsK enc k w e.rb e.ro l.toArray := by unfold HoldsK; rw [flatK_list hk]; exact hh
  refine (hf e.rb e.ro cap l.toArray w hh' hblk (by simpa using hs)).mono ?_
  rintro en w' ⟨rfl, d', n, os, hp, hso, rfl⟩
  have hperm : d'.toList.Perm l := perm_of_in hp
  have hdl : d'.toList.length = l.length := hperm.length_eq
  obtain ⟨_, _, h3, h4⟩ := Sim.putRowV (hsim.heap (w' := Sort.ahead w n) rfl) hg (hflat l) he (d'.toList.map enc).flatten (by rw [hlen, hlen, hdl]) (hone _) (hflat _)
  have e3 : sortWorldK enc k w e.rb e.ro n d' os = Sort.grow (Sort.putRow id (Sort.ahead w n) e.rb e.ro (d'.toList.map enc).flatten.toArray) os := by
    unfold sortWorldK putRowK
    rw [← flatK_list hk]
  rw [e3]
  exact ⟨.tuple #[], .tuple #[], _, rfl, ⟨rfl, d'.toList, hperm, sorted_of_in (by simpa using hdl) hso, rfl⟩, μ, fun _ _ h => h, ⟨#[], rfl, rfl⟩, h3.growN os, ((Ext.aheadN base w n).trans h4).trans (Ext.growN h3.hb os)⟩
end
end Go.Abs
