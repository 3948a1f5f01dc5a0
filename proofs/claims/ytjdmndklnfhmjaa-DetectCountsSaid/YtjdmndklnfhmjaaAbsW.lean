/- A quicker test that a drawn region may be walked in the text's order. -/
import Derived.Test.YtjdmndklnfhmjaaAbsT
set_option linter.unusedVariables false
set_option linter.unusedSimpArgs false
set_option linter.unusedSectionVars false
namespace Go.Abs
open Go.RowKit

def bitsOf (l : List Nat) : Nat := l.foldr (fun t m => (1 <<< t) ||| m) 0
theorem bitsOf_mem {l : List Nat} {t : Nat} : (bitsOf l).testBit t = true ↔ t ∈ l := by
  induction l with
  | nil => simp [bitsOf]
  | cons x l ih =>
    have e : bitsOf (x :: l) = (1 <<< x) ||| bitsOf l := rfl
    rw [e, Nat.testBit_or, Bool.or_eq_true, ih, List.mem_cons, Nat.testBit_shiftLeft]
    simp only [Bool.and_eq_true, decide_eq_true_eq, Nat.testBit_one_eq_true_iff_self_eq_zero]
    constructor
    · rintro (⟨h1, h2⟩ | h)
      · exact .inl (by omega)
      · exact .inr h
    · rintro (h | h)
      · exact .inl ⟨by omega, by omega⟩
      · exact .inr h
theorem land_zero {a b t : Nat} (h : (a &&& b == 0) = true) (ha : a.testBit t = true) (hb : b.testBit t = true) : False := by
  have h := beq_iff_eq.1 h
  have := congrArg (fun x => x.testBit t) h
  simp [Nat.testBit_and, ha, hb] at this

structure Inf where
  dm : Nat
  lm : Nat
  ms : Nat
  low : Bool
  q : Bool
  pu : Bool
  gr : Bool
  mx : Nat
def edges (o : Oper) : List Nat := o.after.toList.filterMap fun e => if Region.binds .any e = true then some e.on else none
theorem edges_mem {o : Oper} {n : Nat} : n ∈ edges o ↔ ∃ e ∈ o.after, Region.binds .any e = true ∧ e.on = n := by
  simp only [edges, List.mem_filterMap, Array.mem_toList_iff]
  constructor
  · rintro ⟨e, h1, h2⟩
    split at h2
    · rename_i hb; exact ⟨e, h1, hb, by simpa using h2⟩
    · cases h2
  · rintro ⟨e, h1, h2, h3⟩
    exact ⟨e, h1, by rw [if_pos h2, h3]⟩
def maskOf (ms : List Nat) (o : Oper) : Nat := (edges o).foldr (fun n m => (1 <<< n) ||| ms.getD n 0 ||| m) 0
theorem maskOf_mem {ms : List Nat} {o : Oper} {i : Nat} (h : (maskOf ms o).testBit i = true) : ∃ n ∈ edges o, n = i ∨ (ms.getD n 0).testBit i = true := by
  unfold maskOf at h
  generalize edges o = l at h ⊢
  induction l with
  | nil => simp at h
  | cons x l ih =>
    rw [List.foldr_cons, Nat.testBit_or, Nat.testBit_or, Bool.or_eq_true, Bool.or_eq_true] at h
    rcases h with (h | h) | h
    · rw [Nat.testBit_shiftLeft] at h
      simp only [Bool.and_eq_true, decide_eq_true_eq, Nat.testBit_one_eq_true_iff_self_eq_zero] at h
      exact ⟨x, List.mem_cons_self .., .inl (by omega)⟩
    · exact ⟨x, List.mem_cons_self .., .inr h⟩
    · obtain ⟨n, h1, h2⟩ := ih h
      exact ⟨n, List.mem_cons_of_mem _ h1, h2⟩
def infOf (ops : Array Oper) (j : Nat) (ms : List Nat) (o : Oper) : Inf :=
  ⟨bitsOf o.dst.toList, bitsOf (o.looksAt ops), maskOf ms o, (edges o).all fun n => decide (n < j), quiet o.op, opPure o.op, opGrow o.op, (edges o).foldr (fun n m => max (n + 1) m) 0⟩
def infs (ops : Array Oper) : Nat → List Nat → List Oper → List Inf
  | _, _, [] => []
  | j, ms, o :: l => let x := infOf ops j ms o; x :: infs ops (j + 1) (ms ++ [x.ms]) l
def chk : Nat → List Inf → Bool
  | _, [] => true
  | i, x :: r => x.low && ((x.q && r.all fun y => y.ms.testBit i || ((x.dm &&& (y.lm ||| y.dm) == 0) && (y.dm &&& x.lm == 0) && (x.pu || y.gr))) || r.all fun y => decide (i < y.mx)) && chk (i + 1) r
def canonT (l : List Oper) : Bool := chk 0 (infs l.toArray 0 [] l)

theorem mx_mem : ∀ {l : List Nat} {i : Nat}, i < l.foldr (fun n m => max (n + 1) m) 0 → ∃ n ∈ l, i ≤ n
  | [], i, h => by simp at h
  | x :: l, i, h => by
    rw [List.foldr_cons] at h
    rcases Nat.lt_or_ge i (x + 1) with h1 | h1
    · exact ⟨x, List.mem_cons_self .., by omega⟩
    · obtain ⟨n, h2, h3⟩ := mx_mem (l := l) (i := i) (by omega)
      exact ⟨n, List.mem_cons_of_mem _ h2, h3⟩
theorem dep_mono {ops : Array Oper} : ∀ {f g : Nat}, f ≤ g → ∀ {j i : Nat}, dep ops f j i = true → dep ops g j i = true
  | 0, _, _, _, _, h => by simp [dep] at h
  | f + 1, 0, h, _, _, _ => by omega
  | f + 1, g + 1, hfg, j, i, h => by
    simp only [dep] at h ⊢
    cases hj : ops[j]? with
    | none => simp [hj] at h
    | some o =>
      rw [hj] at h
      simp only at h ⊢
      obtain ⟨e, he, hb⟩ := Array.any_eq_true'.1 h
      refine Array.any_eq_true'.2 ⟨e, he, ?_⟩
      simp only [Bool.and_eq_true, Bool.or_eq_true] at hb ⊢
      exact ⟨hb.1, hb.2.imp id fun h => dep_mono (Nat.le_of_succ_le_succ hfg) h⟩

/-- The masks say what hangs on what. -/
def MsOk (ops : Array Oper) (ms : List Nat) : Prop := ∀ j i, (ms.getD j 0).testBit i = true → dep ops (j + 1) j i = true
theorem MsOk.step {ops : Array Oper} {ms : List Nat} (h : MsOk ops ms) {o : Oper} (ho : ops[ms.length]? = some o) : MsOk ops (ms ++ [maskOf ms o]) := by
  intro j i hb
  rcases Nat.lt_trichotomy j ms.length with hj | hj | hj
  · rw [List.getD_eq_getElem?_getD, List.getElem?_append_left hj, ← List.getD_eq_getElem?_getD] at hb
    exact h j i hb
  · subst hj
    rw [List.getD_eq_getElem?_getD, List.getElem?_append_right (Nat.le_refl _), Nat.sub_self] at hb
    obtain ⟨n, h1, h2⟩ := maskOf_mem hb
    obtain ⟨e, h3, h4, h5⟩ := edges_mem.1 h1
    simp only [dep, ho]
    refine Array.any_eq_true'.2 ⟨e, h3, ?_⟩
    rw [h4, h5]
    simp only [Bool.true_and, Bool.or_eq_true, beq_iff_eq]
    rcases h2 with h2 | h2
    · exact .inl h2
    · refine .inr (dep_mono ?_ (h n i h2))
      rcases Nat.lt_or_ge n ms.length with hn | hn
      · exact hn
      · rw [List.getD_eq_getElem?_getD, List.getElem?_eq_none hn] at h2
        simp at h2
  · rw [List.getD_eq_getElem?_getD, List.getElem?_eq_none (by simp; omega)] at hb
    simp at hb

/-- The first i operations are listed. -/
def firstN (n i : Nat) : Array Bool := ((List.range n).map fun j => decide (j < i)).toArray
theorem firstN_get {n i j : Nat} (h : j < n) (d : Bool) : (firstN n i).getD j d = decide (j < i) := by
  simp [firstN, h]
theorem firstN_out {n i j : Nat} (h : n ≤ j) (d : Bool) : (firstN n i).getD j d = d := by
  simp [firstN, h]
theorem firstN_set {n i : Nat} : (firstN n i).setIfInBounds i true = firstN n (i + 1) := by
  apply Array.ext_getElem?
  intro j
  rcases Nat.lt_or_ge j n with hj | hj
  · by_cases hij : i = j
    · subst hij
      simp [firstN, hj]
    · rw [Array.getElem?_setIfInBounds_ne hij]
      simp only [firstN, List.getElem?_toArray, List.getElem?_map, List.getElem?_range hj, Option.map_some, Option.some.injEq]
      exact decide_eq_decide.2 (by omega)
  · rw [Array.getElem?_eq_none (by simp [firstN, hj]), Array.getElem?_eq_none (by simp [firstN, hj])]
theorem firstN_zero {n : Nat} : Array.replicate n false = firstN n 0 := by
  apply Array.ext_getElem?
  intro j
  rcases Nat.lt_or_ge j n with hj | hj
  · simp [firstN, hj]
  · rw [Array.getElem?_eq_none (by simp [hj]), Array.getElem?_eq_none (by simp [firstN, hj])]

/-- What an entry of the table says of its operation. -/
structure InfOk (ops : Array Oper) (j : Nat) (o : Oper) (x : Inf) : Prop where
  op : ops[j]? = some o
  dm : x.dm = bitsOf o.dst.toList
  lm : x.lm = bitsOf (o.looksAt ops)
  ms : ∀ i, x.ms.testBit i = true → dep ops (j + 1) j i = true
  low : x.low = true → ∀ n ∈ edges o, n < j
  q : x.q = quiet o.op
  pu : x.pu = opPure o.op
  gr : x.gr = opGrow o.op
  mx : ∀ i, i < x.mx → ∃ n ∈ edges o, i ≤ n
theorem infs_ok {ops : Array Oper} : ∀ (l : List Oper) (j : Nat) (ms : List Nat), ms.length = j → MsOk ops ms → (∀ k, l[k]? = ops[j + k]?) → (infs ops j ms l).length = l.length ∧ ∀ k x, (infs ops j ms l)[k]? = some x → ∃ o, InfOk ops (j + k) o x
  | [], j, ms, _, _, _ => ⟨rfl, fun k x h => by simp [infs] at h⟩
  | o :: l, j, ms, hj, hm, hl => by
    have ho : ops[j]? = some o := by have := hl 0; simpa using this.symm
    have hm2 := hm.step (o := o) (by rw [hj]; exact ho)
    obtain ⟨h1, h2⟩ := infs_ok l (j + 1) (ms ++ [(infOf ops j ms o).ms]) (by simp [hj]) hm2 (fun k => by have := hl (k + 1); rw [List.getElem?_cons_succ] at this; rw [this]; congr 1; omega)
    refine ⟨by simp [infs, h1], fun k x hx => ?_⟩
    cases k with
    | zero =>
      simp only [infs, List.getElem?_cons_zero, Option.some.injEq] at hx
      subst hx
      refine ⟨o, ho, rfl, rfl, fun i hi => ?_, fun h n hn => ?_, rfl, rfl, rfl, fun i hi => mx_mem hi⟩
      · have := hm2 j i (by rw [List.getD_eq_getElem?_getD, List.getElem?_append_right (by omega), hj, Nat.sub_self]; exact hi)
        exact this
      · simpa using of_decide_eq_true (List.all_eq_true.1 h n hn)
    | succ k =>
      simp only [infs, List.getElem?_cons_succ] at hx
      obtain ⟨o', ho'⟩ := h2 k x hx
      refine ⟨o', ?_⟩
      have e : j + (k + 1) = j + 1 + k := by omega
      rw [e]
      exact ho'

theorem apart_of {ops : Array Oper} {i j : Nat} {x y : Oper} {a b : Inf} (ha : InfOk ops i x a) (hb : InfOk ops j y b) (h1 : (a.dm &&& (b.lm ||| b.dm) == 0) = true) (h2 : (b.dm &&& a.lm == 0) = true) : x.apart ops y = true := by
  unfold Oper.apart
  rw [ha.dm, hb.dm, hb.lm] at h1
  rw [hb.dm, ha.lm] at h2
  simp only [Bool.and_eq_true]
  refine ⟨?_, ?_⟩
  · cases hd : x.dst with
    | none => rfl
    | some d =>
      have hx : (bitsOf x.dst.toList).testBit d = true := bitsOf_mem.2 (by simp [hd])
      simp only [Bool.and_eq_true, Bool.not_eq_true', bne_iff_ne, ne_eq]
      refine ⟨?_, fun hy => ?_⟩
      · rw [Bool.eq_false_iff]
        intro hc
        exact land_zero h1 hx (by rw [Nat.testBit_or, Bool.or_eq_true]; exact .inl (bitsOf_mem.2 (by simpa using hc)))
      · exact land_zero h1 hx (by rw [Nat.testBit_or, Bool.or_eq_true]; exact .inr (bitsOf_mem.2 (by simp [hy])))
  · cases hd : y.dst with
    | none => rfl
    | some d =>
      have hy : (bitsOf y.dst.toList).testBit d = true := bitsOf_mem.2 (by simp [hd])
      simp only [Bool.not_eq_true']
      rw [Bool.eq_false_iff]
      intro hc
      exact land_zero h2 hy (bitsOf_mem.2 (by simpa using hc))

theorem chk_sound {ops : Array Oper} : ∀ (l : List Inf) (i : Nat), i + l.length = ops.size → (∀ k x, l[k]? = some x → ∃ o, InfOk ops (i + k) o x) → chk i l = true → canonB ops (List.range' i l.length) (firstN ops.size i) = true
  | [], i, hi, _, _ => by
    simp only [List.length_nil, List.range'_zero, canonB, List.isEmpty_iff]
    apply List.eq_nil_iff_forall_not_mem.2
    intro j hj
    obtain ⟨h1, o, h2, _⟩ := mem_ready.1 hj
    have hlt := (Array.getElem?_eq_some_iff.1 h2).1
    rw [firstN_get hlt] at h1
    have := of_decide_eq_false h1
    simp only [List.length_nil] at hi
    omega
  | x :: r, i, hi, hok, hc => by
    simp only [chk, Bool.and_eq_true] at hc
    obtain ⟨⟨hlow, hor⟩, hrest⟩ := hc
    obtain ⟨o, ho⟩ := hok 0 x rfl
    have hoi : ops[i]? = some o := ho.op
    have hilt : i < ops.size := (Array.getElem?_eq_some_iff.1 hoi).1
    have later : ∀ j oj, ops[j]? = some oj → i < j → ∃ y, y ∈ r ∧ InfOk ops j oj y := fun j oj hj hij => by
      have hjl := (Array.getElem?_eq_some_iff.1 hj).1
      rw [List.length_cons] at hi
      have hk : j - i - 1 < r.length := by omega
      obtain ⟨o', ho'⟩ := hok (j - i) r[j - i - 1] (by
        have e : (x :: r)[j - i]? = (x :: r)[(j - i - 1) + 1]? := by congr 1; omega
        rw [e, List.getElem?_cons_succ, List.getElem?_eq_getElem hk])
      have e2 : i + (j - i) = j := by omega
      rw [e2] at ho'
      obtain rfl : oj = o' := Option.some.inj (hj.symm.trans ho'.op)
      exact ⟨_, List.getElem_mem hk, ho'⟩
    have hready : i ∈ Region.ready .any ops (firstN ops.size i) := mem_ready.2 ⟨by rw [firstN_get hilt]; simp, o, hoi, fun e he hb => by
      have := ho.low hlow e.on (edges_mem.2 ⟨e, he, hb, rfl⟩)
      rw [firstN_get (by omega)]
      simpa using this⟩
    simp only [List.length_cons, List.range'_succ, canonB, hoi, Bool.and_eq_true]
    refine ⟨⟨by simpa using hready, ?_⟩, ?_⟩
    · rw [Bool.or_eq_true] at hor ⊢
      rcases hor with hor | hor
      · right
        rw [Bool.and_eq_true] at hor ⊢
        refine ⟨by rw [← ho.q]; exact hor.1, ?_⟩
        refine List.all_eq_true.2 fun j hj => ?_
        have hj := List.mem_range.1 hj
        rcases Nat.lt_trichotomy j i with h | h | h
        · rw [firstN_get hj, decide_eq_true h]; simp
        · subst h; simp
        · have hoj : ops[j]? = some ops[j] := Array.getElem?_eq_getElem hj
          obtain ⟨y, hy, hyo⟩ := later j _ hoj h
          have := List.all_eq_true.1 hor.2 y hy
          rw [hoj]
          simp only [Bool.or_eq_true, Bool.and_eq_true] at this ⊢
          right
          rcases this with h1 | ⟨⟨h1, h2⟩, h3⟩
          · exact .inl (dep_mono (by omega) (hyo.ms i h1))
          · refine .inr ⟨apart_of ho hyo h1 h2, ?_⟩
            rw [← ho.pu, ← hyo.gr]
            exact h3
      · left
        rw [beq_iff_eq]
        apply List.perm_singleton.1
        have hnd : (Region.ready .any ops (firstN ops.size i)).Nodup := List.Nodup.sublist List.filter_sublist List.nodup_range
        refine (List.perm_ext_iff_of_nodup hnd (by simp : [i].Nodup)).2 fun j => ?_
        rw [List.mem_singleton]
        constructor
        · intro hj
          obtain ⟨h1, oj, h2, h3⟩ := mem_ready.1 hj
          have hjl := (Array.getElem?_eq_some_iff.1 h2).1
          rw [firstN_get hjl] at h1
          have h1 := of_decide_eq_false h1
          rcases Nat.eq_or_lt_of_le (Nat.not_lt.1 h1) with h | h
          · exact h.symm
          · obtain ⟨y, hy, hyo⟩ := later j oj h2 h
            have hm := of_decide_eq_true (List.all_eq_true.1 hor y hy)
            obtain ⟨n, hn, hin⟩ := hyo.mx i hm
            obtain ⟨e, he, hb, hen⟩ := edges_mem.1 hn
            have := h3 e he hb
            rw [hen] at this
            rcases Nat.lt_or_ge n ops.size with hns | hns
            · rw [firstN_get hns] at this
              have := of_decide_eq_true this
              omega
            · rw [firstN_out hns] at this; cases this
        · rintro rfl
          exact hready
    · rw [firstN_set]
      exact chk_sound r (i + 1) (by rw [List.length_cons] at hi; omega) (fun k y hy => by
        obtain ⟨o', ho'⟩ := hok (k + 1) y (by simpa using hy)
        have e : i + (k + 1) = i + 1 + k := by omega
        rw [e] at ho'
        exact ⟨o', ho'⟩) hrest

theorem canonT_sound {l : List Oper} (h : canonT l = true) : canonB l.toArray (List.range l.length) (Array.replicate l.toArray.size false) = true := by
  obtain ⟨h1, h2⟩ := infs_ok (ops := l.toArray) l 0 [] rfl (fun j i hb => by simp at hb) (fun k => by simp)
  rw [firstN_zero, List.range_eq_range', ← h1]
  exact chk_sound _ 0 (by rw [Nat.zero_add, h1]; simp) h2 h
theorem AWP_draw_fast {P : Program} {env : Env} {H : Hp} {N n0 : Nat} {r : Option Nat} {Q : Exit → Env → Hp → Prop} {id : Nat} {l : List Oper} (hm : P.follows .mixedOrders = true) (hB : canonT l = true)
    (h : awpD P l.toArray (Q .normal) l env H) : AWP P N n0 r (.region id l.toArray true) Q env H :=
  AWP_draw_in hm (canonT_sound hB) h
end Go.Abs
namespace Go.Abs
open Go.RowKit
section
variable {P : Program} {N n0 : Nat} {r : Option Nat} {Q : Exit → Env → Hp → Prop} {env : Env} {H : Hp} {a b : Code}
/-- A sequence: its first part is walked. -/
theorem AWP_step (h : awp P N n0 r a (thenQ (AWP P N n0 r b Q) Q) env H) : AWP P N n0 r (.seq a b) Q env H := AWP_seq (AWP_of_awp h)
/-- A sequence: behind its first part frame and memory are told anew. -/
theorem AWP_join {σ : Type} (E : σ → Env) (M : σ → Hp) (I : σ → Prop) (h1 : awp P N n0 r a (thenQ (fun e H' => ∃ s, I s ∧ Weak n0 (E s) (M s) e H') Q) env H) (h2 : ∀ s, I s → AWP P N n0 r b Q (E s) (M s)) : AWP P N n0 r (.seq a b) Q env H :=
  AWP_seq ((AWP_of_awp h1).mono fun e env' H' hq => by
    cases e <;> first
      | (obtain ⟨s, hi, hw⟩ := hq; exact AWP_weak hw (h2 s hi))
      | exact hq)
end
end Go.Abs
namespace Go
section
variable {P : Program} {b : Frame} {a : Act} {k : List Item} {cs : List Frame} {w : World}
theorem stepR_scope {c : Code} : step P (lone (b.atR a (.code (.scope c) :: k)) cs w) = .next (lone (b.atR a (.code c :: .inScope c :: k)) cs w) :=
  step_lone_go (by simp [stepG, stepG.exec, Frame.atR])
theorem stepR_inScope {c : Code} : step P (lone (b.atR a (.inScope c :: k)) cs w) = .next (lone (b.atR a k) cs w) :=
  step_lone_go (by simp [stepG, stepG.exec, Frame.atR])
/-- No jump comes out. -/
def noJump (Q : Exit → Act → World → Prop) : Exit → Act → World → Prop
  | .goto _, _, _ => False
  | e, a, w => Q e a w
theorem wpIn_scope {F : Fence} {n : Nat} {Q : Exit → Act → World → Prop} {c : Code} (h : c.wpIn F n P (noJump Q) a w) : (Code.scope c).wpIn F n P Q a w := by
  intro b k cs hro hb hr
  have h0 : (lone (b.atR a (.code (.scope c) :: k)) cs w).fenced P F := fenced_calm hb hr rfl
  obtain ⟨e, a₁, w₁, hq, harr⟩ := h b (.inScope c :: k) cs hro hb hr
  cases e with
  | normal => exact ⟨.normal, a₁, w₁, hq, .head h0 stepR_scope (StepsIn.trans harr (.one (fenced_calm hb hr rfl) stepR_inScope))⟩
  | exit id =>
    have hx : exitTo id (.inScope c :: k) = exitTo id k := by simp [exitTo]
    exact ⟨_, a₁, w₁, hq, fun k' hk => .head h0 stepR_scope (harr.1 k' (by rw [hx]; exact hk)),
      fun hr' hk => let ⟨k₁, h1, h2⟩ := harr.2 hr' (by rw [hx]; exact hk); ⟨k₁, h1, .head h0 stepR_scope h2⟩⟩
  | goto l => exact hq.elim
  | ret => exact ⟨_, a₁, w₁, hq, .of_steps (.one h0 stepR_scope) harr⟩
  | panic ch => exact ⟨_, a₁, w₁, hq, .of_steps (.one h0 stepR_scope) harr⟩
  | outgrown => exact ⟨_, a₁, w₁, hq, .of_steps (.one h0 stepR_scope) harr⟩
end
end Go
namespace Go.Abs
open Go.RowKit
section
variable {P : Program} {N n0 : Nat} {r : Option Nat} {Q : Exit → Env → Hp → Prop} {env : Env} {H : Hp}
def noGQ (Q : Exit → Env → Hp → Prop) : Exit → Env → Hp → Prop
  | .goto _, _, _ => False
  | e, env, H => Q e env H
theorem noGQ_normal : noGQ Q .normal env H = Q .normal env H := rfl
theorem noGQ_ret : noGQ Q .ret env H = Q .ret env H := rfl
theorem noGQ_exit (id : Nat) : noGQ Q (.exit id) env H = Q (.exit id) env H := rfl
theorem AWP_scope {c : Code} (h : AWP P N n0 r c (noGQ Q) env H) : AWP P N n0 r (.scope c) Q env H := by
  intro hok base μ0 w0 hdom μ a w hst
  refine wpIn_scope (wpIn_mono (h hok base μ0 w0 hdom μ a w hst) ?_)
  rintro e a' w' ⟨h1, env', H', μ', h2, h3⟩
  cases e <;> first
    | exact h2.elim
    | exact ⟨h1, env', H', μ', h2, h3⟩
end
attribute [go_sem ↓] noGQ_normal noGQ_ret noGQ_exit
end Go.Abs
namespace Go.Abs
open Go.RowKit
section
variable {P : Program} {G : Hp}
/-- Appending to an own row, as the executor computes it. -/
def appB (P : Program) (t1 t2 : TypeId) (size bytes : Nat) (G : Hp) (q : Nat) (blk : Blk) (n : Nat) (src : Option (Nat × List Value)) : Option (Value × Hp) :=
  match blk, src with
  | .row cs true k, some (m, xs) => if k = size ∧ cs.length = n * size ∧ xs.all one = true ∧ xs.length = m * size ∧ (n + m) * bytes ≤ 140737488355328 then some (.slice (some ⟨G.next, 0, none⟩) (n + m) (n + m), (G.set q .dead).new (.row (cs ++ xs) true size)) else none
  | _, _ => none
structure AppOk (P : Program) (t1 t2 : TypeId) (size bytes : Nat) : Prop where
  ok : ∃ e e2 z, P.underlying t1 = some (.slice e) ∧ P.underlying t2 = some (.slice e2) ∧ tsz P e = some size ∧ tbytes P e = some bytes ∧ tzero P e = some z ∧ z.cells.size = size ∧ bytes ≠ 0 ∧ size ≠ 0
theorem app_B {t1 t2 : TypeId} {size bytes : Nat} (h : AppOk P t1 t2 size bytes) (q n c : Nat) (a : Option Addr) (m c' : Nat) {r : Value × Hp} (hr : appB P t1 t2 size bytes G q (G.get q) n (asource G size (.slice a m c')) = some r) :
    aappend P G [t1, t2] (.slice (some ⟨q, 0, none⟩) n c) (.slice a m c') = some r := by
  obtain ⟨e, e2, z, h1, h2, h3, h4, h5, h6, h7, h8⟩ := h.ok
  unfold appB at hr
  split at hr
  · rename_i cs k m' xs hg hs
    split at hr
    · rename_i hc
      obtain ⟨rfl, hc1, hc2, hc3, hc4⟩ := hc
      injection hr with hr
      subst hr
      have hm : m' = m := by
        cases a with
        | none =>
          simp only [asource] at hs
          split at hs
          · rename_i h0; subst h0; cases hs; rfl
          · cases hs
        | some a =>
          simp only [asource] at hs
          split at hs
          · rename_i h0; subst h0; cases hs; rfl
          · cases hl : aload G a (m * k) with
            | none => rw [hl] at hs; simp at hs
            | some w => rw [hl] at hs; simp at hs; exact hs.1.symm
      subst hm
      exact append_elems h1 h2 h3 h4 h5 h6 h7 h8 hg hs hc2 hc3 hc1 hc4
    · cases hr
  · cases hr
end
end Go.Abs
namespace Go.Abs
open Go.RowKit
section
variable {P : Program} {G : Hp}
theorem app_eq {t1 t2 : TypeId} {size bytes : Nat} (h : AppOk P t1 t2 size bytes) (q n c : Nat) (a : Option Addr) (m c' : Nat) :
    aappend P G [t1, t2] (.slice (some ⟨q, 0, none⟩) n c) (.slice a m c') = appB P t1 t2 size bytes G q (G.get q) n (asource G size (.slice a m c')) := by
  cases hr : appB P t1 t2 size bytes G q (G.get q) n (asource G size (.slice a m c')) with
  | some r => exact app_B h q n c a m c' hr
  | none =>
    obtain ⟨e, e2, z, h1, h2, h3, h4, h5, h6, h7, h8⟩ := h.ok
    simp only [aappend, h1, h2, h3, h4, h5, Option.bind_some]
    cases hs : asource G size (.slice a m c') with
    | none => rfl
    | some p =>
      obtain ⟨m', xs⟩ := p
      rw [hs] at hr
      simp only [Option.bind_some]
      split
      · rename_i hc
        cases hg : G.get q with
        | dead => rfl
        | row cs own k =>
          cases own with
          | false => rfl
          | true =>
            rw [hg] at hr
            simp only [appB] at hr
            simp only
            split
            · rename_i hd
              rw [if_pos ⟨hd.1, by rw [← hd.2.2.1, Nat.zero_add], hc.2.2.1, hc.2.2.2.2, hd.2.2.2⟩] at hr
              cases hr
            · rfl
      · rfl
theorem appB_row {t1 t2 : TypeId} {size bytes q n m : Nat} {cs xs : List Value} (h1 : cs.length = n * size) (h2 : xs.all one = true) (h3 : xs.length = m * size) (h4 : (n + m) * bytes ≤ 140737488355328) :
    appB P t1 t2 size bytes G q (.row cs true size) n (some (m, xs)) = some (.slice (some ⟨G.next, 0, none⟩) (n + m) (n + m), (G.set q .dead).new (.row (cs ++ xs) true size)) := by
  simp only [appB]
  exact if_pos ⟨trivial, h1, h2, h3, h4⟩
theorem asource_pos {s r ro m c : Nat} (hm : m ≠ 0) : asource G s (.slice (some ⟨r, ro, none⟩) m c) = (aload G ⟨r, ro, none⟩ (m * s)).map fun cs => (m, cs) := by
  simp only [asource, if_neg hm]
theorem Keeps.newR {H : Hp} {b : Blk} (h : Keeps H G) : Keeps H (G.new b) := h.trans (Keeps.new _ _)
theorem Keeps.setR {H : Hp} {b : Blk} {i : Nat} (h : Keeps H G) (hi : H.next ≤ i) : Keeps H (G.set i b) := h.set hi
end
end Go.Abs
namespace Go.Abs
open Go.RowKit
/-- A sequence: behind its first part the frame is told anew, and something of the memory. -/
theorem AWP_cut {P : Program} {N n0 : Nat} {r : Option Nat} {Q : Exit → Env → Hp → Prop} {env : Env} {H : Hp} {a b : Code} {σ : Type} (E : σ → Env) (J : σ → Hp → Prop)
    (h1 : awp P N n0 r a (thenQ (fun e H' => ∃ s, J s H' ∧ Abs.Sub (E s) e) Q) env H) (h2 : ∀ s G, J s G → AWP P N n0 r b Q (E s) G) : AWP P N n0 r (.seq a b) Q env H :=
  AWP_seq ((AWP_of_awp h1).mono fun e env' H' hq => by
    cases e <;> first
      | (obtain ⟨s, hi, hw⟩ := hq; exact AWP_weak (Weak.sub hw) (h2 s H' hi))
      | exact hq)
end Go.Abs
