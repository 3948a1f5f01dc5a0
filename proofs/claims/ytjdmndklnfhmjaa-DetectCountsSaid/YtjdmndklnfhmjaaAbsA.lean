/- An abstract memory for proofs about single calls: values whose addresses name abstract blocks, how they stand to the machine's values, and how an abstract memory stands to a world. -/
import Derived.OrdersIn
import Derived.Below
import Derived.Laws.CopyRow
import Derived.Laws.Cells
set_option linter.unusedVariables false
set_option linter.unusedSimpArgs false
set_option linter.unusedSectionVars false
namespace Go.Abs
open Go.RowKit

/-- A block of the abstract memory: gone, or a row of cells. own: it was made by the call and may be written; k: an element's cells, if the row may be appended to (0: it may not). -/
inductive Blk where
  | dead
  | row (cs : List Value) (own : Bool) (k : Nat)

/-- A map whose keys are structs of whole numbers and of which nothing is struck, or an iterator over one (m: the map's block). -/
inductive MObj where
  | mp (es : List (List Int × Value))
  | it (m n : Nat) (seen : Array Nat)
def kv (k : List Int) : Value := .agg (k.map (Value.int .i64)).toArray
def entsFrom : Nat → List (List Int × Value) → List MapEntry
  | _, [] => []
  | i, e :: es => ⟨kv e.1, e.2, i⟩ :: entsFrom (i + 1) es
def MObj.obj : MObj → Obj
  | .mp es => .map (entsFrom 0 es).toArray es.length
  | .it m n seen => .mapIter (some m) n seen n
structure Hp where
  next : Nat
  get : Nat → Blk
  ob : Nat → Option MObj

/-- Where an abstract block lies: the block, the place in it, the block's cells, an element's cells (0: not said). -/
structure Ent where
  rb : Nat
  ro : Nat
  rsz : Nat
  k : Nat

abbrev Mu := Nat → Option Ent
def Mu.le (μ ν : Mu) : Prop := ∀ b e, μ b = some e → ν b = some e
theorem Mu.le_refl (μ : Mu) : μ.le μ := fun _ _ h => h
theorem Mu.le_trans {a b c : Mu} (h : a.le b) (k : b.le c) : a.le c := fun i e x => k i e (h i e x)

mutual
/-- The value v (abstract) stands for v' (of the machine). -/
def VR (μ : Mu) : Value → Value → Prop
  | .pointer (some a), v' => a.spot = none ∧ ∃ e, μ a.block = some e ∧ v' = .pointer (some ⟨e.rb, e.ro + a.off, none⟩)
  | .slice (some a) n _, v' => a.spot = none ∧ ∃ e, μ a.block = some e ∧ ((∃ c, n ≤ c ∧ (e.k ≠ 0 → e.ro + a.off + c * e.k ≤ e.rsz) ∧ v' = .slice (some ⟨e.rb, e.ro + a.off, none⟩) n c) ∨
      (n = 0 ∧ ∃ a', v' = .slice (some a') 0 0))
  | .slice none n _, v' => n = 0 ∧ v' = .slice none 0 0
  | .func fn f c, v' => ∃ f' c', v' = .func fn f' c' ∧ VRa μ f f' ∧ VRa μ c c'
  | .agg cs, v' => ∃ cs', v' = .agg cs' ∧ VRa μ cs cs'
  | .tuple cs, v' => ∃ cs', v' = .tuple cs' ∧ VRa μ cs cs'
  | .iface t v, v' => ∃ u, v' = .iface t u ∧ VR μ v u
  | .chan (some r), v' => v' = .pointer (some ⟨r, 0, none⟩)
  | v, v' => v' = v
def VRa (μ : Mu) : Array Value → Array Value → Prop
  | ⟨l⟩, l' => VRs μ l l'.toList
def VRs (μ : Mu) : List Value → List Value → Prop
  | [], l' => l' = []
  | v :: l, l' => ∃ u r, l' = u :: r ∧ VR μ v u ∧ VRs μ l r
end

mutual
theorem VR.mono {μ ν : Mu} (h : μ.le ν) : ∀ {v v' : Value}, VR μ v v' → VR ν v v'
  | .pointer (some a), v', hv => by
    simp only [VR] at hv ⊢
    obtain ⟨h0, e, he, hr⟩ := hv
    exact ⟨h0, e, h _ _ he, hr⟩
  | .slice (some a) n _, v', hv => by
    simp only [VR] at hv ⊢
    obtain ⟨h0, e, he, hr⟩ := hv
    exact ⟨h0, e, h _ _ he, hr⟩
  | .slice none n _, v', hv => by simpa only [VR] using hv
  | .func fn f c, v', hv => by
    simp only [VR] at hv ⊢
    obtain ⟨f', c', e, h1, h2⟩ := hv
    exact ⟨f', c', e, VRa.mono h h1, VRa.mono h h2⟩
  | .agg cs, v', hv => by
    simp only [VR] at hv ⊢
    obtain ⟨c', e, h1⟩ := hv
    exact ⟨c', e, VRa.mono h h1⟩
  | .tuple cs, v', hv => by
    simp only [VR] at hv ⊢
    obtain ⟨c', e, h1⟩ := hv
    exact ⟨c', e, VRa.mono h h1⟩
  | .iface t v, v', hv => by
    simp only [VR] at hv ⊢
    obtain ⟨c', e, h1⟩ := hv
    exact ⟨c', e, VR.mono h h1⟩
  | .map _, _, hv => by simpa only [VR] using hv
  | .chan (some _), _, hv => by simpa only [VR] using hv
  | .chan none, _, hv => by simpa only [VR] using hv
  | .pointer none, _, hv => by simpa only [VR] using hv
  | .bool _, _, hv => by simpa only [VR] using hv
  | .int _ _, _, hv => by simpa only [VR] using hv
  | .float _ _, _, hv => by simpa only [VR] using hv
  | .complex _ _ _, _, hv => by simpa only [VR] using hv
  | .string _, _, hv => by simpa only [VR] using hv
  | .nilFunc, _, hv => by simpa only [VR] using hv
  | .nilIface, _, hv => by simpa only [VR] using hv
theorem VRa.mono {μ ν : Mu} (h : μ.le ν) : ∀ {v v' : Array Value}, VRa μ v v' → VRa ν v v'
  | ⟨l⟩, l', hv => by
    simp only [VRa] at hv ⊢
    exact VRs.mono h hv
theorem VRs.mono {μ ν : Mu} (h : μ.le ν) : ∀ {v v' : List Value}, VRs μ v v' → VRs ν v v'
  | [], _, hv => by simpa only [VRs] using hv
  | v :: l, l', hv => by
    simp only [VRs] at hv ⊢
    obtain ⟨u, r, e, h1, h2⟩ := hv
    exact ⟨u, r, e, VR.mono h h1, VRs.mono h h2⟩
end

mutual
/-- No address stands in it. -/
def flat : Value → Bool
  | .pointer (some _) => false
  | .slice (some _) _ _ => false
  | .slice none n c => n == 0 && c == 0
  | .func _ f c => flatA f && flatA c
  | .agg cs => flatA cs
  | .tuple cs => flatA cs
  | .iface _ v => flat v
  | .chan (some _) => false
  | _ => true
def flatA : Array Value → Bool
  | ⟨l⟩ => flatL l
def flatL : List Value → Bool
  | [] => true
  | v :: l => flat v && flatL l
end

mutual
theorem VR_flat {μ : Mu} : ∀ {v v' : Value}, flat v = true → (VR μ v v' ↔ v' = v)
  | .pointer (some a), v', hf => by simp [flat] at hf
  | .slice (some a) n _, v', hf => by simp [flat] at hf
  | .slice none n c, v', hf => by
    simp only [flat, Bool.and_eq_true, beq_iff_eq] at hf
    obtain ⟨rfl, rfl⟩ := hf
    simp [VR]
  | .func fn f c, v', hf => by
    simp only [flat, Bool.and_eq_true] at hf
    simp only [VR]
    constructor
    · rintro ⟨f', c', rfl, h1, h2⟩
      rw [(VRa_flat hf.1).1 h1, (VRa_flat hf.2).1 h2]
    · rintro rfl
      exact ⟨f, c, rfl, (VRa_flat hf.1).2 rfl, (VRa_flat hf.2).2 rfl⟩
  | .agg cs, v', hf => by
    simp only [flat] at hf
    simp only [VR]
    constructor
    · rintro ⟨c', rfl, h1⟩
      rw [(VRa_flat hf).1 h1]
    · rintro rfl
      exact ⟨cs, rfl, (VRa_flat hf).2 rfl⟩
  | .tuple cs, v', hf => by
    simp only [flat] at hf
    simp only [VR]
    constructor
    · rintro ⟨c', rfl, h1⟩
      rw [(VRa_flat hf).1 h1]
    · rintro rfl
      exact ⟨cs, rfl, (VRa_flat hf).2 rfl⟩
  | .iface t v, v', hf => by
    simp only [flat] at hf
    simp only [VR]
    constructor
    · rintro ⟨c', rfl, h1⟩
      rw [(VR_flat hf).1 h1]
    · rintro rfl
      exact ⟨v, rfl, (VR_flat hf).2 rfl⟩
  | .chan (some _), _, hf => by simp [flat] at hf
  | .map _, _, _ => by simp only [VR]
  | .chan none, _, _ => by simp only [VR]
  | .pointer none, _, _ => by simp only [VR]
  | .bool _, _, _ => by simp only [VR]
  | .int _ _, _, _ => by simp only [VR]
  | .float _ _, _, _ => by simp only [VR]
  | .complex _ _ _, _, _ => by simp only [VR]
  | .string _, _, _ => by simp only [VR]
  | .nilFunc, _, _ => by simp only [VR]
  | .nilIface, _, _ => by simp only [VR]
theorem VRa_flat {μ : Mu} : ∀ {v v' : Array Value}, flatA v = true → (VRa μ v v' ↔ v' = v)
  | ⟨l⟩, l', hf => by
    simp only [flatA] at hf
    simp only [VRa]
    rw [VRs_flat hf]
    constructor
    · intro h; cases l'; simp_all
    · rintro rfl; rfl
theorem VRs_flat {μ : Mu} : ∀ {v v' : List Value}, flatL v = true → (VRs μ v v' ↔ v' = v)
  | [], _, _ => by simp only [VRs]
  | v :: l, l', hf => by
    simp only [flatL, Bool.and_eq_true] at hf
    simp only [VRs]
    constructor
    · rintro ⟨u, r, rfl, h1, h2⟩
      rw [(VR_flat hf.1).1 h1, (VRs_flat hf.2).1 h2]
    · rintro rfl
      exact ⟨v, l, rfl, (VR_flat hf.1).2 rfl, (VRs_flat hf.2).2 rfl⟩
end
theorem VR_self {μ : Mu} {v : Value} (h : flat v = true) : VR μ v v := (VR_flat h).2 rfl
theorem VR_eq {μ : Mu} {v v' : Value} (h : flat v = true) (hv : VR μ v v') : v' = v := (VR_flat h).1 hv

/-! ### lists of values -/
theorem VRs.length {μ : Mu} : ∀ {l l' : List Value}, VRs μ l l' → l'.length = l.length
  | [], l', h => by simp only [VRs] at h; subst h; rfl
  | v :: l, l', h => by
    simp only [VRs] at h
    obtain ⟨u, r, rfl, _, h2⟩ := h
    simp [VRs.length h2]
theorem VRs.get {μ : Mu} : ∀ {l l' : List Value}, VRs μ l l' → ∀ (i : Nat) (v : Value), l[i]? = some v → ∃ u, l'[i]? = some u ∧ VR μ v u
  | [], l', _, i, v, hi => by simp at hi
  | x :: l, l', h, i, v, hi => by
    simp only [VRs] at h
    obtain ⟨u, r, rfl, h1, h2⟩ := h
    cases i with
    | zero => simp at hi; subst hi; exact ⟨u, by simp, h1⟩
    | succ i => simpa using h2.get i v (by simpa using hi)
theorem VRs.of_get {μ : Mu} : ∀ {l l' : List Value}, l'.length = l.length → (∀ (i : Nat) (v u : Value), l[i]? = some v → l'[i]? = some u → VR μ v u) → VRs μ l l'
  | [], l', h, _ => by simp only [VRs]; exact List.length_eq_zero_iff.1 (by simpa using h)
  | x :: l, l', h, hg => by
    cases l' with
    | nil => simp at h
    | cons u r =>
      simp only [VRs]
      exact ⟨u, r, rfl, hg 0 x u rfl rfl, VRs.of_get (by simpa using h) (fun i v u hv hu => hg (i + 1) v u (by simpa using hv) (by simpa using hu))⟩
theorem VRs.append {μ : Mu} : ∀ {a a' b b' : List Value}, VRs μ a a' → VRs μ b b' → VRs μ (a ++ b) (a' ++ b')
  | [], a', b, b', h, k => by simp only [VRs] at h; subst h; simpa using k
  | x :: a, a', b, b', h, k => by
    simp only [VRs] at h
    obtain ⟨u, r, rfl, h1, h2⟩ := h
    simp only [List.cons_append, VRs]
    exact ⟨u, r ++ b', rfl, h1, h2.append k⟩
theorem VRs.take {μ : Mu} : ∀ {a a' : List Value} (n : Nat), VRs μ a a' → VRs μ (a.take n) (a'.take n)
  | [], a', n, h => by simp only [VRs] at h; subst h; simp [VRs]
  | x :: a, a', 0, h => by simp [VRs]
  | x :: a, a', n + 1, h => by
    simp only [VRs] at h
    obtain ⟨u, r, rfl, h1, h2⟩ := h
    simp only [List.take_succ_cons, VRs]
    exact ⟨u, _, rfl, h1, h2.take n⟩
theorem VRs.drop {μ : Mu} : ∀ {a a' : List Value} (n : Nat), VRs μ a a' → VRs μ (a.drop n) (a'.drop n)
  | [], a', n, h => by simp only [VRs] at h; subst h; simp [VRs]
  | x :: a, a', 0, h => by simpa using h
  | x :: a, a', n + 1, h => by
    simp only [VRs] at h
    obtain ⟨u, r, rfl, h1, h2⟩ := h
    simpa using h2.drop n
theorem VRa_iff {μ : Mu} {a a' : Array Value} : VRa μ a a' ↔ VRs μ a.toList a'.toList := by cases a; simp [VRa]

/-- One cell's value. -/
def one : Value → Bool
  | .agg _ => false
  | .tuple _ => false
  | _ => true
theorem VR.one {μ : Mu} {v v' : Value} (h : VR μ v v') (h1 : one v = true) : v'.oneCell' = true := by
  cases v <;> first
    | (simp [Abs.one] at h1; done)
    | skip
  case pointer a =>
    cases a <;> simp only [VR] at h
    · subst h; rfl
    · obtain ⟨_, e, _, rfl⟩ := h; rfl
  case slice a n c =>
    cases a <;> simp only [VR] at h
    · obtain ⟨_, rfl⟩ := h; rfl
    · obtain ⟨_, e, _, ⟨c, _, _, rfl⟩ | ⟨_, a', rfl⟩⟩ := h <;> rfl
  case func => simp only [VR] at h; obtain ⟨_, _, rfl, _⟩ := h; rfl
  case iface => simp only [VR] at h; obtain ⟨_, rfl, _⟩ := h; rfl
  case map a => simp only [VR] at h; subst h; rfl
  case chan a => cases a <;> simp only [VR] at h <;> subst h <;> rfl
  all_goals (simp only [VR] at h; subst h; rfl)
theorem VR.cells {μ : Mu} {v v' : Value} (h : VR μ v v') : VRs μ v.cells.toList v'.cells.toList := by
  by_cases ha : ∃ cs, v = .agg cs
  · obtain ⟨cs, rfl⟩ := ha
    simp only [VR] at h
    obtain ⟨cs', rfl, h⟩ := h
    exact VRa_iff.1 h
  · have e : v.cells = #[v] := by
      cases v <;> first | rfl | (exact absurd ⟨_, rfl⟩ ha)
    have e' : v'.cells = #[v'] := by
      cases v <;> first
        | (exact absurd ⟨_, rfl⟩ ha)
        | skip
      case pointer a =>
        cases a <;> simp only [VR] at h
        · subst h; rfl
        · obtain ⟨_, e, _, rfl⟩ := h; rfl
      case slice a n c =>
        cases a <;> simp only [VR] at h
        · obtain ⟨_, rfl⟩ := h; rfl
        · obtain ⟨_, e, _, ⟨c, _, _, rfl⟩ | ⟨_, a', rfl⟩⟩ := h <;> rfl
      case func => simp only [VR] at h; obtain ⟨_, _, rfl, _⟩ := h; rfl
      case iface => simp only [VR] at h; obtain ⟨_, rfl, _⟩ := h; rfl
      case tuple => simp only [VR] at h; obtain ⟨_, rfl, _⟩ := h; rfl
      case map a => simp only [VR] at h; subst h; rfl
      case chan a => cases a <;> simp only [VR] at h <;> subst h <;> rfl
      all_goals (simp only [VR] at h; subst h; rfl)
    rw [e, e']
    simp only [VRs]
    exact ⟨v', [], rfl, h, rfl⟩
theorem VR.cells_size {μ : Mu} {v v' : Value} (h : VR μ v v') : v'.cells.size = v.cells.size := by
  have := h.cells.length
  simpa using this

/-! ### the abstract memory's own steps -/
def Hp.new (H : Hp) (b : Blk) : Hp := ⟨H.next + 1, fun i => if i = H.next then b else H.get i, H.ob⟩
def Hp.set (H : Hp) (i : Nat) (b : Blk) : Hp := ⟨H.next, fun j => if j = i then b else H.get j, H.ob⟩
def Hp.setOb (H : Hp) (r : Nat) (o : MObj) : Hp := ⟨H.next, H.get, fun j => if j = r then some o else H.ob j⟩
theorem Hp.ob_new (H : Hp) (b : Blk) : (H.new b).ob = H.ob := rfl
theorem Hp.ob_set (H : Hp) (i : Nat) (b : Blk) : (H.set i b).ob = H.ob := rfl
theorem Hp.get_setOb (H : Hp) (r : Nat) (o : MObj) : (H.setOb r o).get = H.get := rfl
theorem Hp.next_setOb (H : Hp) (r : Nat) (o : MObj) : (H.setOb r o).next = H.next := rfl
theorem Hp.ob_setOb_same (H : Hp) (r : Nat) (o : MObj) : (H.setOb r o).ob r = some o := by simp [Hp.setOb]
theorem Hp.ob_setOb_ne (H : Hp) (r i : Nat) (o : MObj) (h : i ≠ r) : (H.setOb r o).ob i = H.ob i := by simp [Hp.setOb, h]
def MObj.plain : MObj → Prop
  | .mp es => (∀ e, e ∈ es → flat e.2 = true) ∧ (es.map (·.1)).Nodup
  | .it _ _ _ => True
theorem Hp.next_new (H : Hp) (b : Blk) : (H.new b).next = H.next + 1 := rfl
theorem Hp.next_set (H : Hp) (i : Nat) (b : Blk) : (H.set i b).next = H.next := rfl
theorem Hp.get_new_same (H : Hp) (b : Blk) (i : Nat) (h : i = H.next) : (H.new b).get i = b := by simp [Hp.new, h]
theorem Hp.get_new_ne (H : Hp) (b : Blk) (i : Nat) (h : i ≠ H.next) : (H.new b).get i = H.get i := by simp [Hp.new, h]
theorem Hp.get_set_same (H : Hp) (b : Blk) (i j : Nat) (h : i = j) : (H.set j b).get i = b := by simp [Hp.set, h]
theorem Hp.get_set_ne (H : Hp) (b : Blk) (i j : Nat) (h : i ≠ j) : (H.set j b).get i = H.get i := by simp [Hp.set, h]

/-- The abstract memory H stands for the world w: its blocks lie where μ says; what it owns lies from base on, apart. -/
structure Sim (base : Nat) (μ : Mu) (H : Hp) (w : World) : Prop where
  hb : base ≤ w.heap.size
  dom : ∀ b e, μ b = some e → b < H.next
  row : ∀ b cs own k, H.get b = .row cs own k → ∃ e arr T fz, μ b = some e ∧ w.heap[e.rb]? = some (.cells arr T fz) ∧ cs.all one = true ∧ e.ro + cs.length ≤ arr.size ∧
    VRs μ cs ((arr.toList.drop e.ro).take cs.length) ∧
    (own = true → base ≤ e.rb ∧ fz = (0, 0) ∧ e.rsz ≤ arr.size ∧ e.k = k) ∧ (own = false → e.rb < base ∧ e.k = 0)
  inj : ∀ b b' cs cs' k k' e e', b ≠ b' → H.get b = .row cs true k → H.get b' = .row cs' true k' → μ b = some e → μ b' = some e' → e.rb ≠ e'.rb
  ob : ∀ r o, H.ob r = some o → base ≤ r ∧ w.heap[r]? = some o.obj ∧ o.plain

theorem MObj.not_cells {o : MObj} {c : Array Value} {T : TypeId} {f : Nat × Nat} (h : o.obj = .cells c T f) : False := by cases o <;> cases h
theorem Sim.heap {base : Nat} {μ : Mu} {H : Hp} {w w' : World} (h : Sim base μ H w) (e : w'.heap = w.heap) : Sim base μ H w' :=
  ⟨by rw [e]; exact h.hb, h.dom, fun b cs own k hg => by rw [e]; exact h.row b cs own k hg, h.inj, by rw [e]; exact h.ob⟩

/-- A loop's record, or the block of its rounds' deferred calls. -/
def held : Obj → Bool
  | .loop _ => true
  | .deferred _ => true
  | _ => false
/-- What a call may have done to what lay there before it: nothing below base, nothing to loops' records. -/
structure Ext (base : Nat) (w w' : World) : Prop where
  below : Below base w w'
  keep : ∀ (k : Nat) (o : Obj), w.heap[k]? = some o → held o = true → w'.heap[k]? = some o
  drawn : w.drawn ≤ w'.drawn
theorem Ext.refl (base : Nat) (w : World) : Ext base w w := ⟨Below.refl _ _, fun _ _ h _ => h, Nat.le_refl _⟩
theorem Ext.trans {base : Nat} {a b c : World} (h : Ext base a b) (k : Ext base b c) : Ext base a c := ⟨h.below.trans k.below, fun i o hi ho => k.keep i o (h.keep i o hi ho) ho, Nat.le_trans h.drawn k.drawn⟩
theorem Ext.drew (base : Nat) (w : World) : Ext base w w.drew := ⟨(Below.refl _ _).drew, fun _ _ h _ => h, Nat.le_succ _⟩

def aload (H : Hp) (a : Addr) (n : Nat) : Option (List Value) :=
  match H.get a.block with
  | .row cs _ _ => if a.off + n ≤ cs.length then some ((cs.drop a.off).take n) else none
  | .dead => none

theorem Sim.load {P : Program} {base : Nat} {μ : Mu} {H : Hp} {w : World} (h : Sim base μ H w) {a : Addr} {n : Nat} {cs : List Value} (hl : aload H a n = some cs) {e : Ent} (he : μ a.block = some e) :
    ∃ cs', (loadCells ⟨e.rb, e.ro + a.off, none⟩ n).run P w = .ok cs'.toArray w ∧ VRs μ cs cs' := by
  unfold aload at hl
  split at hl
  · rename_i cs0 own k hg
    split at hl
    · rename_i hle
      injection hl with hl
      subst hl
      obtain ⟨e', arr, T, fz, he', hr, _, _, hv, _⟩ := h.row _ _ _ _ hg
      obtain rfl : e' = e := Option.some.inj (he'.symm.trans he)
      have hlen := hv.length
      refine ⟨(((arr.toList.drop e'.ro).take cs0.length).drop a.off).take n, ?_, (hv.drop a.off).take n⟩
      have hn : ((((arr.toList.drop e'.ro).take cs0.length).drop a.off).take n).length = n := by
        rw [List.length_take, List.length_drop, hlen]; omega
      have := run_loadCells_list (P := P) w ⟨e'.rb, e'.ro + a.off, none⟩ ((((arr.toList.drop e'.ro).take cs0.length).drop a.off).take n) (fun j v hj => by
        have hjn : j < n := by
          have := (List.getElem?_eq_some_iff.1 hj).1
          omega
        have hadd : (⟨e'.rb, e'.ro + a.off, none⟩ : Addr).add j = ⟨e'.rb, e'.ro + a.off + j, none⟩ := by unfold Addr.add; split <;> simp_all
        rw [hadd]
        simp only [World.cell?, hr, Option.isSome_none, Bool.false_eq_true, if_false]
        rw [List.getElem?_take, if_pos hjn, List.getElem?_drop, List.getElem?_take, if_pos (by omega), List.getElem?_drop] at hj
        rw [← Array.getElem?_toList, ← hj]
        congr 1
        omega)
      rwa [hn] at this
    · cases hl
  · cases hl

def splice (cs : List Value) (o : Nat) (vs : List Value) : List Value := cs.take o ++ vs ++ cs.drop (o + vs.length)
theorem splice_length {cs vs : List Value} {o : Nat} (h : o + vs.length ≤ cs.length) : (splice cs o vs).length = cs.length := by
  simp only [splice, List.length_append, List.length_take, List.length_drop]; omega

def astore (H : Hp) (a : Addr) (vs : List Value) : Option Hp :=
  match H.get a.block with
  | .row cs true k => if a.off + vs.length ≤ cs.length ∧ vs.all one = true then some (H.set a.block (.row (splice cs a.off vs) true k)) else none
  | _ => none

theorem VRs.splice {μ : Mu} {cs cs' vs vs' : List Value} {o : Nat} (h : VRs μ cs cs') (k : VRs μ vs vs') : VRs μ (splice cs o vs) (Abs.splice cs' o vs') := by
  unfold Abs.splice
  rw [k.length]
  exact ((h.take o).append k).append (h.drop _)

theorem heap_setRow_same (w : World) (g : Nat) (c c' : Array Value) (t : TypeId) (f : Nat × Nat) (h : w.heap[g]? = some (.cells c t f)) : (w.setRow g c').heap[g]? = some (.cells c' t f) := setRow_heap w g c c' t f h
theorem heap_setRow_ne (w : World) (g k : Nat) (c' : Array Value) (h : k ≠ g) : (w.setRow g c').heap[k]? = w.heap[k]? := by
  simp only [World.setRow, Array.getElem?_modify]
  rw [if_neg (by omega)]
theorem below_setRow {B : Nat} (w : World) (g : Nat) (c' : Array Value) (h : B ≤ g) : Below B w (w.setRow g c') :=
  ⟨rfl, rfl, rfl, by simp [World.setRow], fun k hk => heap_setRow_ne w g k c' (by omega)⟩

theorem ext_setRow {B : Nat} (w : World) (g : Nat) (c' : Array Value) (h : B ≤ g) {arr : Array Value} {T : TypeId} {f : Nat × Nat} (hr : w.heap[g]? = some (.cells arr T f)) : Ext B w (w.setRow g c') :=
  ⟨below_setRow w g c' h, fun k o hk ho => by
    by_cases hkg : k = g
    · subst hkg; rw [hr] at hk; injection hk with hk; subst hk; cases ho
    · rw [heap_setRow_ne _ _ _ _ hkg]; exact hk, Nat.le_refl _⟩

/-- What is no row stands as it was when a row is written. -/
theorem Sim.ob_row {base : Nat} {μ : Mu} {H : Hp} {w : World} (h : Sim base μ H w) {rb : Nat} {arr : Array Value} {T : TypeId} {fz : Nat × Nat} (hr : w.heap[rb]? = some (.cells arr T fz)) (arr2 : Array Value) :
    ∀ r o, H.ob r = some o → base ≤ r ∧ (w.setRow rb arr2).heap[r]? = some o.obj ∧ o.plain := fun r o ho => by
  obtain ⟨h1, h2, h3⟩ := h.ob r o ho
  have hne : r ≠ rb := fun e => by subst e; rw [hr] at h2; exact MObj.not_cells (Option.some.inj h2).symm
  exact ⟨h1, by rw [heap_setRow_ne _ _ _ _ hne]; exact h2, h3⟩
/-- One own block's real cells are turned into others that stand for what the abstract block then holds. -/
theorem Sim.rewrite {base : Nat} {μ : Mu} {H : Hp} {w : World} (h : Sim base μ H w) {b : Nat} {cs : List Value} {k : Nat} (hg : H.get b = .row cs true k) {e : Ent} {arr : Array Value} {T : TypeId}
    (he : μ b = some e) (hr : w.heap[e.rb]? = some (.cells arr T (0, 0))) {cs2 : List Value} {arr2 : Array Value} (h1 : cs2.all one = true) (h2 : e.ro + cs2.length ≤ arr2.size) (hv : VRs μ cs2 ((arr2.toList.drop e.ro).take cs2.length)) (hs : arr.size ≤ arr2.size) :
    Sim base μ (H.set b (.row cs2 true k)) (w.setRow e.rb arr2) := by
  refine ⟨by simpa [World.setRow] using h.hb, h.dom, fun b' cs' own' k' hg' => ?_, fun b1 b2 c1 c2 k1 k2 e1 e2 hne g1 g2 m1 m2 => ?_, h.ob_row hr _⟩
  · by_cases hb : b' = b
    · subst hb
      rw [Hp.get_set_same _ _ _ _ rfl] at hg'
      injection hg' with e1 e2 e3
      subst e1; subst e2; subst e3
      obtain ⟨e', arr', T', fz, he', hr', _, _, _, ho, _⟩ := h.row _ _ _ _ hg
      obtain rfl : e' = e := Option.some.inj (he'.symm.trans he)
      rw [hr] at hr'
      injection hr' with hr'
      injection hr' with q1 q2 q3
      subst q1; subst q2
      obtain ⟨o1, o2, o3, o4⟩ := ho rfl
      exact ⟨e', arr2, T, (0, 0), he, heap_setRow_same w e'.rb arr arr2 T (0, 0) hr, h1, h2, hv, fun _ => ⟨o1, rfl, by omega, o4⟩, fun hf => by cases hf⟩
    · rw [Hp.get_set_ne _ _ _ _ hb] at hg'
      obtain ⟨e', arr', T', fz, he', hr', h1', h2', hv', ho, hro⟩ := h.row _ _ _ _ hg'
      have hbase : base ≤ e.rb := by
        obtain ⟨e3, _, _, _, he3, _, _, _, _, ho3, _⟩ := h.row _ _ _ _ hg
        obtain rfl : e3 = e := Option.some.inj (he3.symm.trans he)
        exact (ho3 rfl).1
      have hne : e'.rb ≠ e.rb := by
        cases own' with
        | true => exact h.inj _ _ _ _ _ _ _ _ hb hg' hg he' he
        | false => have := (hro rfl).1; omega
      exact ⟨e', arr', T', fz, he', by rw [heap_setRow_ne _ _ _ _ hne]; exact hr', h1', h2', hv', ho, hro⟩
  · by_cases hb1 : b1 = b
    · subst hb1
      rw [Hp.get_set_ne _ _ _ _ (Ne.symm hne)] at g2
      exact h.inj _ _ _ _ _ _ _ _ hne hg g2 m1 m2
    · rw [Hp.get_set_ne _ _ _ _ hb1] at g1
      by_cases hb2 : b2 = b
      · subst hb2
        exact h.inj _ _ _ _ _ _ _ _ hne g1 hg m1 m2
      · rw [Hp.get_set_ne _ _ _ _ hb2] at g2
        exact h.inj _ _ _ _ _ _ _ _ hne g1 g2 m1 m2

theorem drop_take_splice {l vs : List Value} {r o n : Nat} (hn : o + vs.length ≤ n) (hl : r + n ≤ l.length) :
    ((l.take (r + o) ++ vs ++ l.drop (r + o + vs.length)).drop r).take n = splice ((l.drop r).take n) o vs := by
  apply List.ext_getElem?
  intro i
  simp only [splice, List.getElem?_take, List.getElem?_drop, List.getElem?_append, List.length_take, List.length_append, List.length_drop]
  by_cases hi : i < n
  · rw [if_pos hi]
    by_cases h1 : i < o
    · rw [if_pos (show r + i < min (r + o) l.length + vs.length by omega), if_pos (show r + i < min (r + o) l.length by omega), if_pos (show r + i < r + o by omega),
        if_pos (show i < min o (min n (l.length - r)) + vs.length by omega), if_pos (show i < min o (min n (l.length - r)) by omega), if_pos h1, if_pos hi]
    · by_cases h2 : i < o + vs.length
      · rw [if_pos (show r + i < min (r + o) l.length + vs.length by omega), if_neg (show ¬ r + i < min (r + o) l.length by omega),
          if_pos (show i < min o (min n (l.length - r)) + vs.length by omega), if_neg (show ¬ i < min o (min n (l.length - r)) by omega)]
        congr 1
        omega
      · rw [if_neg (show ¬ r + i < min (r + o) l.length + vs.length by omega), if_neg (show ¬ i < min o (min n (l.length - r)) + vs.length by omega)]
        rw [if_pos (show o + vs.length + (i - (min o (min n (l.length - r)) + vs.length)) < n by omega)]
        congr 1
        omega
  · rw [if_neg hi, if_neg (show ¬ i < min o (min n (l.length - r)) + vs.length by omega), if_neg (show ¬ o + vs.length + (i - (min o (min n (l.length - r)) + vs.length)) < n by omega)]

theorem Sim.store {P : Program} {base : Nat} {μ : Mu} {H H' : Hp} {w : World} (h : Sim base μ H w) {a : Addr} {vs vs' : List Value} (hst : astore H a vs = some H') {e : Ent} (he : μ a.block = some e) (hv : VRs μ vs vs') :
    ∃ w', (storeCells ⟨e.rb, e.ro + a.off, none⟩ vs').run P w = .ok () w' ∧ Sim base μ H' w' ∧ Ext base w w' := by
  unfold astore at hst
  split at hst
  · rename_i cs k hg
    split at hst
    · rename_i hc
      obtain ⟨hle, h1⟩ := hc
      injection hst with hst
      subst hst
      obtain ⟨e', arr, T, fz, he', hr, h1', h2', hvr, ho, _⟩ := h.row _ _ _ _ hg
      obtain rfl : e' = e := Option.some.inj (he'.symm.trans he)
      obtain ⟨o1, rfl, o3, o4⟩ := ho rfl
      have hvl := hv.length
      have hrun := run_storeCells_at (P := P) e'.rb (e'.ro + a.off) T vs' 0 arr w hr (by omega) (fun v hv' => by
        obtain ⟨i, hi⟩ := List.getElem?_of_mem hv'
        have hil : i < vs.length := by have := (List.getElem?_eq_some_iff.1 hi).1; omega
        obtain ⟨u, hu, hr'⟩ := hv.get i vs[i] (List.getElem?_eq_getElem hil)
        obtain rfl : u = v := Option.some.inj (hu.symm.trans hi)
        exact hr'.one (List.all_eq_true.1 h1 _ (List.getElem_mem hil)))
      refine ⟨_, hrun, h.rewrite hg he hr ?_ ?_ ?_ ?_, ext_setRow _ _ _ o1 hr⟩
      · simp only [splice, List.all_append, Bool.and_eq_true]
        refine ⟨⟨?_, h1⟩, ?_⟩
        · exact List.all_eq_true.2 fun x hx => List.all_eq_true.1 h1' x (List.mem_of_mem_take hx)
        · exact List.all_eq_true.2 fun x hx => List.all_eq_true.1 h1' x (List.mem_of_mem_drop hx)
      · rw [splice_length hle]
        simp only [List.size_toArray, List.length_append, List.length_take, List.length_drop, Array.length_toList]
        omega
      · rw [splice_length hle]
        simp only [Nat.add_zero]
        rw [drop_take_splice (by omega) (by simpa using h2')]
        exact hvr.splice hv
      · simp only [List.size_toArray, List.length_append, List.length_take, List.length_drop, Array.length_toList]
        omega
    · cases hst
  · cases hst

def Mu.put (μ : Mu) (b : Nat) (e : Ent) : Mu := fun i => if i = b then some e else μ i
theorem Sim.fresh {base : Nat} {μ : Mu} {H : Hp} {w : World} (h : Sim base μ H w) : μ H.next = none := by
  cases he : μ H.next with
  | none => rfl
  | some e => exact absurd (h.dom _ _ he) (Nat.lt_irrefl _)
theorem Sim.live {base : Nat} {μ : Mu} {H : Hp} {w : World} (h : Sim base μ H w) {b : Nat} {cs : List Value} {own : Bool} {k : Nat} (hg : H.get b = .row cs own k) : b < H.next := by
  obtain ⟨e, _, _, _, he, _⟩ := h.row _ _ _ _ hg
  exact h.dom _ _ he
theorem Mu.le_put {μ : Mu} {b : Nat} {e : Ent} (h : μ b = none) : μ.le (μ.put b e) := by
  intro i e' hi
  simp only [Mu.put]
  split
  · rename_i hib; subst hib; rw [h] at hi; cases hi
  · exact hi

/-- A new row. -/
theorem Sim.new {base : Nat} {μ : Mu} {H : Hp} {w : World} (h : Sim base μ H w) {cs cs' : List Value} (k : Nat) (T : TypeId) (arr : Array Value) (ha : ∃ r, arr.toList = cs' ++ r) (hv : VRs μ cs cs') (h1 : cs.all one = true) :
    Sim base (μ.put H.next ⟨w.heap.size, 0, arr.size, k⟩) (H.new (.row cs true k)) (w.alloc (.cells arr T)) := by
  have hle := Mu.le_put (e := ⟨w.heap.size, 0, arr.size, k⟩) h.fresh
  have hb := h.hb
  have old : ∀ {b cs own k} (hg : H.get b = .row cs own k), ∃ e arr T fz, μ b = some e ∧ w.heap[e.rb]? = some (.cells arr T fz) ∧ e.rb < w.heap.size := fun {b cs own k} hg => by
    obtain ⟨e, arr, T, fz, he, hr, _⟩ := h.row _ _ _ _ hg
    exact ⟨e, arr, T, fz, he, hr, (Array.getElem?_eq_some_iff.1 hr).1⟩
  refine ⟨by simp; omega, fun b e he => ?_, fun b cs2 own k2 hg => ?_, fun b1 b2 c1 c2 k1 k2 e1 e2 hne g1 g2 m1 m2 => ?_, fun r o ho => by
    obtain ⟨q1, q2, q3⟩ := h.ob r o ho
    exact ⟨q1, by rw [Below.heap_alloc _ _ _ (Array.getElem?_eq_some_iff.1 q2).1]; exact q2, q3⟩⟩
  · simp only [Mu.put] at he
    rw [Hp.next_new]
    split at he
    · omega
    · have := h.dom _ _ he; omega
  · by_cases hbn : b = H.next
    · subst hbn
      rw [Hp.get_new_same _ _ _ rfl] at hg
      injection hg with q1 q2 q3
      subst q1; subst q2; subst q3
      obtain ⟨r, hr⟩ := ha
      have hl := hv.length
      have hsz : arr.size = cs'.length + r.length := by rw [← Array.length_toList, hr, List.length_append]
      refine ⟨⟨w.heap.size, 0, arr.size, k⟩, arr, T, (0, 0), by simp [Mu.put], by show (w.heap.push _)[w.heap.size]? = _; simp, h1, by show 0 + cs.length ≤ arr.size; omega, ?_, fun _ => ⟨hb, rfl, Nat.le_refl _, rfl⟩, fun hf => by cases hf⟩
      rw [List.drop_zero, hr, List.take_append_of_le_length (by omega), List.take_of_length_le (by omega)]
      exact hv.mono hle
    · rw [Hp.get_new_ne _ _ _ hbn] at hg
      obtain ⟨e, arr', T', fz, he, hr, q1, q2, q3, q4, q5⟩ := h.row _ _ _ _ hg
      exact ⟨e, arr', T', fz, hle _ _ he, by rw [Below.heap_alloc _ _ _ (Array.getElem?_eq_some_iff.1 hr).1]; exact hr, q1, q2, q3.mono hle, q4, q5⟩
  · by_cases hb1 : b1 = H.next
    · subst hb1
      have hb2 : b2 ≠ H.next := Ne.symm hne
      rw [Hp.get_new_ne _ _ _ hb2] at g2
      simp only [Mu.put, if_true] at m1
      simp only [Mu.put, if_neg hb2] at m2
      injection m1 with m1
      obtain ⟨e, _, _, _, he, _, hlt⟩ := old g2
      rw [m2] at he
      injection he with he
      subst he; subst m1
      show w.heap.size ≠ _
      omega
    · rw [Hp.get_new_ne _ _ _ hb1] at g1
      simp only [Mu.put, if_neg hb1] at m1
      by_cases hb2 : b2 = H.next
      · subst hb2
        simp only [Mu.put, if_true] at m2
        injection m2 with m2
        obtain ⟨e, _, _, _, he, _, hlt⟩ := old g1
        rw [m1] at he
        injection he with he
        subst he; subst m2
        show _ ≠ w.heap.size
        omega
      · rw [Hp.get_new_ne _ _ _ hb2] at g2
        simp only [Mu.put, if_neg hb2] at m2
        exact h.inj _ _ _ _ _ _ _ _ hne g1 g2 m1 m2

/-- A block is forgotten. -/
theorem Sim.kill {base : Nat} {μ : Mu} {H : Hp} {w : World} (h : Sim base μ H w) (b : Nat) : Sim base μ (H.set b .dead) w := by
  have old : ∀ {i : Nat} {cs : List Value} {own : Bool} {k : Nat}, (H.set b .dead).get i = .row cs own k → H.get i = .row cs own k := fun {i cs own k} hg => by
    by_cases hi : i = b
    · rw [Hp.get_set_same _ _ _ _ hi] at hg; cases hg
    · rwa [Hp.get_set_ne _ _ _ _ hi] at hg
  exact ⟨h.hb, h.dom, fun i cs own k hg => h.row _ _ _ _ (old hg), fun b1 b2 c1 c2 k1 k2 e1 e2 hne g1 g2 m1 m2 => h.inj _ _ _ _ _ _ _ _ hne (old g1) (old g2) m1 m2, h.ob⟩

/-- A new abstract block over (the rest of) the place of an own one, which is gone then; its real row may have been written behind that block's cells. -/
theorem Sim.grow {base : Nat} {μ : Mu} {H : Hp} {w : World} (h : Sim base μ H w) {b : Nat} {cs : List Value} {k o : Nat} (hg : H.get b = .row cs true k) {e : Ent} {arr : Array Value} {T : TypeId}
    (he : μ b = some e) (hr : w.heap[e.rb]? = some (.cells arr T (0, 0))) {cs2 : List Value} {arr2 : Array Value} (h1 : cs2.all one = true) (h2 : e.ro + o + cs2.length ≤ arr2.size) (hv : VRs μ cs2 ((arr2.toList.drop (e.ro + o)).take cs2.length)) (hs : arr2.size = arr.size) :
    Sim base (μ.put H.next ⟨e.rb, e.ro + o, e.rsz, k⟩) ((H.set b .dead).new (.row cs2 true k)) (w.setRow e.rb arr2) := by
  have hk := h.kill b
  have hbn : b < H.next := h.live hg
  have hle := Mu.le_put (e := ⟨e.rb, e.ro + o, e.rsz, k⟩) h.fresh
  obtain ⟨e', arr', T', fz, he', hr', _, _, _, ho, _⟩ := h.row _ _ _ _ hg
  obtain rfl : e' = e := Option.some.inj (he'.symm.trans he)
  rw [hr] at hr'
  injection hr' with hr'
  injection hr' with q1 q2 q3
  subst q1; subst q2
  obtain ⟨o1, _, o3, o4⟩ := ho rfl
  have apart : ∀ {i : Nat} {c : List Value} {own : Bool} {k' : Nat} {e2 : Ent}, i ≠ b → H.get i = .row c own k' → μ i = some e2 → e2.rb ≠ e'.rb := fun {i c own k' e2} hi hgi hmi => by
    obtain ⟨e3, _, _, _, he3, _, _, _, _, _, hro⟩ := h.row _ _ _ _ hgi
    obtain rfl : e3 = e2 := Option.some.inj (he3.symm.trans hmi)
    cases own with
    | true => exact h.inj _ _ _ _ _ _ _ _ hi hgi hg he3 he
    | false => have := (hro rfl).1; omega
  have old : ∀ {i : Nat} {c : List Value} {own : Bool} {k' : Nat}, i ≠ H.next → ((H.set b .dead).new (.row cs2 true k)).get i = .row c own k' → i ≠ b ∧ H.get i = .row c own k' := fun {i c own k'} hi hgi => by
    rw [Hp.get_new_ne (H.set b .dead) _ i hi] at hgi
    by_cases hib : i = b
    · rw [Hp.get_set_same _ _ _ _ hib] at hgi; cases hgi
    · rw [Hp.get_set_ne _ _ _ _ hib] at hgi; exact ⟨hib, hgi⟩
  refine ⟨by simpa [World.setRow] using h.hb, fun i e2 h2' => ?_, fun i c own k' hgi => ?_, fun b1 b2 c1 c2 k1 k2 e1 e2 hne g1 g2 m1 m2 => ?_, h.ob_row hr _⟩
  · simp only [Mu.put] at h2'
    rw [Hp.next_new, Hp.next_set]
    split at h2'
    · omega
    · have := h.dom _ _ h2'; omega
  · by_cases hi : i = H.next
    · subst hi
      have hgi2 : Blk.row cs2 true k = Blk.row c own k' := (Hp.get_new_same (H.set b .dead) _ H.next rfl).symm.trans hgi
      injection hgi2 with q1 q2 q3
      subst q1; subst q2; subst q3
      exact ⟨⟨e'.rb, e'.ro + o, e'.rsz, k⟩, arr2, T, (0, 0), by simp [Mu.put], heap_setRow_same _ _ _ _ _ _ hr, h1, h2, hv.mono hle, fun _ => ⟨o1, rfl, by show e'.rsz ≤ _; omega, rfl⟩, fun hf => by cases hf⟩
    · obtain ⟨hib, hgi'⟩ := old hi hgi
      obtain ⟨e3, arr3, T3, fz3, he3, hr3, q1, q2, q3, q4, q5⟩ := h.row _ _ _ _ hgi'
      exact ⟨e3, arr3, T3, fz3, hle _ _ he3, by rw [heap_setRow_ne _ _ _ _ (apart hib hgi' he3)]; exact hr3, q1, q2, q3.mono hle, q4, q5⟩
  · by_cases hb1 : b1 = H.next
    · have hb2 : b2 ≠ H.next := fun hx => hne (hb1.trans hx.symm)
      obtain ⟨hib, g2'⟩ := old hb2 g2
      simp only [Mu.put, if_pos hb1] at m1
      simp only [Mu.put, if_neg hb2] at m2
      injection m1 with m1
      subst m1
      exact Ne.symm (apart hib g2' m2)
    · obtain ⟨hib, g1'⟩ := old hb1 g1
      simp only [Mu.put, if_neg hb1] at m1
      by_cases hb2 : b2 = H.next
      · simp only [Mu.put, if_pos hb2] at m2
        injection m2 with m2
        subst m2
        exact apart hib g1' m1
      · obtain ⟨_, g2'⟩ := old hb2 g2
        simp only [Mu.put, if_neg hb2] at m2
        exact h.inj _ _ _ _ _ _ _ _ hne g1' g2' m1 m2

end Go.Abs
