/- One operation of the abstract memory, and that the machine's operation does what it says. -/
import Derived.Test.YtjdmndklnfhmjaaAbsF
set_option linter.unusedVariables false
set_option linter.unusedSimpArgs false
set_option linter.unusedSectionVars false
namespace Go.Abs
open Go.RowKit

def aloadT (P : Program) (H : Hp) (t : TypeId) (x : Value) : Option Value :=
  match x with
  | .pointer (some a) => (tag P t).bind fun ag => if ag then (tsz P t).bind fun n => (aload H a n).map fun cs => .agg cs.toArray
    else (aload H a 1).bind fun cs => cs.head?
  | _ => none

def astoreT (P : Program) (H : Hp) (t : TypeId) (x v : Value) : Option Hp :=
  match x with
  | .pointer (some a) => (tsz P t).bind fun n => if v.cells.size = n then astore H a v.cells.toList else none
  | _ => none

def alen (P : Program) (t : TypeId) (x : Value) : Option Value :=
  match x with
  | .slice _ n _ => match P.underlying t with | some (.slice _) => some (.int .i64 n) | _ => none
  | .string s => match P.underlying t with | some .string => some (.int .i64 s.size) | _ => none
  | _ => match P.underlying t with | some (.array n _) => some (.int .i64 n) | _ => none

def amakeSlice (P : Program) (H : Hp) (t : TypeId) (l c : Value) : Option (Value × Hp) :=
  match l, c with
  | .int _ n, .int _ m =>
    match P.underlying t with
    | some (.slice e) => (tsz P e).bind fun s => (tbytes P e).bind fun b => (tzero P e).bind fun z =>
      if n = m ∧ 0 ≤ n ∧ b * n ≤ 281474976710656 ∧ n ≤ 9223372036854775807 ∧ z.cells.size = s ∧ z.cells.toList.all one = true then
        some (.slice (some ⟨H.next, 0, none⟩) n.toNat n.toNat, H.new (.row (zrow z.cells.toList n.toNat) true s)) else none
    | _ => none
  | _, _ => none

def aun (op : UnOp) (x : Value) : Option Value :=
  match op, x with
  | .neg, .int k n => some (.int k (k.wrap (0 - n)))
  | .not, .bool b => some (.bool !b)
  | _, _ => none

def aconv (P : Program) (s t : TypeId) (x : Value) : Option Value :=
  match x with
  | .int _ n => match P.underlying s, P.underlying t with | some (.int _), some (.int k) => some (.int k (k.wrap n)) | _, _ => none
  | .string b => match P.underlying s, P.underlying t with | some .string, some .string => some (.string b) | _, _ => none
  | _ => none

def amin2 : Value → Value → Option Value
  | .int k x, .int _ y => some (.int k (if y < x then y else x))
  | _, _ => none
def amax2 : Value → Value → Option Value
  | .int k x, .int _ y => some (.int k (if y > x then y else x))
  | _, _ => none
def afold (f : Value → Value → Option Value) : Value → List Value → Option Value
  | x, [] => some x
  | x, y :: r => (f x y).bind fun z => afold f z r
def aminmax (f : Value → Value → Option Value) : List Value → Option Value
  | x :: r => if flatL (x :: r) = true then afold f x r else none
  | [] => none

section
variable {P : Program} {μ : Mu} {w : World}

theorem loadCells_one {a : Addr} {v : Value} (h : (loadCells a 1).run P w = .ok #[v] w) : (load a).run P w = .ok v w := by
  simp only [loadCells, loadCellsFrom, Sem.run_bind] at h
  have e : a.add 0 = a := by simp [Addr.add]
  rw [e] at h
  cases hl : (load a).run P w with
  | ok u w' =>
    rw [hl] at h
    simp only [Result.andThen_ok, Sem.run_pure] at h
    injection h with h1 h2
    subst h2
    have : u = v := by simpa using h1
    rw [this]
  | halt x w' => rw [hl] at h; simp at h

theorem aloadT_sound {base : Nat} {H : Hp} (h : Sim base μ H w) {t : TypeId} {x x' v : Value} (hl : aloadT P H t x = some v) (hx : VR μ x x') : ∃ v', (Instr.loadAt t x').run P w = .ok v' w ∧ VR μ v v' := by
  unfold aloadT at hl
  split at hl
  · rename_i a
    simp only [VR] at hx
    obtain ⟨hsp, e, he, rfl⟩ := hx
    cases ha : tag P t with
    | none => simp [ha] at hl
    | some ag =>
      simp only [ha, Option.bind_some] at hl
      cases ag with
      | true =>
        simp only [if_true] at hl
        cases hs : tsz P t with
        | none => simp [hs] at hl
        | some n =>
          cases hc : aload H a n with
          | none => simp [hs, hc] at hl
          | some cs =>
            simp only [hs, hc, Option.bind_some, Option.map_some, Option.some.injEq] at hl
            subst hl
            obtain ⟨cs', h1, h2⟩ := h.load (P := P) hc he
            exact ⟨.agg cs'.toArray, by simp [Instr.loadAt, Instr.sureAddr, loadVar, run_isAgg_of ha, run_sizeOf_of hs, h1], by simp only [VR]; exact ⟨_, rfl, by rw [VRa_iff]; simpa using h2⟩⟩
      | false =>
        simp only [Bool.false_eq_true, if_false] at hl
        cases hc : aload H a 1 with
        | none => simp [hc] at hl
        | some cs =>
          simp only [hc, Option.bind_some] at hl
          obtain ⟨cs', h1, h2⟩ := h.load (P := P) hc he
          cases cs with
          | nil => simp at hl
          | cons c r =>
            simp only [List.head?_cons, Option.some.injEq] at hl
            subst hl
            have hlen : (c :: r).length = 1 := by
              unfold aload at hc
              split at hc
              · split at hc
                · injection hc with hc; rw [← hc, List.length_take, List.length_drop]; omega
                · cases hc
              · cases hc
            have : r = [] := by simpa using hlen
            subst this
            simp only [VRs] at h2
            obtain ⟨u, r', rfl, hu, rfl⟩ := h2
            have := loadCells_one (P := P) h1
            exact ⟨u, by simpa [Instr.loadAt, Instr.sureAddr, loadVar, run_isAgg_of ha] using this, hu⟩
  · cases hl

theorem astoreT_sound {base : Nat} {H H' : Hp} (h : Sim base μ H w) {t : TypeId} {x x' v v' : Value} (hs : astoreT P H t x v = some H') (hx : VR μ x x') (hv : VR μ v v') :
    ∃ w', (Instr.storeAt t x' v').run P w = .ok () w' ∧ Sim base μ H' w' ∧ Ext base w w' := by
  unfold astoreT at hs
  split at hs
  · rename_i a
    simp only [VR] at hx
    obtain ⟨hsp, e, he, rfl⟩ := hx
    cases hz : tsz P t with
    | none => simp [hz] at hs
    | some n =>
      simp only [hz, Option.bind_some] at hs
      split at hs
      · rename_i hn
        obtain ⟨w', h1, h2, h3⟩ := h.store (P := P) hs he hv.cells
        refine ⟨w', ?_, h2, h3⟩
        have : v'.cells.size = n := by rw [hv.cells_size, hn]
        simp [Instr.storeAt, Instr.sureAddr, storeVar, run_sizeOf_of hz, this, h1]
      · cases hs
  · cases hs

theorem alen_sound {t : TypeId} {ts : List TypeId} {ty : TypeId} {x x' v : Value} (h : alen P t x = some v) (hx : VR μ x x') : (Builtin.len_ (t :: ts).toArray ty #[x']).run P w = .ok v w ∧ flat v = true := by
  unfold alen at h
  split at h
  · rename_i a n _
    split at h
    · rename_i e hu
      injection h with h
      subst h
      cases a with
      | none => simp only [VR] at hx; obtain ⟨rfl, rfl⟩ := hx; exact ⟨by simp [Builtin.len_, run_underlying_of hu, goInt], rfl⟩
      | some a => simp only [VR] at hx; obtain ⟨_, e, _, ⟨c, _, _, rfl⟩ | ⟨rfl, a', rfl⟩⟩ := hx <;> exact ⟨by simp [Builtin.len_, run_underlying_of hu, goInt], rfl⟩
    · cases h
  · rename_i s
    split at h
    · rename_i hu
      injection h with h
      subst h
      simp only [VR] at hx; subst hx
      exact ⟨by simp [Builtin.len_, run_underlying_of hu, goInt], rfl⟩
    · cases h
  · split at h
    · rename_i n e hu
      injection h with h
      subst h
      exact ⟨by simp [Builtin.len_, run_underlying_of hu, goInt], rfl⟩
    · cases h

theorem zrow_all {z : List Value} (h : z.all one = true) (n : Nat) : (zrow z n).all one = true := by
  rw [List.all_eq_true]
  intro x hx
  simp only [zrow, List.mem_flatten] at hx
  obtain ⟨l, hl, hxl⟩ := hx
  rw [List.eq_of_mem_replicate hl] at hxl
  exact List.all_eq_true.1 h x hxl

theorem amakeSlice_sound {base : Nat} {H : Hp} (h : Sim base μ H w) {t : TypeId} {l l' c c' : Value} {r : Value × Hp} (hm : amakeSlice P H t l c = some r) (hl : VR μ l l') (hc : VR μ c c') :
    ∃ v' w', (Instr.makeSlice t l' c').run P w = .ok v' w' ∧ Done base μ w r.1 r.2 v' w' := by
  unfold amakeSlice at hm
  split at hm
  · rename_i n _ m
    simp only [VR] at hl hc
    subst hl; subst hc
    split at hm
    · rename_i e hu
      cases hs : tsz P e with
      | none => simp [hs] at hm
      | some s =>
        cases hb : tbytes P e with
        | none => simp [hs, hb] at hm
        | some b =>
          cases hz : tzero P e with
          | none => simp [hs, hb, hz] at hm
          | some z =>
            obtain ⟨hz1, hz2⟩ := run_zeroValue_of (w := w) hz
            obtain ⟨ti, hti, htb⟩ := run_typeInfo_bytes (w := w) hb
            simp only [hs, hb, hz, Option.bind_some] at hm
            split at hm
            · rename_i hcond
              obtain ⟨rfl, h0, hbn, hmax, hzs, h1⟩ := hcond
              injection hm with hm
              subst hm
              have hw : IntKind.i64.wrap n = n := by
                unfold IntKind.wrap
                simp only [IntKind.bits, IntKind.signed]
                have : n % 18446744073709551616 = n := Int.emod_eq_of_lt h0 (by omega)
                simp [this]
                omega
              have earr : ((Array.range (n.toNat * s)).map (fun i => (if n.toNat * s = 0 then (#[] : Array Value) else z.cells)[i % (if n.toNat * s = 0 then (#[] : Array Value) else z.cells).size]!)).toList = zrow z.cells.toList n.toNat := by
                rw [Array.toList_map, Array.toList_range]
                by_cases hl0 : n.toNat * s = 0
                · have : zrow z.cells.toList n.toNat = [] := by
                    apply List.eq_nil_of_length_eq_zero
                    rw [zrow_length, Array.length_toList, hzs, hl0]
                  rw [this, hl0]; rfl
                · rw [if_neg hl0, ← hzs, zrow_eq]
              refine ⟨.slice (some ⟨w.heap.size, 0, none⟩) n.toNat n.toNat, w.alloc (.cells ((Array.range (n.toNat * s)).map (fun i => (if n.toNat * s = 0 then (#[] : Array Value) else z.cells)[i % (if n.toNat * s = 0 then (#[] : Array Value) else z.cells).size]!)) e), ?_,
                newRow_slice h e ⟨[], by rw [earr]; simp⟩ (VRs_self (zrow_flat (flat_cells hz2) _)) (zrow_all h1 _) (by rw [← Array.length_toList, earr, zrow_length, Array.length_toList, hzs]; exact Nat.le_refl _) (Nat.le_refl _)⟩
              have hnot : ¬ ((b : Int) * n > 281474976710656) := by omega
              have hnn : ¬ (n < 0) := by omega
              by_cases hl0 : n.toNat * s = 0
              · simp only [if_pos hl0]
                simp [Instr.makeSlice, run_underlying_of hu, asInt, asIntOf, hti, htb, hw, hnot, hnn, run_sizeOf_of hs, hl0, run_newRow]
              · simp only [if_neg hl0]
                simp [Instr.makeSlice, run_underlying_of hu, asInt, asIntOf, hti, htb, hw, hnot, hnn, run_sizeOf_of hs, hl0, run_newRow, hz1]
            · cases hm
    · cases hm
  · cases hm

theorem aun_sound {op : UnOp} {x x' v : Value} (h : aun op x = some v) (hx : VR μ x x') : (Op.unary op x').run P w = .ok v w ∧ flat v = true := by
  unfold aun at h
  split at h
  · simp only [VR] at hx; subst hx; injection h with h; subst h; exact ⟨by simp [Op.unary, Op.intArith], rfl⟩
  · simp only [VR] at hx; subst hx; injection h with h; subst h; exact ⟨by simp [Op.unary], rfl⟩
  · cases h

theorem aconv_sound {s t : TypeId} {x x' v : Value} (h : aconv P s t x = some v) (hx : VR μ x x') : (convert s t x').run P w = .ok v w ∧ flat v = true := by
  unfold aconv at h
  split at h
  · simp only [VR] at hx; subst hx
    split at h
    · rename_i h1 h2
      injection h with h; subst h; exact ⟨by simp [convert, run_underlying_of h1, run_underlying_of h2, Conv.intToInt], rfl⟩
    · cases h
  · simp only [VR] at hx; subst hx
    split at h
    · rename_i h1 h2
      injection h with h; subst h; exact ⟨by simp [convert, run_underlying_of h1, run_underlying_of h2], rfl⟩
    · cases h
  · cases h

theorem afold_sound {f : Value → Value → Option Value} {g : Value → Value → Sem Value} (hfg : ∀ x y z, f x y = some z → (g x y).run P w = .ok z w ∧ flat z = true) :
    ∀ {l : List Value} {x v : Value}, flat x = true → afold f x l = some v → (l.foldlM g x).run P w = .ok v w ∧ flat v = true
  | [], x, v, hx, h => by simp only [afold, Option.some.injEq] at h; subst h; exact ⟨by simp, hx⟩
  | y :: l, x, v, hx, h => by
    simp only [afold] at h
    cases hz : f x y with
    | none => simp [hz] at h
    | some z =>
      simp only [hz, Option.bind_some] at h
      obtain ⟨h1, h2⟩ := hfg _ _ _ hz
      obtain ⟨h3, h4⟩ := afold_sound hfg h2 h
      exact ⟨by simp [h1, h3], h4⟩

theorem amin_sound {ts : Array TypeId} {ty : TypeId} {l : List Value} {l' : List Value} {v : Value} (h : aminmax amin2 l = some v) (hl : VRs μ l l') : (Builtin.min_ ts ty l'.toArray).run P w = .ok v w ∧ flat v = true := by
  unfold aminmax at h
  split at h
  · split at h
    · rename_i x r hf
      obtain rfl := (VRs_flat hf).1 hl
      simp only [flatL, Bool.and_eq_true] at hf
      have := afold_sound (P := P) (w := w) (f := amin2) (g := Builtin.min2) (fun x y z hz => by
        unfold amin2 at hz
        split at hz
        · injection hz with hz; subst hz; exact ⟨by simp [Builtin.min2], rfl⟩
        · cases hz) hf.1 h
      exact ⟨by simpa [Builtin.min_] using this.1, this.2⟩
    · cases h
  · cases h
theorem amax_sound {ts : Array TypeId} {ty : TypeId} {l : List Value} {l' : List Value} {v : Value} (h : aminmax amax2 l = some v) (hl : VRs μ l l') : (Builtin.max_ ts ty l'.toArray).run P w = .ok v w ∧ flat v = true := by
  unfold aminmax at h
  split at h
  · split at h
    · rename_i x r hf
      obtain rfl := (VRs_flat hf).1 hl
      simp only [flatL, Bool.and_eq_true] at hf
      have := afold_sound (P := P) (w := w) (f := amax2) (g := Builtin.max2) (fun x y z hz => by
        unfold amax2 at hz
        split at hz
        · injection hz with hz; subst hz; exact ⟨by simp [Builtin.max2], rfl⟩
        · cases hz) hf.1 h
      exact ⟨by simpa [Builtin.max_] using this.1, this.2⟩
    · cases h
  · cases h

end
end Go.Abs
