/- The abstract operations, and that the machine's operations do what they say. -/
import Derived.Test.YtjdmndklnfhmjaaAbsC
set_option linter.unusedVariables false
set_option linter.unusedSimpArgs false
set_option linter.unusedSectionVars false
namespace Go.Abs
open Go.RowKit

theorem add_none (b o n : Nat) : (⟨b, o, none⟩ : Addr).add n = ⟨b, o + n, none⟩ := by unfold Addr.add; split <;> simp_all

/-! ### addresses, parts, slices -/
def afieldAddr (P : Program) (s : TypeId) (x : Value) (f : Nat) : Option Value :=
  match x with
  | .pointer (some a) => (tfield P s f).bind fun p => (tsz P p.2).bind fun n => if n = 0 then none else some (.pointer (some ⟨a.block, a.off + p.1, none⟩))
  | _ => none

def aindexAddr (P : Program) (t : TypeId) (x i : Value) : Option Value :=
  match x, i with
  | .slice (some a) n _, .int _ i =>
    match P.underlying t with
    | some (.slice e) => (tsz P e).bind fun s => if 0 ≤ i ∧ i < n then some (.pointer (some ⟨a.block, a.off + i.toNat * s, none⟩)) else none
    | _ => none
  | .pointer (some a), .int _ i =>
    match P.underlying t with
    | some (.array n e) => (tsz P e).bind fun s => if 0 ≤ i ∧ i < n then some (.pointer (some ⟨a.block, a.off + i.toNat * s, none⟩)) else none
    | _ => none
  | _, _ => none

def apart (P : Program) (t : TypeId) (cs : List Value) (off : Nat) : Option Value :=
  (tag P t).bind fun ag => (tsz P t).bind fun n => if ag = false ∧ n ≠ 1 then none else if off + n ≤ cs.length then ofCells ag ((cs.drop off).take n) else none

def afield (P : Program) (t : TypeId) (x : Value) (f : Nat) : Option Value :=
  match x with
  | .agg cs => (tfield P t f).bind fun p => apart P p.2 cs.toList p.1
  | _ => none

def aindex (P : Program) (t : TypeId) (x i : Value) : Option Value :=
  match x, i with
  | .agg cs, .int _ i =>
    match P.underlying t with
    | some (.array n e) => (tsz P e).bind fun s => if 0 ≤ i ∧ i < n then apart P e cs.toList (i.toNat * s) else none
    | _ => none
  | .string s, .int _ i =>
    match P.underlying t with
    | some .string => if 0 ≤ i then (s[i.toNat]?).map fun b => .int .u8 b.toNat else none
    | _ => none
  | _, _ => none

def bnd (v : Option Value) (d : Nat) (m : Nat) : Option Nat :=
  match v with
  | none => some d
  | some (.int _ i) => if 0 ≤ i ∧ i ≤ m then some i.toNat else none
  | some _ => none

/-- May a slice of elements of s cells begin within this block? -/
def cutOk (H : Hp) (b : Nat) (s : Nat) : Bool :=
  match H.get b with
  | .row _ true k => k == 0 || k == s
  | .row _ false _ => true
  | .dead => false

def aslice (P : Program) (H : Hp) (t : TypeId) (x : Value) (lo hi mx : Option Value) : Option Value :=
  if mx.isSome then none else
  match x with
  | .string s =>
    match P.underlying t with
    | some .string => (bnd hi s.size s.size).bind fun h => (bnd lo 0 h).map fun l => .string (s.extract l h)
    | _ => none
  | .slice (some a) n _ =>
    match P.underlying t with
    | some (.slice e) => (bnd hi n n).bind fun h => (bnd lo 0 h).bind fun l => (tsz P e).bind fun s => if n = 0 ∨ cutOk H a.block s = true then some (.slice (some ⟨a.block, a.off + l * s, none⟩) (h - l) (h - l)) else none
    | _ => none
  | .slice none n _ =>
    match P.underlying t with
    | some (.slice e) => (bnd hi n n).bind fun h => (bnd lo 0 h).bind fun l => (tsz P e).bind fun _ => if n = 0 ∧ h = 0 ∧ l = 0 then some (.slice none 0 0) else none
    | _ => none
  | .pointer (some a) =>
    match P.underlying t with
    | some (.array n e) => (bnd hi n n).bind fun h => (bnd lo 0 h).bind fun l => (tsz P e).bind fun s => if cutOk H a.block 0 = true then some (.slice (some ⟨a.block, a.off + l * s, none⟩) (h - l) (h - l)) else none
    | _ => none
  | _ => none

section sound
variable {P : Program} {μ : Mu} {w : World}

theorem tfield_spec {t : TypeId} {f : Nat} {p : Nat × TypeId} (h : tfield P t f = some p) : ∃ fs x, P.underlying t = some (.struct fs) ∧ fs[f]? = some x ∧ p = (x.offset, x.type) := by
  unfold tfield at h
  split at h
  · rename_i fs hu
    cases hx : fs[f]? with
    | none => simp [hx] at h
    | some x => simp only [hx, Option.map_some, Option.some.injEq] at h; exact ⟨fs, x, hu, hx, h.symm⟩
  · cases h

theorem afieldAddr_sound {s : TypeId} {x x' v : Value} {f : Nat} (h : afieldAddr P s x f = some v) (hx : VR μ x x') : ∃ v', (Instr.fieldAt s x' f).run P w = .ok v' w ∧ VR μ v v' := by
  unfold afieldAddr at h
  split at h
  · rename_i a
    cases hp : tfield P s f with
    | none => simp [hp] at h
    | some p =>
      obtain ⟨fs, y, hu, hy, rfl⟩ := tfield_spec hp
      cases hs : tsz P y.type with
      | none => simp [hp, hs] at h
      | some n =>
        simp only [hp, hs, Option.bind_some] at h
        split at h
        · cases h
        · rename_i hn
          injection h with h
          subst h
          simp only [VR] at hx
          obtain ⟨hsp, e, he, rfl⟩ := hx
          refine ⟨.pointer (some ⟨e.rb, e.ro + a.off + y.offset, none⟩), ?_, ?_⟩
          · simp [Instr.fieldAt, Instr.sureAddr, run_underlying_of hu, hy, fieldPlace, run_sizeOf_of hs, hn, add_none]
          · simp only [VR]; exact ⟨trivial, e, he, by rw [Nat.add_assoc]⟩
  · cases h

theorem aindexAddr_sound {t : TypeId} {x x' i i' v : Value} (h : aindexAddr P t x i = some v) (hx : VR μ x x') (hi : VR μ i i') : ∃ v', (Instr.indexAt t x' i').run P w = .ok v' w ∧ VR μ v v' := by
  unfold aindexAddr at h
  split at h
  · rename_i a n _ k i
    simp only [VR] at hi; subst hi
    split at h
    · rename_i e hu
      cases hs : tsz P e with
      | none => simp [hs] at h
      | some s =>
        simp only [hs, Option.bind_some] at h
        split at h
        · rename_i hb
          injection h with h
          subst h
          simp only [VR] at hx
          obtain ⟨hsp, en, he, ⟨c, hnc, hf, rfl⟩ | ⟨hn, _⟩⟩ := hx
          · refine ⟨.pointer (some ⟨en.rb, en.ro + a.off + i.toNat * s, none⟩), ?_, ?_⟩
            · simp [Instr.indexAt, asIntOf, run_underlying_of hu, hb, run_sizeOf_of hs, add_none]
            · simp only [VR]; exact ⟨trivial, en, he, by rw [Nat.add_assoc]⟩
          · omega
        · cases h
    · cases h
  · rename_i a k i
    simp only [VR] at hi; subst hi
    split at h
    · rename_i n e hu
      cases hs : tsz P e with
      | none => simp [hs] at h
      | some s =>
        simp only [hs, Option.bind_some] at h
        split at h
        · rename_i hb
          injection h with h
          subst h
          simp only [VR] at hx
          obtain ⟨hsp, en, he, rfl⟩ := hx
          refine ⟨.pointer (some ⟨en.rb, en.ro + a.off + i.toNat * s, none⟩), ?_, ?_⟩
          · simp [Instr.indexAt, asIntOf, run_underlying_of hu, hb, run_sizeOf_of hs, add_none, Instr.sureAddr]
          · simp only [VR]; exact ⟨trivial, en, he, by rw [Nat.add_assoc]⟩
        · cases h
    · cases h
  · cases h

theorem VR_ofCells {ag : Bool} {cs cs' : List Value} {v : Value} (h : ofCells ag cs = some v) (hc : VRs μ cs cs') : ∃ v', ofCells ag cs' = some v' ∧ VR μ v v' := by
  cases ag with
  | true =>
    simp only [ofCells, if_true, Option.some.injEq] at h ⊢
    subst h
    exact ⟨_, rfl, by simp only [VR]; exact ⟨_, rfl, by rw [VRa_iff]; simpa using hc⟩⟩
  | false =>
    simp only [ofCells, Bool.false_eq_true, if_false] at h ⊢
    split at h
    · rename_i x
      injection h with h
      subst h
      simp only [VRs] at hc
      obtain ⟨u, r, rfl, h1, rfl⟩ := hc
      exact ⟨u, rfl, h1⟩
    · cases h

theorem apart_sound {t : TypeId} {cs : List Value} {cs' : Array Value} {off : Nat} {v : Value} (h : apart P t cs off = some v) (hc : VRs μ cs cs'.toList) : ∃ v', (part t cs' off).run P w = .ok v' w ∧ VR μ v v' := by
  unfold apart at h
  cases ha : tag P t with
  | none => simp [ha] at h
  | some ag =>
    cases hs : tsz P t with
    | none => simp [ha, hs] at h
    | some n =>
      simp only [ha, hs, Option.bind_some] at h
      split at h
      · cases h
      · rename_i hn
        split at h
        · obtain ⟨v', h1, h2⟩ := VR_ofCells h ((hc.drop off).take n)
          exact ⟨v', run_part hs ha (fun hf => by by_cases hn1 : n = 1; exact hn1; exact absurd ⟨hf, hn1⟩ hn) h1, h2⟩
        · cases h

theorem afield_sound {t : TypeId} {x x' v : Value} {f : Nat} (h : afield P t x f = some v) (hx : VR μ x x') : ∃ v', (Instr.field t x' f).run P w = .ok v' w ∧ VR μ v v' := by
  unfold afield at h
  split at h
  · rename_i cs
    simp only [VR] at hx
    obtain ⟨cs', rfl, hc⟩ := hx
    cases hp : tfield P t f with
    | none => simp [hp] at h
    | some p =>
      obtain ⟨fs, y, hu, hy, rfl⟩ := tfield_spec hp
      simp only [hp, Option.bind_some] at h
      obtain ⟨v', h1, h2⟩ := apart_sound (w := w) h (VRa_iff.1 hc)
      exact ⟨v', by simpa [Instr.field, run_underlying_of hu, hy, asAgg] using h1, h2⟩
  · cases h

theorem aindex_sound {t : TypeId} {x x' i i' v : Value} (h : aindex P t x i = some v) (hx : VR μ x x') (hi : VR μ i i') : ∃ v', (Instr.index t x' i').run P w = .ok v' w ∧ VR μ v v' := by
  unfold aindex at h
  split at h
  · rename_i cs k i
    simp only [VR] at hi hx; subst hi
    obtain ⟨cs', rfl, hc⟩ := hx
    split at h
    · rename_i n e hu
      cases hs : tsz P e with
      | none => simp [hs] at h
      | some s =>
        simp only [hs, Option.bind_some] at h
        split at h
        · rename_i hb
          obtain ⟨v', h1, h2⟩ := apart_sound (w := w) h (VRa_iff.1 hc)
          exact ⟨v', by simpa [Instr.index, asIntOf, run_underlying_of hu, hb, run_sizeOf_of hs] using h1, h2⟩
        · cases h
    · cases h
  · rename_i s k i
    simp only [VR] at hi hx; subst hi; subst hx
    split at h
    · rename_i hu
      split at h
      · rename_i h0
        cases hb : s[i.toNat]? with
        | none => simp [hb] at h
        | some b =>
          simp only [hb, Option.map_some, Option.some.injEq] at h
          subst h
          exact ⟨_, by simp [Instr.index, asIntOf, run_underlying_of hu, h0, hb], VR_self rfl⟩
      · cases h
    · cases h
  · cases h

theorem VR_int {k : IntKind} {i : Int} {v : Value} : VR μ (.int k i) v ↔ v = .int k i := by simp only [VR]

/-- Two optional operands. -/
def VRo (μ : Mu) : Option Value → Option Value → Prop
  | none, v => v = none
  | some a, v => ∃ b, v = some b ∧ VR μ a b

theorem bnd_run {v v' : Option Value} {d m n : Nat} {code : BoundsCode} (h : bnd v d m = some n) (hv : VRo μ v v') (m' : Nat) (hm : m ≤ m') :
    (match v' with | some u => Instr.sliceBound u m' code | none => pure d).run P w = .ok n w := by
  unfold bnd at h
  split at h
  · simp only [VRo] at hv; subst hv; injection h with h; subst h; rfl
  · rename_i k i
    simp only [VRo, VR] at hv
    obtain ⟨b, rfl, rfl⟩ := hv
    split at h
    · rename_i hb
      injection h with h; subst h
      have : 0 ≤ i ∧ i ≤ (m' : Int) := ⟨hb.1, by omega⟩
      simp [Instr.sliceBound, asIntOf, this]
    · cases h
  · cases h
theorem bnd_le {v : Option Value} {d m n : Nat} (h : bnd v d m = some n) (hd : d ≤ m) : n ≤ m := by
  unfold bnd at h
  split at h
  · injection h with h; omega
  · split at h
    · injection h with h; omega
    · cases h
  · cases h

theorem run_sliceBounds {lo lo' hi hi' : Option Value} {n c h l : Nat} (b : Bool) (hh : bnd hi n n = some h) (hl : bnd lo 0 h = some l) (hlo : VRo μ lo lo') (hhi : VRo μ hi hi') (hnc : n ≤ c) :
    (Instr.sliceBounds b n c lo' hi' none).run P w = .ok (l, h, c) w := by
  have h1 := bnd_run (P := P) (w := w) (code := if b = true then BoundsCode.sliceAcap else BoundsCode.sliceAlen) hh hhi c hnc
  have h2 := bnd_run (P := P) (w := w) (code := BoundsCode.sliceB) hl hlo h (Nat.le_refl _)
  unfold Instr.sliceBounds
  cases hi' <;> cases lo' <;> simp_all

theorem cutOk_spec {base : Nat} {H : Hp} {b s : Nat} {e : Ent} (hs : Sim base μ H w) (h : cutOk H b s = true) (he : μ b = some e) : e.k = 0 ∨ e.k = s := by
  unfold cutOk at h
  split at h
  · rename_i cs k hg
    obtain ⟨e', _, _, _, he', _, _, _, _, ho, _⟩ := hs.row _ _ _ _ hg
    obtain rfl : e' = e := Option.some.inj (he'.symm.trans he)
    obtain ⟨_, _, _, hk⟩ := ho rfl
    simpa [hk] using h
  · rename_i cs k hg
    obtain ⟨e', _, _, _, he', _, _, _, _, _, hro⟩ := hs.row _ _ _ _ hg
    obtain rfl : e' = e := Option.some.inj (he'.symm.trans he)
    exact .inl (hro rfl).2
  · cases h

theorem aslice_sound {base : Nat} {H : Hp} (hsim : Sim base μ H w) {t : TypeId} {x x' v : Value} {lo lo' hi hi' mx mx' : Option Value} (h : aslice P H t x lo hi mx = some v) (hx : VR μ x x') (hlo : VRo μ lo lo') (hhi : VRo μ hi hi') (hmx : VRo μ mx mx') :
    ∃ v', (Instr.sliceAt t x' lo' hi' mx').run P w = .ok v' w ∧ VR μ v v' := by
  unfold aslice at h
  split at h
  · cases h
  · rename_i hm
    have hmn : mx = none := by simpa using hm
    subst hmn
    simp only [VRo] at hmx
    subst hmx
    split at h
    · rename_i s
      simp only [VR] at hx; subst hx
      split at h
      · rename_i hu
        cases hh : bnd hi s.size s.size with
        | none => simp [hh] at h
        | some hv =>
          cases hl : bnd lo 0 hv with
          | none => simp [hh, hl] at h
          | some l =>
            simp only [hh, hl, Option.bind_some, Option.map_some, Option.some.injEq] at h
            subst h
            refine ⟨.string (s.extract l hv), ?_, VR_self rfl⟩
            have h1 := bnd_run (P := P) (w := w) (code := BoundsCode.sliceAlen) hh hhi s.size (Nat.le_refl _)
            have h2 := bnd_run (P := P) (w := w) (code := BoundsCode.sliceB) hl hlo hv (Nat.le_refl _)
            have : (Instr.sliceBounds false s.size s.size lo' hi' none).run P w = .ok (l, hv, s.size) w := by
              unfold Instr.sliceBounds
              cases hi' <;> cases lo' <;> simp_all
            simp [Instr.sliceAt, Instr.slice, run_underlying_of hu, this]
      · cases h
    · rename_i a n _
      split at h
      · rename_i e hu
        cases hh : bnd hi n n with
        | none => simp [hh] at h
        | some hv =>
          cases hl : bnd lo 0 hv with
          | none => simp [hh, hl] at h
          | some l =>
            cases hs : tsz P e with
            | none => simp [hh, hl, hs] at h
            | some s =>
              simp only [hh, hl, hs, Option.bind_some] at h
              split at h
              · rename_i hc
                injection h with h
                subst h
                have hhn := bnd_le hh (Nat.le_refl _)
                have hln := bnd_le hl (Nat.zero_le _)
                simp only [VR] at hx
                obtain ⟨hsp, en, he, ⟨c, hnc, hf, rfl⟩ | ⟨hn0, a', rfl⟩⟩ := hx
                · have hb := run_sliceBounds (P := P) (w := w) true hh hl hlo hhi hnc
                  refine ⟨.slice (if c = l then some ⟨en.rb, en.ro + a.off, none⟩ else some ⟨en.rb, en.ro + a.off + l * s, none⟩) (hv - l) (c - l), ?_, ?_⟩
                  · simp only [Instr.sliceAt, Instr.slice, Sem.run_bind, run_underlying_of hu, Result.andThen_ok, hb, run_sizeOf_of hs, Sem.run_pure]
                    split <;> simp [add_none]
                  · simp only [VR]
                    refine ⟨trivial, en, he, ?_⟩
                    by_cases hcl : c = l
                    · right
                      refine ⟨by omega, ⟨en.rb, en.ro + a.off, none⟩, ?_⟩
                      rw [if_pos hcl, show hv - l = 0 by omega, show c - l = 0 by omega]
                    · left
                      refine ⟨c - l, by omega, fun hk => ?_, by rw [if_neg hcl, Nat.add_assoc]⟩
                      have := hf hk
                      rcases hc with h0 | hc
                      · obtain rfl : l = 0 := by omega
                        rw [Nat.zero_mul, Nat.sub_zero]; exact this
                      have hks : en.k = s := (cutOk_spec hsim hc he).resolve_left hk
                      rw [hks] at this ⊢
                      have e1 : l * s + (c - l) * s = c * s := by rw [← Nat.add_mul, Nat.add_sub_cancel' (by omega)]
                      omega
                · subst hn0
                  obtain rfl : hv = 0 := by omega
                  obtain rfl : l = 0 := by omega
                  have hb := run_sliceBounds (P := P) (w := w) true hh hl hlo hhi (Nat.le_refl 0)
                  refine ⟨.slice (some a') 0 0, ?_, ?_⟩
                  · simp only [Instr.sliceAt, Instr.slice, Sem.run_bind, run_underlying_of hu, Result.andThen_ok, hb, run_sizeOf_of hs, Sem.run_pure]
                    simp
                  · simp only [VR]
                    exact ⟨trivial, en, he, .inr ⟨trivial, a', rfl⟩⟩
              · cases h
      · cases h
    · rename_i n _
      split at h
      · rename_i e hu
        cases hh : bnd hi n n with
        | none => simp [hh] at h
        | some hv =>
          cases hl : bnd lo 0 hv with
          | none => simp [hh, hl] at h
          | some l =>
            cases hs : tsz P e with
            | none => simp [hh, hl, hs] at h
            | some s =>
              simp only [hh, hl, hs, Option.bind_some] at h
              split at h
              · rename_i hc
                obtain ⟨rfl, rfl, rfl⟩ := hc
                injection h with h
                subst h
                simp only [VR] at hx
                obtain ⟨_, rfl⟩ := hx
                have hb := run_sliceBounds (P := P) (w := w) true hh hl hlo hhi (Nat.le_refl 0)
                refine ⟨.slice none 0 0, ?_, VR_self rfl⟩
                simp only [Instr.sliceAt, Instr.slice, Sem.run_bind, run_underlying_of hu, Result.andThen_ok, hb, run_sizeOf_of hs, Sem.run_pure]
                simp
              · cases h
      · cases h
    · rename_i a
      split at h
      · rename_i n e hu
        cases hh : bnd hi n n with
        | none => simp [hh] at h
        | some hv =>
          cases hl : bnd lo 0 hv with
          | none => simp [hh, hl] at h
          | some l =>
            cases hs : tsz P e with
            | none => simp [hh, hl, hs] at h
            | some s =>
              simp only [hh, hl, hs, Option.bind_some] at h
              split at h
              · rename_i hc
                injection h with h
                subst h
                have hhn := bnd_le hh (Nat.le_refl _)
                have hln := bnd_le hl (Nat.zero_le _)
                simp only [VR] at hx
                obtain ⟨hsp, en, he, rfl⟩ := hx
                have h1 := bnd_run (P := P) (w := w) (code := BoundsCode.sliceAlen) hh hhi n (Nat.le_refl _)
                have h2 := bnd_run (P := P) (w := w) (code := BoundsCode.sliceB) hl hlo hv (Nat.le_refl _)
                have hb : (Instr.sliceBounds false n n lo' hi' none).run P w = .ok (l, hv, n) w := by
                  unfold Instr.sliceBounds
                  cases hi' <;> cases lo' <;> simp_all
                refine ⟨.slice (some (if n = l then ⟨en.rb, en.ro + a.off, none⟩ else ⟨en.rb, en.ro + a.off + l * s, none⟩)) (hv - l) (n - l), ?_, ?_⟩
                · simp only [Instr.sliceAt, Instr.sureAddr, Sem.run_bind, run_underlying_of hu, Result.andThen_ok, hb, run_sizeOf_of hs, Sem.run_pure, add_none]
                · simp only [VR]
                  refine ⟨trivial, en, he, ?_⟩
                  by_cases hcl : n = l
                  · right
                    refine ⟨by omega, ⟨en.rb, en.ro + a.off, none⟩, ?_⟩
                    rw [if_pos hcl, show hv - l = 0 by omega, show n - l = 0 by omega]
                  · left
                    refine ⟨n - l, by omega, fun hk => ?_, by rw [if_neg hcl, Nat.add_assoc]⟩
                    rcases cutOk_spec hsim hc he with h0 | h0 <;> exact absurd h0 hk
              · cases h
      · cases h
    · cases h
end sound
end Go.Abs
