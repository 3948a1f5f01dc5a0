/- Building values and rows; append; that the machine's operations do what these say. -/
import Derived.Test.YtjdmndklnfhmjaaAbsD
set_option linter.unusedVariables false
set_option linter.unusedSimpArgs false
set_option linter.unusedSectionVars false
namespace Go.Abs
open Go.RowKit

def afill (place : Nat → Option (Nat × Nat)) : List Value → List (Nat × Value) → Option (List Value)
  | cs, [] => some cs
  | cs, (i, v) :: r =>
    match place i with
    | none => none
    | some (o, s) => if v.cells.size = s ∧ o + s ≤ cs.length then afill place (splice cs o v.cells.toList) r else none

theorem foldl_set_splice : ∀ (l : List Value) (cs : Array Value) (o k : Nat), o + k + l.length ≤ cs.size →
    ((l.zipIdx k).foldl (fun cs (x : Value × Nat) => cs.setIfInBounds (o + x.2) x.1) cs).toList = splice cs.toList (o + k) l
  | [], cs, o, k, _ => by simp [splice]
  | v :: l, cs, o, k, h => by
    simp only [List.length_cons] at h
    simp only [List.zipIdx_cons, List.foldl_cons]
    rw [foldl_set_splice l _ o (k + 1) (by simp; omega)]
    simp only [splice, Array.toList_setIfInBounds]
    have e := list_seg_step cs.toList (o + k) v l (by simp; omega)
    simpa [Nat.add_assoc] using e

section
variable {P : Program} {μ : Mu} {w : World}

theorem afill_sound {place : Nat → Option (Nat × Nat)} : ∀ {parts parts' : List (Nat × Value)} {cs cs2 : List Value} {cs' : Array Value},
    afill place cs parts = some cs2 → VRs μ cs cs'.toList → parts'.map (·.1) = parts.map (·.1) → VRs μ (parts.map (·.2)) (parts'.map (·.2)) →
    ∃ cs2', Instr.fill place cs' parts' = some cs2' ∧ VRs μ cs2 cs2'.toList := by
  intro parts
  induction parts with
  | nil =>
    intro parts' cs cs2 cs' h hc h1 h2
    simp only [afill, Option.some.injEq] at h
    subst h
    have : parts' = [] := by simpa using h1
    subst this
    exact ⟨cs', by simp [Instr.fill], hc⟩
  | cons p parts ih =>
    intro parts' cs cs2 cs' h hc h1 h2
    obtain ⟨i, v⟩ := p
    cases parts' with
    | nil => simp at h1
    | cons p' parts' =>
      obtain ⟨i', v'⟩ := p'
      simp only [List.map_cons, List.cons.injEq] at h1
      obtain ⟨rfl, h1⟩ := h1
      simp only [List.map_cons, VRs] at h2
      obtain ⟨u, r, e, hv, h2⟩ := h2
      simp only [List.cons.injEq] at e
      obtain ⟨rfl, rfl⟩ := e
      simp only [afill] at h
      split at h
      · cases h
      · rename_i o s hp
        split at h
        · rename_i hc1
          obtain ⟨hs, hl⟩ := hc1
          have hcl := hc.length
          rw [Array.length_toList] at hcl
          have hs' := hv.cells_size
          have e1 : (v'.cells.zipIdx.foldl (fun cs (x : Value × Nat) => cs.setIfInBounds (o + x.2) x.1) cs').toList = splice cs'.toList o v'.cells.toList := by
            rw [← Array.foldl_toList, Array.toList_zipIdx, foldl_set_splice _ _ _ _ (by simp; omega)]
            rfl
          obtain ⟨cs3, h3, h4⟩ := ih (cs' := v'.cells.zipIdx.foldl (fun cs (x : Value × Nat) => cs.setIfInBounds (o + x.2) x.1) cs') h (by rw [e1]; exact hc.splice hv.cells) h1 h2
          refine ⟨cs3, ?_, h4⟩
          simp only [Instr.fill, hp]
          rw [if_neg (by simp; omega)]
          exact h3
        · cases h

theorem run_mapM {α β : Type} {f : α → Sem β} {g : α → Option β} (hf : ∀ a b, g a = some b → (f a).run P w = .ok b w) : ∀ {l : List α} {r : List β}, l.mapM g = some r → (l.mapM f).run P w = .ok r w
  | [], r, h => by
    simp only [List.mapM_nil, Option.pure_def, Option.some.injEq] at h
    subst h
    simp
  | a :: l, r, h => by
    simp only [List.mapM_cons, Option.pure_def, Option.bind_eq_bind] at h
    cases ha : g a with
    | none => simp [ha] at h
    | some b =>
      cases hl : l.mapM g with
      | none => simp [ha, hl] at h
      | some r' =>
        simp only [ha, hl, Option.bind_some, Option.some.injEq] at h
        subst h
        simp [List.mapM_cons, hf a b ha, run_mapM hf hl]

def tplaces (P : Program) (t : TypeId) : Option (List (Nat × Nat)) :=
  match P.underlying t with
  | some (.struct fs) => fs.toList.mapM fun f => (tsz P f.type).map fun s => (f.offset, s)
  | _ => none

def abuild (P : Program) (t : TypeId) (parts : List (Nat × Value)) : Option Value :=
  (tzero P t).bind fun z =>
  match P.underlying t with
  | some (.struct _) => (tplaces P t).bind fun pl => (afill (fun (i : Nat) => pl[i]?) z.cells.toList parts).map fun cs => .agg cs.toArray
  | some (.array _ e) => (tsz P e).bind fun s => (afill (fun i => some (i * s, s)) z.cells.toList parts).map fun cs => .agg cs.toArray
  | _ => none

theorem VRs_self {l : List Value} (h : flatL l = true) : VRs μ l l := (VRs_flat h).2 rfl
theorem flat_cells {v : Value} (h : flat v = true) : flatL v.cells.toList = true := by
  cases v
  case agg cs => cases cs; simpa [Value.cells, flat, flatA] using h
  all_goals (simpa [Value.cells, flatL] using h)

theorem abuild_sound {t : TypeId} {parts : List (Nat × Value)} {parts' : Array (Nat × Value)} {v : Value} (h : abuild P t parts = some v)
    (h1 : parts'.toList.map (·.1) = parts.map (·.1)) (h2 : VRs μ (parts.map (·.2)) (parts'.toList.map (·.2))) :
    ∃ v', (Instr.build t parts').run P w = .ok v' w ∧ VR μ v v' := by
  unfold abuild at h
  cases hz : tzero P t with
  | none => simp [hz] at h
  | some z =>
    obtain ⟨hz1, hz2⟩ := run_zeroValue_of (w := w) hz
    simp only [hz, Option.bind_some] at h
    split at h
    · rename_i fs hu
      cases hp : tplaces P t with
      | none => simp [hp] at h
      | some pl =>
        simp only [hp, Option.bind_some] at h
        cases hf : afill (fun (i : Nat) => pl[i]?) z.cells.toList parts with
        | none => simp [hf] at h
        | some cs2 =>
          simp only [hf, Option.map_some, Option.some.injEq] at h
          subst h
          obtain ⟨cs2', h3, h4⟩ := afill_sound (cs' := z.cells) hf (VRs_self (flat_cells hz2)) h1 h2
          unfold tplaces at hp
          rw [hu] at hp
          have hm := run_mapM (P := P) (w := w) (f := fun (f : Field) => do pure (f.offset, ← sizeOf f.type)) (fun f p hfp => by
            cases hs : tsz P f.type with
            | none => simp [hs] at hfp
            | some s => simp only [hs, Option.map_some, Option.some.injEq] at hfp; subst hfp; simp [run_sizeOf_of hs]) hp
          refine ⟨.agg cs2', ?_, by simp only [VR]; exact ⟨_, rfl, by rw [VRa_iff]; simpa using h4⟩⟩
          simp only [Instr.build, Sem.run_bind, hz1, Result.andThen_ok, run_underlying_of hu, Array.mapM_eq_mapM_toList, Sem.run_map, hm]
          have e : (fun x => pl.toArray[x]?) = fun (i : Nat) => pl[i]? := by funext i; simp
          rw [e, h3]
          simp
    · rename_i n e hu
      cases hs : tsz P e with
      | none => simp [hs] at h
      | some s =>
        simp only [hs, Option.bind_some] at h
        cases hf : afill (fun i => some (i * s, s)) z.cells.toList parts with
        | none => simp [hf] at h
        | some cs2 =>
          simp only [hf, Option.map_some, Option.some.injEq] at h
          subst h
          obtain ⟨cs2', h3, h4⟩ := afill_sound (cs' := z.cells) hf (VRs_self (flat_cells hz2)) h1 h2
          refine ⟨.agg cs2', ?_, by simp only [VR]; exact ⟨_, rfl, by rw [VRa_iff]; simpa using h4⟩⟩
          simp only [Instr.build, Sem.run_bind, hz1, Result.andThen_ok, run_underlying_of hu, run_sizeOf_of hs]
          rw [h3]
          simp
    · cases h

/-! ### rows of zeros -/
def zrow (z : List Value) (n : Nat) : List Value := (List.replicate n z).flatten
theorem zrow_length (z : List Value) (n : Nat) : (zrow z n).length = n * z.length := by
  induction n with
  | zero => simp [zrow]
  | succ n ih => simp only [zrow, List.replicate_succ, List.flatten_cons, List.length_append] at ih ⊢; rw [ih, Nat.succ_mul]; omega
theorem zrow_eq (z : Array Value) (n : Nat) : (List.range (n * z.size)).map (fun i => z[i % z.size]!) = zrow z.toList n := by
  induction n with
  | zero => simp [zrow]
  | succ n ih =>
    rw [Nat.succ_mul, Nat.add_comm, List.range_add, List.map_append, List.map_map]
    simp only [zrow, List.replicate_succ, List.flatten_cons] at ih ⊢
    rw [← ih]
    congr 1
    · apply List.ext_getElem?
      intro i
      by_cases hi : i < z.size
      · simp [hi, Nat.mod_eq_of_lt hi]
      · rw [List.getElem?_eq_none (by simpa using hi), List.getElem?_eq_none (by simpa using hi)]
    · apply List.map_congr_left
      intro i _
      simp [Function.comp]
theorem zrow_flat {z : List Value} (h : flatL z = true) (n : Nat) : flatL (zrow z n) = true := by
  induction n with
  | zero => rfl
  | succ n ih =>
    simp only [zrow, List.replicate_succ, List.flatten_cons] at ih ⊢
    have app : ∀ {a b : List Value}, flatL a = true → flatL b = true → flatL (a ++ b) = true := by
      intro a b ha hb
      induction a with
      | nil => simpa using hb
      | cons x a iha => simp only [flatL, Bool.and_eq_true] at ha; simp only [List.cons_append, flatL, Bool.and_eq_true]; exact ⟨ha.1, iha ha.2⟩
    exact app h ih

theorem run_zeroCells {z : Array Value} {n : Nat} : (Builtin.zeroCells z n).toList = zrow z.toList n := by
  rw [← zrow_eq]; simp [Builtin.zeroCells]

/-- A new row of the call's own. -/
def anew (H : Hp) (cs : List Value) (k : Nat) : Option (Value × Hp) :=
  if cs.all one = true then some (.pointer (some ⟨H.next, 0, none⟩), H.new (.row cs true k)) else none

/-- What every operation that makes or turns memory ends in. -/
def Done (base : Nat) (μ : Mu) (w : World) (v : Value) (H : Hp) (v' : Value) (w' : World) : Prop :=
  ∃ ν, μ.le ν ∧ VR ν v v' ∧ Sim base ν H w' ∧ Ext base w w'

theorem run_newRow {T : TypeId} {c : Array Value} : (newRow T c).run P w = .ok ⟨w.heap.size, 0, none⟩ (w.alloc (.cells c T)) := by simp [newRow]

theorem ext_alloc {base : Nat} {H : Hp} (h : Sim base μ H w) (o : Obj) : Ext base w (w.alloc o) :=
  ⟨(Below.refl base w).alloc h.hb o, fun k x hk _ => by rw [Below.heap_alloc _ _ _ (Array.getElem?_eq_some_iff.1 hk).1]; exact hk, Nat.le_refl _⟩

theorem anew_sound {base : Nat} {H : Hp} (h : Sim base μ H w) {cs : List Value} {cs' : Array Value} {k : Nat} {r : Value × Hp} (T : TypeId) (hn : anew H cs k = some r) (hv : VRs μ cs cs'.toList) :
    Done base μ w r.1 r.2 (.pointer (some ⟨w.heap.size, 0, none⟩)) (w.alloc (.cells cs' T)) := by
  unfold anew at hn
  split at hn
  · rename_i h1
    injection hn with hn
    subst hn
    have hs := h.new k T cs' ⟨[], by simp⟩ hv h1
    refine ⟨_, Mu.le_put h.fresh, ?_, hs, ext_alloc h _⟩
    simp only [VR]
    exact ⟨trivial, ⟨w.heap.size, 0, cs'.size, k⟩, by simp [Mu.put], rfl⟩
  · cases hn

/-- A new slice over a new row, with room behind it or without. -/
theorem newRow_slice {base : Nat} {H : Hp} (h : Sim base μ H w) {cs cs' : List Value} {arr : Array Value} {s len c : Nat} (T : TypeId) (ha : ∃ r, arr.toList = cs' ++ r) (hv : VRs μ cs cs') (h1 : cs.all one = true)
    (hc : c * s ≤ arr.size) (hlc : len ≤ c) :
    Done base μ w (.slice (some ⟨H.next, 0, none⟩) len len) (H.new (.row cs true s)) (.slice (some ⟨w.heap.size, 0, none⟩) len c) (w.alloc (.cells arr T)) := by
  refine ⟨_, Mu.le_put h.fresh, ?_, h.new s T arr ha hv h1, ext_alloc h _⟩
  simp only [VR]
  exact ⟨trivial, ⟨w.heap.size, 0, arr.size, s⟩, by simp [Mu.put], .inl ⟨c, hlc, fun _ => by simpa using hc, rfl⟩⟩

def abuildSlice (P : Program) (H : Hp) (t : TypeId) (len : Nat) (parts : List (Nat × Value)) : Option (Value × Hp) :=
  match P.underlying t with
  | some (.slice e) => (tsz P e).bind fun s => (tzero P e).bind fun z =>
    if len * s ≤ 16777216 ∧ z.cells.size = s then
      (afill (fun i => some (i * s, s)) (zrow z.cells.toList len) parts).bind fun cs => if cs.all one = true then some (.slice (some ⟨H.next, 0, none⟩) len len, H.new (.row cs true s)) else none
    else none
  | _ => none

theorem afill_length {place : Nat → Option (Nat × Nat)} : ∀ {parts : List (Nat × Value)} {cs cs2 : List Value}, afill place cs parts = some cs2 → cs2.length = cs.length := by
  intro parts
  induction parts with
  | nil => intro cs cs2 h; simp only [afill, Option.some.injEq] at h; subst h; rfl
  | cons p parts ih =>
    intro cs cs2 h
    obtain ⟨i, v⟩ := p
    simp only [afill] at h
    split at h
    · cases h
    · split at h
      · rename_i o s _ hc
        rw [ih h, splice_length]
        simpa using by omega
      · cases h

theorem abuildSlice_sound {base : Nat} {H : Hp} (h : Sim base μ H w) {t : TypeId} {len : Nat} {parts : List (Nat × Value)} {parts' : Array (Nat × Value)} {r : Value × Hp} (hb : abuildSlice P H t len parts = some r)
    (h1 : parts'.toList.map (·.1) = parts.map (·.1)) (h2 : VRs μ (parts.map (·.2)) (parts'.toList.map (·.2))) :
    ∃ v' w', (Instr.buildSlice t len parts').run P w = .ok v' w' ∧ Done base μ w r.1 r.2 v' w' := by
  unfold abuildSlice at hb
  split at hb
  · rename_i e hu
    cases hs : tsz P e with
    | none => simp [hs] at hb
    | some s =>
      cases hz : tzero P e with
      | none => simp [hs, hz] at hb
      | some z =>
        obtain ⟨hz1, hz2⟩ := run_zeroValue_of (w := w) hz
        simp only [hs, hz, Option.bind_some] at hb
        split at hb
        · rename_i hc
          obtain ⟨hle, hsz⟩ := hc
          cases hf : afill (fun i => some (i * s, s)) (zrow z.cells.toList len) parts with
          | none => simp [hf] at hb
          | some cs2 =>
            simp only [hf, Option.bind_some] at hb
            split at hb
            · rename_i h1o
              injection hb with hb
              subst hb
              have e0 : ((Array.range (len * s)).map (fun i => (if len * s = 0 then (#[] : Array Value) else z.cells)[i % (if len * s = 0 then (#[] : Array Value) else z.cells).size]!)).toList = zrow z.cells.toList len := by
                rw [Array.toList_map, Array.toList_range]
                by_cases hl0 : len * s = 0
                · have : zrow z.cells.toList len = [] := by
                    apply List.eq_nil_of_length_eq_zero
                    rw [zrow_length, Array.length_toList, hsz, hl0]
                  rw [this, hl0]; rfl
                · rw [if_neg hl0, ← hsz, zrow_eq]
              obtain ⟨cs2', h3, h4⟩ := afill_sound (cs' := (Array.range (len * s)).map (fun i => (if len * s = 0 then (#[] : Array Value) else z.cells)[i % (if len * s = 0 then (#[] : Array Value) else z.cells).size]!)) hf (by rw [e0]; exact VRs_self (zrow_flat (flat_cells hz2) _)) h1 h2
              have hlen : cs2.length = len * s := by
                have := afill_length hf
                rw [zrow_length] at this
                simpa [hsz] using this
              have hl4 := h4.length
              refine ⟨.slice (some ⟨w.heap.size, 0, none⟩) len len, w.alloc (.cells cs2' e), ?_, newRow_slice h e ⟨[], by simp⟩ h4 h1o (by rw [← Array.length_toList, hl4, hlen]; exact Nat.le_refl _) (Nat.le_refl _)⟩
              simp only [Instr.buildSlice, Sem.run_bind, run_underlying_of hu, Result.andThen_ok, run_sizeOf_of hs]
              rw [if_neg (by omega)]
              by_cases hl0 : len * s = 0
              · simp only [if_pos hl0] at h3 ⊢
                simp only [Sem.run_bind, Sem.run_pure, Result.andThen_ok, h3, run_newRow]
              · simp only [if_neg hl0] at h3 ⊢
                simp only [Sem.run_bind, Sem.run_pure, Result.andThen_ok, hz1, h3, run_newRow]
            · cases hb
        · cases hb
  · cases hb

end
end Go.Abs
