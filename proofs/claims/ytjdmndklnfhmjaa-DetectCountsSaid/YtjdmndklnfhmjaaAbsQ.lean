/- Maps of the abstract memory: made, looked into, written, ranged over. -/
import Derived.Test.YtjdmndklnfhmjaaAbsG
import Derived.Maps.Keyed
import Derived.Maps.RangeRun
import Derived.RangeFuncRecord
set_option linter.unusedVariables false
set_option linter.unusedSimpArgs false
set_option linter.unusedSectionVars false
namespace Go.Abs
open Go.RowKit
open Go.ChangeMaps (setBlock)

/-! ### entries -/
theorem ents_length : ∀ (es : List (List Int × Value)) (i : Nat), (entsFrom i es).length = es.length
  | [], _ => rfl
  | _ :: es, i => by simp only [entsFrom, List.length_cons, ents_length es]
theorem ents_get : ∀ (es : List (List Int × Value)) (i j : Nat), (entsFrom i es)[j]? = (es[j]?).map fun e => ⟨kv e.1, e.2, i + j⟩
  | [], _, _ => by simp [entsFrom]
  | e :: es, i, 0 => by simp [entsFrom]
  | e :: es, i, j + 1 => by
    simp only [entsFrom, List.getElem?_cons_succ, ents_get es (i + 1) j]
    cases es[j]? with
    | none => rfl
    | some x => simp only [Option.map_some, Option.some.injEq, MapEntry.mk.injEq, true_and]; omega
theorem ents_mem {es : List (List Int × Value)} {x : MapEntry} (h : x ∈ entsFrom 0 es) : ∃ (i : Nat) (e : List Int × Value), es[i]? = some e ∧ x = ⟨kv e.1, e.2, i⟩ := by
  obtain ⟨i, hi⟩ := List.getElem?_of_mem h
  rw [ents_get] at hi
  cases he : es[i]? with
  | none => rw [he] at hi; cases hi
  | some e => rw [he] at hi; simp only [Option.map_some, Option.some.injEq, Nat.zero_add] at hi; exact ⟨i, e, he, hi.symm⟩
theorem ents_append (es fs : List (List Int × Value)) (i : Nat) : entsFrom i (es ++ fs) = entsFrom i es ++ entsFrom (i + es.length) fs := by
  induction es generalizing i with
  | nil => simp [entsFrom]
  | cons e es ih => simp only [List.cons_append, entsFrom, ih, List.length_cons]; congr 2; congr 1; omega
theorem ents_set (es : List (List Int × Value)) (i j : Nat) (v : Value) (e : List Int × Value) (he : es[j]? = some e) : (entsFrom i es).modify j (fun x => { x with val := v }) = entsFrom i (es.set j (e.1, v)) := by
  induction es generalizing i j with
  | nil => simp at he
  | cons x es ih =>
    cases j with
    | zero => simp only [List.getElem?_cons_zero, Option.some.injEq] at he; subst he; rfl
    | succ j => simp only [entsFrom, List.modify_succ_cons, List.set_cons_succ]; rw [ih (i + 1) j (by simpa using he)]
theorem ents_same (es : List (List Int × Value)) (i j : Nat) (e : List Int × Value) (he : es[j]? = some e) : (entsFrom i es).modify j (fun x => { x with key := kv e.1 }) = entsFrom i es := by
  induction es generalizing i j with
  | nil => simp at he
  | cons x es ih =>
    cases j with
    | zero => simp only [List.getElem?_cons_zero, Option.some.injEq] at he; subst he; rfl
    | succ j => simp only [entsFrom, List.modify_succ_cons]; rw [ih (i + 1) j (by simpa using he)]
theorem ints_inj : ∀ {a b : List Int}, a.map (Value.int .i64) = b.map (Value.int .i64) → a = b
  | [], [], _ => rfl
  | [], _ :: _, h => by simp at h
  | _ :: _, [], h => by simp at h
  | x :: a, y :: b, h => by
    simp only [List.map_cons, List.cons.injEq, Value.int.injEq, true_and] at h
    rw [h.1, ints_inj h.2]
theorem kv_inj {a b : List Int} (h : kv a = kv b) : a = b := by
  simp only [kv, Value.agg.injEq] at h
  exact ints_inj (congrArg Array.toList h)
theorem kv_flat (k : List Int) : flat (kv k) = true := by
  simp only [kv, flat, flatA]
  induction k with
  | nil => rfl
  | cons x k ih => simp only [List.map_cons, flatL, flat, Bool.true_and]; exact ih

/-- The keys' type tells them apart, and these are keys of it. -/
structure MapOk (P : Program) (kt : TypeId) (es : List (List Int × Value)) (k : List Int) : Prop where
  law : WideMaps.KeyLaw P kt
  old : ∀ e, e ∈ es → ∃ l, keyOf P kt (kv e.1) = some l
  key : ∃ l, keyOf P kt (kv k) = some l
def mfind (k : List Int) (es : List (List Int × Value)) : Option (Nat × Value) := (es.findIdx? fun e => e.1 == k).bind fun i => (es[i]?).map fun e => (i, e.2)
theorem mfind_none {k : List Int} {es : List (List Int × Value)} (h : ∀ e, e ∈ es → e.1 ≠ k) : mfind k es = none := by
  rw [mfind, List.findIdx?_eq_none_iff.2 (fun e he => by simpa using h e he)]; rfl
theorem nodup_key {es : List (List Int × Value)} (hn : (es.map (·.1)).Nodup) {i j : Nat} {e f : List Int × Value} (hi : es[i]? = some e) (hj : es[j]? = some f) (h : e.1 = f.1) : i = j := by
  have h1 : (es.map (·.1))[i]? = some e.1 := by rw [List.getElem?_map, hi]; rfl
  have h2 : (es.map (·.1))[j]? = some e.1 := by rw [List.getElem?_map, hj, h]; rfl
  exact (List.getElem?_inj (List.getElem?_eq_some_iff.1 h1).1 hn).1 (h1.trans h2.symm)
theorem mfind_at {k : List Int} {es : List (List Int × Value)} (hn : (es.map (·.1)).Nodup) {i : Nat} {e : List Int × Value} (hi : es[i]? = some e) (hk : e.1 = k) : mfind k es = some (i, e.2) := by
  have hmem : e ∈ es := List.mem_of_getElem? hi
  cases hf : es.findIdx? (fun e => e.1 == k) with
  | none =>
    have := List.findIdx?_eq_none_iff.1 hf e hmem
    simp [hk] at this
  | some j =>
    obtain ⟨hj, h1, _⟩ := List.findIdx?_eq_some_iff_getElem.1 hf
    have hjj : es[j]? = some es[j] := List.getElem?_eq_getElem hj
    have : i = j := nodup_key hn hi hjj (by rw [hk]; exact (beq_iff_eq.1 h1).symm)
    subst this
    rw [mfind, hf, Option.bind_some, hi]; rfl
theorem find_run {P : Program} {kt : TypeId} {es : List (List Int × Value)} {k : List Int} (h : MapOk P kt es k) (hn : (es.map (·.1)).Nodup) (w : World) : (Instr.findKey kt (kv k) (entsFrom 0 es)).run P w = .ok (mfind k es) w := by
  obtain ⟨l, hl⟩ := h.key
  rcases h.law.find w hl (entsFrom 0 es) (fun x hx => by
    obtain ⟨i, e, he, rfl⟩ := ents_mem hx
    exact h.old e (List.mem_of_getElem? he)) with ⟨h1, h2⟩ | ⟨j, x, h1, h2, h3⟩
  · rw [h1, mfind_none fun e he hk => ?_]
    obtain ⟨i, hi⟩ := List.getElem?_of_mem he
    have hx : (⟨kv e.1, e.2, 0 + i⟩ : MapEntry) ∈ entsFrom 0 es := List.mem_of_getElem? (i := i) (by rw [ents_get, hi]; rfl)
    exact h2 _ hx (by simp only [hk])
  · rw [h1]
    rw [ents_get] at h2
    cases he : es[j]? with
    | none => rw [he] at h2; cases h2
    | some e =>
      rw [he] at h2
      simp only [Option.map_some, Option.some.injEq] at h2
      subst h2
      rw [mfind_at hn he (kv_inj h3)]

/-! ### the operations -/
def vk : Value → Option (List Int)
  | .agg cs => cs.toList.mapM fun v => match v with | .int .i64 z => some z | _ => none
  | _ => none
theorem vk_ints : ∀ {l : List Value} {k : List Int}, (l.mapM fun v => match v with | Value.int .i64 z => some z | _ => none) = some k → l = k.map (Value.int .i64)
  | [], k, h => by simp only [List.mapM_nil, Option.pure_def, Option.some.injEq] at h; subst h; rfl
  | v :: l, k, h => by
    simp only [List.mapM_cons, Option.pure_def, Option.bind_eq_bind] at h
    split at h
    · rename_i z
      simp only [Option.bind_some] at h
      cases hl : (l.mapM fun v => match v with | Value.int .i64 z => some z | _ => none) with
      | none => rw [hl] at h; cases h
      | some k' =>
        rw [hl] at h
        simp only [Option.bind_some, Option.some.injEq] at h
        subst h
        rw [vk_ints hl]; rfl
    · cases h
theorem vk_kv {v : Value} {k : List Int} (h : vk v = some k) : v = kv k := by
  unfold vk at h
  split at h
  · rename_i cs
    have := vk_ints h
    rw [kv, ← this]
  · cases h
open Classical in
noncomputable def alookup (P : Program) (H : Hp) (mt : TypeId) (m key : Value) (ok : Bool) : Option Value :=
  match P.underlying mt, m, vk key, ok with
  | some (.map kt et), .map (some r), some k, false =>
    match H.ob r with
    | some (.mp es) => if MapOk P kt es k then (match mfind k es with | some x => some x.2 | none => tzero P et) else none
    | _ => none
  | _, _, _, _ => none
open Classical in
noncomputable def amapEntry (P : Program) (H : Hp) (mt : TypeId) (m key : Value) : Option (Value × Hp) :=
  match P.underlying mt, m, vk key with
  | some (.map kt et), .map (some r), some k =>
    match H.ob r with
    | some (.mp es) => if MapOk P kt es k then (match mfind k es with
      | some x => some (.tuple #[x.2, .int .i64 x.1], H)
      | none => (tzero P et).bind fun z => if flat z = true then some (.tuple #[z, .int .i64 es.length], H.setOb r (.mp (es ++ [(k, z)]))) else none) else none
    | _ => none
  | _, _, _ => none
def aentryStore (H : Hp) (m stamp v : Value) : Option Hp :=
  match m, stamp with
  | .map (some r), .int _ i =>
    match H.ob r with
    | some (.mp es) => if 0 ≤ i ∧ flat v = true then (es[i.toNat]?).map fun e => H.setOb r (.mp (es.set i.toNat (e.1, v))) else none
    | _ => none
  | _, _ => none

section sound
variable {P : Program} {μ : Mu} {base : Nat} {H : Hp} {w : World}
theorem setBlock_ne (w : World) (r k : Nat) (o : Obj) (h : k ≠ r) : (setBlock w r o).heap[k]? = w.heap[k]? := by
  simp only [setBlock]
  rw [Array.getElem?_setIfInBounds_ne (Ne.symm h)]
theorem Sim.setOb (h : Sim base μ H w) {r : Nat} {o o2 : MObj} (ho : H.ob r = some o) (hp : o2.plain) : Sim base μ (H.setOb r o2) (setBlock w r o2.obj) ∧ Ext base w (setBlock w r o2.obj) := by
  obtain ⟨hb, hw, _⟩ := h.ob r o ho
  have hlt := (Array.getElem?_eq_some_iff.1 hw).1
  refine ⟨⟨by simpa [setBlock] using h.hb, h.dom, fun b cs own k hg => ?_, h.inj, fun i x hx => ?_⟩, ⟨rfl, rfl, rfl, by simp [setBlock], fun i hi => setBlock_ne _ _ _ _ (by omega)⟩, fun i x hx hh => ?_, Nat.le_refl _⟩
  · obtain ⟨e, arr, T, fz, he, hr, rest⟩ := h.row _ _ _ _ hg
    exact ⟨e, arr, T, fz, he, by rw [setBlock_ne _ _ _ _ (fun hk => by rw [hk, hw] at hr; exact MObj.not_cells (Option.some.inj hr))]; exact hr, rest⟩
  · by_cases hi : i = r
    · subst hi
      rw [Hp.ob_setOb_same] at hx
      cases hx
      exact ⟨hb, by simp [setBlock, hlt], hp⟩
    · rw [Hp.ob_setOb_ne _ _ _ _ hi] at hx
      obtain ⟨q1, q2, q3⟩ := h.ob i x hx
      exact ⟨q1, by rw [setBlock_ne _ _ _ _ hi]; exact q2, q3⟩
  · rw [setBlock_ne _ _ _ _ (fun hk => by subst hk; rw [hw] at hx; cases hx; cases o <;> cases hh)]
    exact hx
theorem Sim.newOb (h : Sim base μ H w) {o : MObj} (hp : o.plain) : H.ob w.heap.size = none ∧ Sim base μ (H.setOb w.heap.size o) (w.alloc o.obj) ∧ Ext base w (w.alloc o.obj) := by
  have hn : H.ob w.heap.size = none := by
    cases hx : H.ob w.heap.size with
    | none => rfl
    | some x =>
      obtain ⟨_, q, _⟩ := h.ob _ _ hx
      exact absurd (Array.getElem?_eq_some_iff.1 q).1 (Nat.lt_irrefl _)
  have hb := h.hb
  refine ⟨hn, ⟨by simp; omega, h.dom, fun b cs own k hg => ?_, h.inj, fun i x hx => ?_⟩, ⟨(Below.refl base w).alloc hb _, fun i x hx hh => ?_, Nat.le_refl _⟩⟩
  · obtain ⟨e, arr, T, fz, he, hr, rest⟩ := h.row _ _ _ _ hg
    exact ⟨e, arr, T, fz, he, by rw [Below.heap_alloc _ _ _ (Array.getElem?_eq_some_iff.1 hr).1]; exact hr, rest⟩
  · by_cases hi : i = w.heap.size
    · subst hi
      rw [Hp.ob_setOb_same] at hx
      cases hx
      exact ⟨hb, World.alloc_heap_new _ _, hp⟩
    · rw [Hp.ob_setOb_ne _ _ _ _ hi] at hx
      obtain ⟨q1, q2, q3⟩ := h.ob i x hx
      exact ⟨q1, by rw [Below.heap_alloc _ _ _ (Array.getElem?_eq_some_iff.1 q2).1]; exact q2, q3⟩
  · rw [Below.heap_alloc _ _ _ (Array.getElem?_eq_some_iff.1 hx).1]; exact hx
theorem flat_find {es : List (List Int × Value)} {k : List Int} {x : Nat × Value} (hf : ∀ e, e ∈ es → flat e.2 = true) (h : mfind k es = some x) : flat x.2 = true ∧ ∃ e, es[x.1]? = some e ∧ e.2 = x.2 ∧ e.1 = k := by
  rw [mfind] at h
  cases hi : es.findIdx? (fun e => e.1 == k) with
  | none => rw [hi] at h; cases h
  | some i =>
    obtain ⟨hl, h1, _⟩ := List.findIdx?_eq_some_iff_getElem.1 hi
    rw [hi, Option.bind_some, List.getElem?_eq_getElem hl, Option.map_some, Option.some.injEq] at h
    subst h
    exact ⟨hf _ (List.getElem_mem hl), _, List.getElem?_eq_getElem hl, rfl, beq_iff_eq.1 h1⟩
theorem find_key {es : List (List Int × Value)} {k : List Int} (h : mfind k es = none) : ∀ e, e ∈ es → e.1 ≠ k := by
  intro e he hk
  rw [mfind] at h
  cases hi : es.findIdx? (fun e => e.1 == k) with
  | none =>
    have := List.findIdx?_eq_none_iff.1 hi e he
    simp [hk] at this
  | some i =>
    obtain ⟨hl, _, _⟩ := List.findIdx?_eq_some_iff_getElem.1 hi
    rw [hi, Option.bind_some, List.getElem?_eq_getElem hl] at h
    cases h
theorem run_getOb (h : Sim base μ H w) {r : Nat} {o : MObj} (ho : H.ob r = some o) : (getObj r).run P w = .ok o.obj w := by
  obtain ⟨_, hw, _⟩ := h.ob r o ho
  simp only [getObj, Sem.run, hw]
  cases o <;> rfl
theorem run_setOb (h : Sim base μ H w) {r : Nat} {o : MObj} (ho : H.ob r = some o) (x : Obj) : (setObj r x).run P w = .ok () (setBlock w r x) := by
  obtain ⟨_, hw, _⟩ := h.ob r o ho
  simp only [setObj, Sem.run, hw, setBlock]
  cases o <;> rfl
theorem alookup_sound (h : Sim base μ H w) {mt : TypeId} {m m' k k' v : Value} {ok : Bool} (hl : alookup P H mt m k ok = some v) (hm : VR μ m m') (hk : VR μ k k') : ∃ v', (Instr.lookup mt m' k' ok).run P w = .ok v' w ∧ VR μ v v' := by
  unfold alookup at hl
  split at hl
  · rename_i kt et r ks hu hv
    split at hl
    · rename_i es hob
      split at hl
      · rename_i hok
        have hkk := vk_kv hv
        subst hkk
        have hk2 := VR_eq (kv_flat ks) hk
        subst hk2
        simp only [VR] at hm
        subst hm
        obtain ⟨_, hw, hp1, hp2⟩ := h.ob _ _ hob
        have hget := run_getOb (P := P) h hob
        simp only [MObj.obj] at hget
        obtain ⟨l, hkl⟩ := hok.key
        have hchk := fun em => hok.law.check w em hkl
        have hfd := find_run hok hp2 w
        cases hf : mfind ks es with
        | some x =>
          rw [hf] at hl hfd
          simp only [Option.some.injEq] at hl
          subst hl
          refine ⟨x.2, ?_, VR_self (flat_find hp1 hf).1⟩
          simp [Instr.lookup, run_underlying_of hu, hget, hchk, hfd]
        | none =>
          rw [hf] at hl hfd
          simp only at hl
          obtain ⟨z1, z2⟩ := run_zeroValue_of (P := P) (w := w) hl
          refine ⟨v, ?_, VR_self z2⟩
          simp [Instr.lookup, run_underlying_of hu, hget, hchk, hfd, z1]
      · cases hl
    · cases hl
  · cases hl
theorem Done.same' (h : Sim base μ H w) {v v' : Value} (hv : VR μ v v') : Done base μ w v H v' w := ⟨μ, Mu.le_refl μ, hv, h, Ext.refl _ _⟩
theorem setBlock_same (w : World) (r : Nat) (o : Obj) (h : w.heap[r]? = some o) : setBlock w r o = w := by
  have hlt := (Array.getElem?_eq_some_iff.1 h).1
  have : w.heap.setIfInBounds r o = w.heap := by
    apply Array.ext_getElem?
    intro i
    by_cases hi : i = r
    · subst hi; simp [hlt, ← h]
    · rw [Array.getElem?_setIfInBounds_ne (Ne.symm hi)]
  simp only [setBlock, this]
theorem arr_modify (l : List MapEntry) (i : Nat) (f : MapEntry → MapEntry) : l.toArray.modify i f = (l.modify i f).toArray := by
  apply Array.ext'
  simp
theorem amapEntry_sound (h : Sim base μ H w) {mt : TypeId} {m m' k k' : Value} {r : Value × Hp} (hl : amapEntry P H mt m k = some r) (hm : VR μ m m') (hk : VR μ k k') : ∃ v' w', (Instr.mapEntry mt m' k').run P w = .ok v' w' ∧ Done base μ w r.1 r.2 v' w' := by
  unfold amapEntry at hl
  split at hl
  · rename_i kt et rb ks hu hv
    split at hl
    · rename_i es hob
      split at hl
      · rename_i hok
        have hkk := vk_kv hv
        subst hkk
        have hk2 := VR_eq (kv_flat ks) hk
        subst hk2
        simp only [VR] at hm
        subst hm
        obtain ⟨_, hw, hp1, hp2⟩ := h.ob _ _ hob
        have hget := run_getOb (P := P) h hob
        simp only [MObj.obj] at hget hw
        obtain ⟨l, hkl⟩ := hok.key
        have hchk := fun em => hok.law.check w em hkl
        have hst := hok.law.stays w hkl
        have hfd := find_run hok hp2 w
        cases hf : mfind ks es with
        | some x =>
          rw [hf] at hl hfd
          simp only [Option.some.injEq] at hl
          subst hl
          obtain ⟨hfl, e, he, hev, hek⟩ := flat_find hp1 hf
          have hge : (entsFrom 0 es)[x.1]? = some ⟨kv e.1, e.2, x.1⟩ := by rw [ents_get, he]; simp
          have hset := run_setOb (P := P) h hob (Obj.map (entsFrom 0 es).toArray es.length)
          have e0 : (entsFrom 0 es).modify x.1 (fun y => { y with key := kv ks }) = entsFrom 0 es := by
            rw [← hek, ents_same es 0 x.1 e he]
          rw [setBlock_same _ _ _ hw] at hset
          refine ⟨.tuple #[x.2, .int .i64 x.1], w, ?_, Done.same' h (VR_self (by simp [flat, flatA, flatL, hfl]))⟩
          simp [Instr.mapEntry, run_underlying_of hu, hget, hchk, hfd, hge, hek, hst, e0, hset, goInt]
        | none =>
          rw [hf] at hl hfd
          simp only at hl
          cases hz : tzero P et with
          | none => rw [hz] at hl; cases hl
          | some z =>
            rw [hz] at hl
            simp only [Option.bind_some] at hl
            split at hl
            · rename_i hzf
              injection hl with hl
              subst hl
              obtain ⟨z1, _⟩ := run_zeroValue_of (P := P) (w := w) hz
              have hnew : MObj.plain (.mp (es ++ [(ks, z)])) := by
                refine ⟨fun e he => ?_, ?_⟩
                · rcases List.mem_append.1 he with he | he
                  · exact hp1 e he
                  · rw [List.mem_singleton] at he; subst he; exact hzf
                · rw [List.map_append, List.nodup_append]
                  refine ⟨hp2, by simp, fun a ha b hb => ?_⟩
                  simp only [List.map_cons, List.map_nil, List.mem_singleton] at hb
                  subst hb
                  obtain ⟨e, he, rfl⟩ := List.mem_map.1 ha
                  exact find_key hf e he
              have hset := run_setOb (P := P) h hob (MObj.obj (.mp (es ++ [(ks, z)])))
              obtain ⟨s1, s2⟩ := h.setOb hob hnew
              have e0 : (entsFrom 0 es).toArray.push ⟨kv ks, z, es.length⟩ = (entsFrom 0 (es ++ [(ks, z)])).toArray := by
                rw [ents_append]; simp [entsFrom]
              have e1 : es.length + 1 = (es ++ [(ks, z)]).length := by simp
              refine ⟨.tuple #[z, .int .i64 es.length], _, ?_, ⟨μ, Mu.le_refl μ, VR_self (by simp [flat, flatA, flatL, hzf]), s1, s2⟩⟩
              simp only [MObj.obj] at hset
              have e2 : entsFrom 0 es ++ [⟨kv ks, z, es.length⟩] = entsFrom 0 (es ++ [(ks, z)]) := by
                rw [ents_append]; simp [entsFrom]
              rw [← e1] at hset
              simp [Instr.mapEntry, run_underlying_of hu, hget, hchk, hfd, z1, e2, MObj.obj, goInt, hset]
            · cases hl
      · cases hl
    · cases hl
  · cases hl
theorem ents_findIdx : ∀ (es : List (List Int × Value)) (a j : Nat), j < es.length → (entsFrom a es).findIdx? (fun e => (e.born : Int) == ((a + j : Nat) : Int)) = some j
  | [], _, _, h => by simp at h
  | e :: es, a, 0, _ => by simp [entsFrom, List.findIdx?_cons]
  | e :: es, a, j + 1, h => by
    have ih := ents_findIdx es (a + 1) j (by simpa using h)
    have e1 : a + 1 + j = a + (j + 1) := by omega
    rw [e1] at ih
    simp only [entsFrom, List.findIdx?_cons]
    rw [if_neg (by simp only [beq_iff_eq]; omega), ih]
    rfl
theorem aentryStore_sound (h : Sim base μ H w) {t : TypeId} {m m' s s' v v' : Value} {H' : Hp} (hl : aentryStore H m s v = some H') (hm : VR μ m m') (hs : VR μ s s') (hv : VR μ v v') : ∃ w', (Instr.entryStore t m' s' v').run P w = .ok () w' ∧ Sim base μ H' w' ∧ Ext base w w' := by
  unfold aentryStore at hl
  split at hl
  · rename_i rb k i
    split at hl
    · rename_i es hob
      split at hl
      · rename_i hc
        obtain ⟨h0, hf⟩ := hc
        cases he : es[i.toNat]? with
        | none => rw [he] at hl; cases hl
        | some e =>
          rw [he, Option.map_some, Option.some.injEq] at hl
          subst hl
          simp only [VR] at hm hs
          subst hm; subst hs
          have hvv := VR_eq hf hv
          subst hvv
          obtain ⟨_, hw, hp1, hp2⟩ := h.ob _ _ hob
          have hget := run_getOb (P := P) h hob
          simp only [MObj.obj] at hget hw
          have hlt := (List.getElem?_eq_some_iff.1 he).1
          have hnew : MObj.plain (.mp (es.set i.toNat (e.1, v'))) := by
            refine ⟨fun x hx => ?_, ?_⟩
            · rcases List.mem_or_eq_of_mem_set hx with hx | hx
              · exact hp1 x hx
              · subst hx; exact hf
            · have : (es.set i.toNat (e.1, v')).map (·.1) = es.map (·.1) := by
                rw [List.map_set]
                apply List.ext_getElem?
                intro j
                by_cases hj : i.toNat = j
                · subst hj; rw [List.getElem?_set_self (by rw [List.length_map]; exact hlt), List.getElem?_map, he]; rfl
                · rw [List.getElem?_set_ne hj]
              rw [this]; exact hp2
          obtain ⟨s1, s2⟩ := h.setOb hob hnew
          have hset := run_setOb (P := P) h hob (MObj.obj (.mp (es.set i.toNat (e.1, v'))))
          have hfi := ents_findIdx es 0 i.toNat hlt
          have hi2 : ((0 + i.toNat : Nat) : Int) = i := by omega
          rw [hi2] at hfi
          have hmod := ents_set es 0 i.toNat v' e he
          have hlen : (es.set i.toNat (e.1, v')).length = es.length := List.length_set
          refine ⟨_, ?_, s1, s2⟩
          simp only [MObj.obj, hlen] at hset ⊢
          simp [Instr.entryStore, hget, asInt, asIntOf, hfi, hmod, hset]
      · cases hl
    · cases hl
  · cases hl

/-! ### made, and ranged over: what the machine does is not said by the frame alone -/
theorem makeMap_sound (h : Sim base μ H w) (mt : TypeId) : ∃ r, H.ob r = none ∧ (Instr.makeMap mt none).run P w = .ok (.map (some r)) (w.alloc (.map #[] 0)) ∧ Sim base μ (H.setOb r (.mp [])) (w.alloc (.map #[] 0)) ∧ Ext base w (w.alloc (.map #[] 0)) := by
  obtain ⟨h1, h2, h3⟩ := h.newOb (o := .mp []) ⟨fun e he => (by cases he), List.nodup_nil⟩
  exact ⟨w.heap.size, h1, rfl, h2, h3⟩
theorem range_sound (h : Sim base μ H w) {mt kt et : TypeId} (hu : P.underlying mt = some (.map kt et)) {r : Nat} {es : List (List Int × Value)} (ho : H.ob r = some (.mp es)) :
    ∃ it, H.ob it = none ∧ (Instr.range mt (.map (some r))).run P w = .ok (.pointer (some ⟨it, 0, none⟩)) (w.alloc (.mapIter (some r) es.length #[] es.length)) ∧ Sim base μ (H.setOb it (.it r es.length #[])) (w.alloc (.mapIter (some r) es.length #[] es.length)) ∧ Ext base w (w.alloc (.mapIter (some r) es.length #[] es.length)) := by
  obtain ⟨h1, h2, h3⟩ := h.newOb (o := .it r es.length #[]) trivial
  have hget := run_getOb (P := P) h ho
  simp only [MObj.obj] at hget
  refine ⟨w.heap.size, h1, ?_, h2, h3⟩
  simp [Instr.range, run_underlying_of hu, hget]
theorem Sim.drew (h : Sim base μ H w) : Sim base μ H w.drew := h.heap rfl
theorem next_sound (h : Sim base μ H w) {it r n : Nat} {seen : Array Nat} {es : List (List Int × Value)} (hi : H.ob it = some (.it r n seen)) (ho : H.ob r = some (.mp es)) (hn : n = es.length) (ty : TypeId) :
    (∃ (i : Nat) (e : List Int × Value) (w' : World), es[i]? = some e ∧ i ∉ seen.toList ∧ (Instr.next (.pointer (some ⟨it, 0, none⟩)) false ty).run P w = .ok (.tuple #[.bool true, kv e.1, e.2]) w' ∧ Sim base μ (H.setOb it (.it r n (seen.push i))) w' ∧ Ext base w w') ∨
      ((∀ i, i < es.length → i ∈ seen.toList) ∧ (Instr.next (.pointer (some ⟨it, 0, none⟩)) false ty).run P w = .ok (.tuple #[.bool false]) w) := by
  subst hn
  obtain ⟨_, hw1, _⟩ := h.ob _ _ hi
  obtain ⟨_, hw2, _⟩ := h.ob _ _ ho
  rcases run_next_at (P := P) w ty it r es.length es.length seen (entsFrom 0 es).toArray es.length hw1 hw2 (fun x hx => by
    obtain ⟨i, e, he, rfl⟩ := ents_mem (by simpa using hx)
    exact (List.getElem?_eq_some_iff.1 he).1) (Nat.le_refl _) with ⟨h1, h2⟩ | ⟨x, hx, w1, hw, h2⟩
  · refine .inr ⟨fun i hi => ?_, h2⟩
    rcases Classical.em (i ∈ seen.toList) with hs | hs
    · exact hs
    · exfalso
      have hx : (⟨kv es[i].1, es[i].2, 0 + i⟩ : MapEntry) ∈ (entsFrom 0 es) := List.mem_of_getElem? (i := i) (by rw [ents_get, List.getElem?_eq_getElem hi]; rfl)
      have : (⟨kv es[i].1, es[i].2, 0 + i⟩ : MapEntry) ∈ (leftOf (entsFrom 0 es).toArray seen).toList := by
        simp only [leftOf, Array.toList_filter, List.mem_filter]
        refine ⟨hx, ?_⟩
        simpa [Array.contains_iff_mem] using hs
      rw [← Array.length_toList] at h1
      rw [List.length_eq_zero_iff.1 h1] at this
      cases this
  · refine .inl ?_
    simp only [leftOf, Array.toList_filter, List.mem_filter] at hx
    obtain ⟨i, e, he, rfl⟩ := ents_mem hx.1
    have hs : Sim base μ H w1 := by rcases hw with rfl | rfl; exact h; exact h.drew
    have he1 : Ext base w w1 := by
      rcases hw with rfl | rfl
      · exact Ext.refl _ _
      · exact Ext.drew base w
    obtain ⟨s1, s2⟩ := hs.setOb hi (o2 := .it r es.length (seen.push i)) trivial
    refine ⟨i, e, _, he, ?_, h2, s1, he1.trans s2⟩
    have := hx.2
    simpa [Array.contains_iff_mem] using this
theorem entry_sound (h : Sim base μ H w) {it r n i : Nat} {seen : Array Nat} {es : List (List Int × Value)} {e : List Int × Value} (hi : H.ob it = some (.it r n (seen.push i))) (ho : H.ob r = some (.mp es)) (hn : n = es.length) (he : es[i]? = some e) :
    (Instr.entry (.pointer (some ⟨it, 0, none⟩))).run P w = .ok (.tuple #[kv e.1, e.2]) w := by
  subst hn
  obtain ⟨_, hw1, _⟩ := h.ob _ _ hi
  obtain ⟨_, hw2, _⟩ := h.ob _ _ ho
  have hx : (⟨kv e.1, e.2, 0 + i⟩ : MapEntry) ∈ (entsFrom 0 es) := List.mem_of_getElem? (i := i) (by rw [ents_get, he]; rfl)
  have hb : ∀ (es : List (List Int × Value)) (a : Nat), (entsFrom a es).map (·.born) = List.range' a es.length := by
    intro es
    induction es with
    | nil => intro a; rfl
    | cons e es ih => intro a; simp only [entsFrom, List.map_cons, List.length_cons, List.range'_succ, ih]
  exact run_entry_at (P := P) w it r es.length seen (entsFrom 0 es).toArray es.length ⟨kv e.1, e.2, i⟩ hw1 hw2 (by simpa using hx) (by rw [show (entsFrom 0 es).toArray.toList = entsFrom 0 es from rfl, hb]; exact List.nodup_range')
end sound
end Go.Abs
