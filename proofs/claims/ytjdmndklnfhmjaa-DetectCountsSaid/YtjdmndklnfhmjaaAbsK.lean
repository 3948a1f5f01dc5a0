/- Regions whose order is drawn: one order that serves for all. -/
import Derived.Test.YtjdmndklnfhmjaaAbsJ
set_option linter.unusedVariables false
set_option linter.unusedSimpArgs false
set_option linter.unusedSectionVars false
namespace Go.Abs
open Go.RowKit

def opPure : Op → Bool
  | .move _ => true
  | .assign _ => true
  | .pick _ _ _ => true
  | .binOp _ _ _ _ _ => true
  | .unOp _ _ _ => true
  | .convert _ _ _ => true
  | .fieldAddr _ _ _ => true
  | .field _ _ _ => true
  | .indexAddr _ _ _ => true
  | .index _ _ _ => true
  | .extract _ _ => true
  | .build _ _ => true
  | .nilCheck _ => true
  | .makeFunc _ _ _ => true
  | .call c => match c.callee with | .builtin .len => true | .builtin .min => true | .builtin .max => true | _ => false
  | _ => false
def opRead : Op → Bool
  | .load _ _ => true
  | .slice _ _ _ _ _ => true
  | .lookup _ _ _ _ => true
  | _ => false
def opCall : Op → Bool
  | .call c => match c.callee with | .value _ => true | _ => false
  | .makeMap _ none => true
  | .range _ _ => true
  | .next _ false => true
  | .entry _ => true
  | _ => false
def opNew : Op → Bool
  | .alloc _ => true
  | .box _ _ => true
  | .buildSlice _ _ _ => true
  | .makeSlice _ _ _ => true
  | _ => false
def opGrow (o : Op) : Bool := opPure o || opRead o || opCall o || opNew o

/-- What lay there lies there still. -/
structure Grows (H H' : Hp) : Prop where
  next : H.next ≤ H'.next
  row : ∀ b cs own k, b < H.next → H.get b = .row cs own k → H'.get b = .row cs own k
  ob : ∀ r o, H.ob r = some o → H'.ob r = some o
theorem Grows.refl (H : Hp) : Grows H H := ⟨Nat.le_refl _, fun _ _ _ _ _ h => h, fun _ _ h => h⟩
theorem Grows.trans {a b c : Hp} (h : Grows a b) (k : Grows b c) : Grows a c :=
  ⟨Nat.le_trans h.1 k.1, fun i cs own n hi hg => k.2 i cs own n (Nat.lt_of_lt_of_le hi h.1) (h.2 i cs own n hi hg), fun r o ho => k.ob r o (h.ob r o ho)⟩
theorem Grows.setOb (H : Hp) (r : Nat) (o : MObj) (h : H.ob r = none) : Grows H (H.setOb r o) := ⟨Nat.le_refl _, fun _ _ _ _ _ h => h, fun i x hx => by rw [Hp.ob_setOb_ne _ _ _ _ (fun e => by subst e; rw [h] at hx; cases hx)]; exact hx⟩
theorem alookup_grows {P : Program} {H H' : Hp} (h : Grows H H') {mt : TypeId} {m k v : Value} {ok : Bool} (hl : alookup P H mt m k ok = some v) : alookup P H' mt m k ok = some v := by
  unfold alookup at hl ⊢
  split at hl
  · rename_i kt et r ks hu hv
    cases ho : H.ob r with
    | none => rw [ho] at hl; cases hl
    | some o => rw [h.ob r o ho]; rw [ho] at hl; exact hl
  · cases hl
theorem Grows.new (H : Hp) (b : Blk) : Grows H (H.new b) := ⟨by rw [Hp.next_new]; omega, fun i cs own k hi hg => by rw [Hp.get_new_ne _ _ _ (by omega)]; exact hg, fun _ _ h => h⟩

section
variable {P : Program} {env : Env} {H H' : Hp}

theorem aload_grows (hw : WfH H) (h : Grows H H') {a : Addr} {n : Nat} {cs : List Value} (hl : aload H a n = some cs) : aload H' a n = some cs := by
  unfold aload at hl ⊢
  cases hg : H.get a.block with
  | dead => simp [hg] at hl
  | row c own k => rw [h.2 _ _ _ _ (hw _ _ _ _ hg).1 hg]; simpa [hg] using hl
theorem aloadT_grows (hw : WfH H) (h : Grows H H') {t : TypeId} {x v : Value} (hl : aloadT P H t x = some v) : aloadT P H' t x = some v := by
  unfold aloadT at hl ⊢
  split at hl
  · rename_i a
    cases ha : tag P t with
    | none => simp [ha] at hl
    | some ag =>
      simp only [ha, Option.bind_some] at hl ⊢
      cases ag with
      | true =>
        simp only [if_true] at hl ⊢
        cases hs : tsz P t with
        | none => simp [hs] at hl
        | some n =>
          cases hc : aload H a n with
          | none => simp [hs, hc] at hl
          | some cs => simp only [hs, hc, Option.bind_some, Option.map_some] at hl ⊢; rw [aload_grows hw h hc]; exact hl
      | false =>
        simp only [Bool.false_eq_true, if_false] at hl ⊢
        cases hc : aload H a 1 with
        | none => simp [hc] at hl
        | some cs => rw [hc] at hl; rw [aload_grows hw h hc]; exact hl
  · cases hl
theorem cutOk_grows (hw : WfH H) (h : Grows H H') {b s : Nat} (hl : cutOk H b s = true) : cutOk H' b s = true := by
  unfold cutOk at hl ⊢
  cases hg : H.get b with
  | dead => simp [hg] at hl
  | row c own k => rw [h.2 _ _ _ _ (hw _ _ _ _ hg).1 hg]; rw [hg] at hl; exact hl
theorem aslice_grows (hw : WfH H) (h : Grows H H') {t : TypeId} {x v : Value} {lo hi mx : Option Value} (hl : aslice P H t x lo hi mx = some v) : aslice P H' t x lo hi mx = some v := by
  unfold aslice at hl ⊢
  split at hl
  · cases hl
  · rename_i hm
    rw [if_neg hm]
    split at hl
    · exact hl
    · rename_i a n _
      split at hl
      · rename_i e hu
        cases h1 : bnd hi n n with
        | none => simp [h1] at hl
        | some hv =>
          cases h2 : bnd lo 0 hv with
          | none => simp [h1, h2] at hl
          | some l =>
            cases h3 : tsz P e with
            | none => simp [h1, h2, h3] at hl
            | some s =>
              simp only [h1, h2, h3, Option.bind_some] at hl ⊢
              split at hl
              · rename_i hc; rw [if_pos (hc.imp id (cutOk_grows hw h))]; exact hl
              · cases hl
      · cases hl
    · exact hl
    · rename_i a
      split at hl
      · rename_i n e hu
        cases h1 : bnd hi n n with
        | none => simp [h1] at hl
        | some hv =>
          cases h2 : bnd lo 0 hv with
          | none => simp [h1, h2] at hl
          | some l =>
            cases h3 : tsz P e with
            | none => simp [h1, h2, h3] at hl
            | some s =>
              simp only [h1, h2, h3, Option.bind_some] at hl ⊢
              split at hl
              · rename_i hc; rw [if_pos (cutOk_grows hw h hc)]; exact hl
              · cases hl
      · cases hl
    · cases hl

/-- An operation that reads no memory. -/
theorem aop_pure {o : Oper} {x : Value × Hp} (hp : opPure o.op = true) (h : aop P o env H = some x) : x.2 = H ∧ ∀ H', aop P o env H' = some (x.1, H') := by
  obtain ⟨dst, op, type, pos, after, guard⟩ := o
  have one : ∀ (y : Option Value), (y.map fun v => (v, H)) = some x → x.2 = H ∧ ∀ H' : Hp, (y.map fun v => (v, H')) = some (x.1, H') := by
    intro y hy
    cases y with
    | none => cases hy
    | some v => simp only [Option.map_some, Option.some.injEq] at hy; subst hy; exact ⟨rfl, fun _ => rfl⟩
  have two : ∀ {α : Type} (y : Option α) (f : α → Hp → Option (Value × Hp)), (∀ a, f a H = some x → x.2 = H ∧ ∀ H' : Hp, f a H' = some (x.1, H')) → (y.bind fun a => f a H) = some x → x.2 = H ∧ ∀ H' : Hp, (y.bind fun a => f a H') = some (x.1, H') := by
    intro α y f hf hy
    cases y with
    | none => cases hy
    | some a => exact hf a hy
  unfold aop at h ⊢
  cases op <;> simp only [opPure] at hp <;> (try cases hp) <;> simp only at h ⊢
  case move => exact one _ h
  case assign => exact one _ h
  case pick c a b =>
    refine two _ (fun (v : Value) H => match v with | .bool t => (aev env (if t then a else b)).map fun v => (v, H) | _ => none) (fun v hv => ?_) h
    split at hv
    · exact one _ hv
    · cases hv
  case build t parts => exact two _ (fun l H => (abuild P t l).map fun v => (v, H)) (fun l hl => one _ hl) h
  case nilCheck y =>
    refine two _ (fun (v : Value) H => match v with | .pointer (some a) => some (.pointer (some a), H) | .func (.func f) a b => some (.func (.func f) a b, H) | .slice a n c => some (.slice a n c, H) | _ => none) (fun v hv => ?_) h
    split at hv <;> first | (cases hv; done) | (injection hv with hv; subst hv; exact ⟨rfl, fun _ => rfl⟩)
  case binOp op t a b t2 => exact two _ (fun va H => (aev env b).bind fun vb => (abin P op t va vb).map fun v => (v, H)) (fun va hv => two _ (fun vb H => (abin P op t va vb).map fun v => (v, H)) (fun vb hv => one _ hv) hv) h
  case unOp op t a => exact two _ (fun va H => (aun op va).map fun v => (v, H)) (fun va hv => one _ hv) h
  case convert s t a => exact two _ (fun va H => (aconv P s t va).map fun v => (v, H)) (fun va hv => one _ hv) h
  case makeFunc fn a b => exact two _ (fun (va : List Value) H => (aevs env b.toList).map fun b => (Value.func fn va.toArray b.toArray, H)) (fun va hv => by
    cases hb : aevs env b.toList with
    | none => simp [hb] at hv
    | some m => simp only [hb, Option.map_some, Option.some.injEq] at hv; subst hv; exact ⟨rfl, fun _ => rfl⟩) h
  case fieldAddr s a f => exact two _ (fun va H => (afieldAddr P s va f).map fun v => (v, H)) (fun va hv => one _ hv) h
  case field t a f => exact two _ (fun va H => (afield P t va f).map fun v => (v, H)) (fun va hv => one _ hv) h
  case indexAddr t a b => exact two _ (fun va H => (aev env b).bind fun vb => (aindexAddr P t va vb).map fun v => (v, H)) (fun va hv => two _ (fun vb H => (aindexAddr P t va vb).map fun v => (v, H)) (fun vb hv => one _ hv) hv) h
  case index t a b => exact two _ (fun va H => (aev env b).bind fun vb => (aindex P t va vb).map fun v => (v, H)) (fun va hv => two _ (fun vb H => (aindex P t va vb).map fun v => (v, H)) (fun vb hv => one _ hv) hv) h
  case extract a i =>
    refine two _ (fun (v : Value) H => match v with | .tuple vs => (vs[i]?).map fun v => (v, H) | _ => none) (fun v hv => ?_) h
    split at hv
    · exact one _ hv
    · cases hv
  case call c =>
    obtain ⟨callee, args, argTypes⟩ := c
    cases callee with
    | value f => cases hp
    | invoke f m => cases hp
    | builtin b =>
      simp only at h ⊢
      refine two _ (fun l H => abuiltin P H b argTypes.toList l) (fun l hl => ?_) h
      unfold abuiltin at hl ⊢
      cases b <;> (try (exact absurd hp Bool.false_ne_true))
      case len =>
        split at hl <;> first
          | (cases hl; done)
          | (split at hl
             · exact one _ hl
             · cases hl)
          | (exfalso; simp_all; done)
      case max =>
        cases l with
        | nil => exact one _ hl
        | cons a l => cases l with
          | nil => exact one _ hl
          | cons b l => cases l <;> exact one _ hl
      case min =>
        cases l with
        | nil => exact one _ hl
        | cons a l => cases l with
          | nil => exact one _ hl
          | cons b l => cases l <;> exact one _ hl


theorem aop_read (hw : WfH H) {o : Oper} {x : Value × Hp} (hp : opRead o.op = true) (h : aop P o env H = some x) : x.2 = H ∧ ∀ H', Grows H H' → aop P o env H' = some (x.1, H') := by
  obtain ⟨dst, op, type, pos, after, guard⟩ := o
  unfold aop at h ⊢
  cases op <;> (try (exact absurd hp Bool.false_ne_true)) <;> simp only at h ⊢
  case load t y =>
    cases hy : aev env y with
    | none => simp [hy] at h
    | some vy =>
      simp only [hy, Option.bind_some] at h ⊢
      cases hl : aloadT P H t vy with
      | none => simp [hl] at h
      | some v =>
        simp only [hl, Option.map_some, Option.some.injEq] at h
        subst h
        exact ⟨rfl, fun H' hg => by rw [aloadT_grows hw hg hl]; rfl⟩
  case lookup t y z ok =>
    cases hy : aev env y with
    | none => simp [hy] at h
    | some vy =>
      cases hz : aev env z with
      | none => simp [hy, hz] at h
      | some vz =>
        simp only [hy, hz, Option.bind_some] at h ⊢
        cases hl : alookup P H t vy vz ok with
        | none => simp [hl] at h
        | some v =>
          simp only [hl, Option.map_some, Option.some.injEq] at h
          subst h
          exact ⟨rfl, fun H' hg => by rw [alookup_grows hg hl]; rfl⟩
  case slice t y lo hi mx =>
    cases hy : aev env y with
    | none => simp [hy] at h
    | some vy =>
      cases h1 : aevo env lo with
      | none => simp [hy, h1] at h
      | some l =>
        cases h2 : aevo env hi with
        | none => simp [hy, h1, h2] at h
        | some hh =>
          cases h3 : aevo env mx with
          | none => simp [hy, h1, h2, h3] at h
          | some m =>
            simp only [hy, h1, h2, h3, Option.bind_some] at h ⊢
            cases hs : aslice P H t vy l hh m with
            | none => simp [hs] at h
            | some v =>
              simp only [hs, Option.map_some, Option.some.injEq] at h
              subst h
              exact ⟨rfl, fun H' hg => by rw [aslice_grows hw hg hs]; rfl⟩

theorem aop_new {o : Oper} {x : Value × Hp} (hp : opNew o.op = true) (h : aop P o env H = some x) : Grows H x.2 := by
  obtain ⟨dst, op, type, pos, after, guard⟩ := o
  have hnew : ∀ {cs : List Value} {k : Nat}, anew H cs k = some x → Grows H x.2 := by
    intro cs k h
    unfold anew at h
    split at h
    · injection h with h; subst h; exact Grows.new _ _
    · cases h
  unfold aop at h
  cases op <;> (try (exact absurd hp Bool.false_ne_true)) <;> simp only at h
  case alloc t =>
    cases hz : tzero P t with
    | none => simp [hz] at h
    | some z => simp only [hz, Option.bind_some] at h; exact hnew h
  case box t y =>
    cases hy : aev env y with
    | none => simp [hy] at h
    | some v => simp only [hy, Option.bind_some] at h; exact hnew h
  case buildSlice t len parts =>
    cases hl : aparts env parts.toList with
    | none => simp [hl] at h
    | some l =>
      simp only [hl, Option.bind_some] at h
      unfold abuildSlice at h
      split at h
      · rename_i e hu
        cases hs : tsz P e with
        | none => simp [hs] at h
        | some s =>
          cases hz : tzero P e with
          | none => simp [hs, hz] at h
          | some z =>
            simp only [hs, hz, Option.bind_some] at h
            split at h
            · cases hf : afill (fun i => some (i * s, s)) (zrow z.cells.toList len) l with
              | none => simp [hf] at h
              | some cs =>
                simp only [hf, Option.bind_some] at h
                split at h
                · injection h with h; subst h; exact Grows.new _ _
                · cases h
            · cases h
      · cases h
  case makeSlice t y z =>
    cases hy : aev env y with
    | none => simp [hy] at h
    | some vy =>
      cases hz : aev env z with
      | none => simp [hy, hz] at h
      | some vz =>
        simp only [hy, hz, Option.bind_some] at h
        unfold amakeSlice at h
        split at h
        · split at h
          · rename_i e hu
            cases hs : tsz P e with
            | none => simp [hs] at h
            | some s =>
              cases hb : tbytes P e with
              | none => simp [hs, hb] at h
              | some b =>
                cases hz : tzero P e with
                | none => simp [hs, hb, hz] at h
                | some z =>
                  simp only [hs, hb, hz, Option.bind_some] at h
                  split at h
                  · injection h with h; subst h; exact Grows.new _ _
                  · cases h
          · cases h
        · cases h

/-! ### what an operation looks at -/
theorem aevs_congr {env env' : Env} : ∀ {l : List Operand}, (∀ x ∈ l, aev env x = aev env' x) → aevs env l = aevs env' l
  | [], _ => rfl
  | x :: l, h => by simp only [aevs]; rw [h x (by simp), aevs_congr (fun y hy => h y (by simp [hy]))]
theorem aparts_congr {env env' : Env} : ∀ {l : List (Nat × Operand)}, (∀ x ∈ l.map (·.2), aev env x = aev env' x) → aparts env l = aparts env' l
  | [], _ => rfl
  | (i, x) :: l, h => by simp only [aparts]; rw [h x (by simp), aparts_congr (fun y hy => h y (by simp at hy ⊢; exact .inr hy))]
theorem aevo_congr {env env' : Env} {x : Option Operand} (h : ∀ y, x = some y → aev env y = aev env' y) : aevo env x = aevo env' x := by
  cases x with
  | none => rfl
  | some y => simp only [aevo]; rw [h y rfl]

theorem aop_congr {env env' : Env} {o : Oper} (h : ∀ x ∈ o.op.operands, aev env x = aev env' x) : aop P o env H = aop P o env' H := by
  obtain ⟨dst, op, type, pos, after, guard⟩ := o
  unfold aop
  cases op <;> simp only [Op.operands] at h ⊢
  case move x => rw [h x (by simp)]
  case assign x => rw [h x (by simp)]
  case pick c a b =>
    rw [h c (by simp)]
    congr 1
    funext v
    cases v <;> simp only
    rename_i t
    cases t
    · simp only [Bool.false_eq_true, if_false]; rw [h b (by simp)]
    · simp only [if_true]; rw [h a (by simp)]
  case box t x => rw [h x (by simp)]
  case build t parts => rw [aparts_congr (fun x hx => h x (by simpa using hx))]
  case buildSlice t n parts => rw [aparts_congr (fun x hx => h x (by simpa using hx))]
  case load t x => rw [h x (by simp)]
  case store t x y => rw [h x (by simp), h y (by simp)]
  case nilCheck x => rw [h x (by simp)]
  case binOp op t x y t2 => rw [h x (by simp), h y (by simp)]
  case unOp op t x => rw [h x (by simp)]
  case lookup t x y ok => rw [h x (by simp), h y (by simp)]
  case mapEntry t x y => rw [h x (by simp), h y (by simp)]
  case entryStore t x y z => rw [h x (by simp), h y (by simp), h z (by simp)]
  case convert s t x => rw [h x (by simp)]
  case makeFunc fn a b => rw [aevs_congr (fun x hx => h x (by simp at hx ⊢; exact .inl hx)), aevs_congr (l := b.toList) (fun x hx => h x (by simp at hx ⊢; exact .inr hx))]
  case makeSlice t x y => rw [h x (by simp), h y (by simp)]
  case slice t x lo hi mx => rw [h x (by simp), aevo_congr (x := lo) (fun y hy => h y (by simp [hy])), aevo_congr (x := hi) (fun y hy => h y (by simp [hy])), aevo_congr (x := mx) (fun y hy => h y (by simp [hy]))]
  case fieldAddr s x f => rw [h x (by simp)]
  case field t x f => rw [h x (by simp)]
  case indexAddr t x i => rw [h x (by simp), h i (by simp)]
  case index t x i => rw [h x (by simp), h i (by simp)]
  case extract x i => rw [h x (by simp)]
  case call c =>
    obtain ⟨callee, args, argTypes⟩ := c
    cases callee with
    | value f => rfl
    | invoke f m => rfl
    | builtin b => simp only [Call.operands] at h; simp only; rw [aevs_congr (fun x hx => h x (by simpa using hx))]

theorem aopc_congr {env env' : Env} {o : Oper} {K : Value → Hp → Prop} (h : ∀ x ∈ o.op.operands, aev env x = aev env' x) : aopc P o K env H = aopc P o K env' H := by
  unfold aopc
  rw [aop_congr (P := P) (H := H) h]
  cases hop : o.op
  case call c =>
    rw [hop] at h
    obtain ⟨callee, args, argTypes⟩ := c
    cases callee with
    | value f =>
      simp only [Op.operands, Call.operands] at h
      simp only
      rw [h f (by simp), aevs_congr (fun x hx => h x (by simp at hx ⊢; exact .inr hx))]
    | invoke f m => rfl
    | builtin b => rfl
  case makeMap t r => cases r <;> rfl
  case range t x =>
    rw [hop] at h
    simp only [Op.operands] at h
    simp only
    rw [h x (by simp)]
  case next x b =>
    rw [hop] at h
    simp only [Op.operands] at h
    cases b
    · simp only
      rw [h x (by simp)]
    · rfl
  case entry x =>
    rw [hop] at h
    simp only [Op.operands] at h
    simp only
    rw [h x (by simp)]
  all_goals rfl

theorem aopc_mono {o : Oper} {K K' : Value → Hp → Prop} (hk : ∀ v H, K v H → K' v H) (h : aopc P o K env H) : aopc P o K' env H := by
  have ho : ∀ {x : Option (Value × Hp)}, optP x K → optP x K' := by
    intro x hx
    cases x with
    | none => exact hx
    | some p => exact hk _ _ hx
  unfold aopc at h ⊢
  split at h
  · split at h
    · split at h
      · exact h.mono hk
      · exact h
    · exact ho h
    · exact h
  · exact fun r hr => hk _ _ (h r hr)
  · obtain ⟨r, es, kt, et, h1, h2, h3, h4⟩ := h
    exact ⟨r, es, kt, et, h1, h2, h3, fun it hi => hk _ _ (h4 it hi)⟩
  · obtain ⟨it, r, seen, es, h1, h2, h3, h4, h5⟩ := h
    exact ⟨it, r, seen, es, h1, h2, h3, fun i e q1 q2 => hk _ _ (h4 i e q1 q2), fun q => hk _ _ (h5 q)⟩
  · obtain ⟨it, r, seen, i, es, e, h1, h2, h3, h4, h5⟩ := h
    exact ⟨it, r, seen, i, es, e, h1, h2, h3, h4, hk _ _ h5⟩
  · exact ho h

end
end Go.Abs
