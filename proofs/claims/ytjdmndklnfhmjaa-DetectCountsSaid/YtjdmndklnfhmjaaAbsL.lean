/- Regions whose order is drawn: one order serves for all. -/
import Derived.Test.YtjdmndklnfhmjaaAbsK
set_option linter.unusedVariables false
set_option linter.unusedSimpArgs false
set_option linter.unusedSectionVars false
namespace Go.Abs
open Go.RowKit

/-- Is the operation carried out? (none: this cannot be told.) -/
def wantedA (ops : Array Oper) (o : Oper) (env : Env) : Option Bool :=
  match o.guard with
  | none => some true
  | some (j, want) =>
    match (ops[j]?).bind (·.dst) with
    | none => none
    | some d =>
      match env.get d with
      | none => none
      | some (.bool b) => some (b == want)
      | some _ => some false

section
variable {P : Program} {ops : Array Oper} {env env' : Env} {H H' : Hp}

theorem astep_iff {o : Oper} {K : Env → Hp → Prop} : astep P ops o K env H ↔ ∃ b, wantedA ops o env = some b ∧ condP b (aopc P o (fun v H' => K (env.put o.dst v) H') env H) (K (env.put o.dst undef) H) := by
  unfold astep wantedA
  cases hg : o.guard with
  | none => simp [condP]
  | some p =>
    obtain ⟨j, want⟩ := p
    simp only
    cases hd : (ops[j]?).bind (·.dst) with
    | none => simp
    | some d =>
      simp only
      cases he : env.get d with
      | none => simp
      | some v => cases v <;> simp [condP]

/-- A step of a region that draws: a call must leave what lay there. -/
def astepD (P : Program) (ops : Array Oper) (o : Oper) (K : Env → Hp → Prop) (env : Env) (H : Hp) : Prop :=
  ∃ b, wantedA ops o env = some b ∧ condP b (aopc P o (fun v H' => (opCall o.op = true → Grows H H') ∧ K (env.put o.dst v) H') env H) (K (env.put o.dst undef) H)
theorem astepD.step {o : Oper} {K : Env → Hp → Prop} (h : astepD P ops o K env H) : astep P ops o K env H := by
  obtain ⟨b, h1, h2⟩ := h
  exact astep_iff.2 ⟨b, h1, fun hb => aopc_mono (fun _ _ h => h.2) (h2.1 hb), h2.2⟩
theorem astepD_mono {o : Oper} {K K' : Env → Hp → Prop} (hk : ∀ e H, K e H → K' e H) (h : astepD P ops o K env H) : astepD P ops o K' env H := by
  obtain ⟨b, h1, h2⟩ := h
  exact ⟨b, h1, fun hb => aopc_mono (fun _ _ h => ⟨h.1, hk _ _ h.2⟩) (h2.1 hb), fun hb => hk _ _ (h2.2 hb)⟩

/-- The same values under the same names. -/
def Env.eqv (e e' : Env) : Prop := ∀ t, e.get t = e'.get t
theorem Env.eqv.refl (e : Env) : e.eqv e := fun _ => rfl
theorem Env.eqv.symm {e e' : Env} (h : e.eqv e') : e'.eqv e := fun t => (h t).symm
theorem Env.eqv.trans {a b c : Env} (h : a.eqv b) (k : b.eqv c) : a.eqv c := fun t => (h t).trans (k t)
theorem get_put (e : Env) (d : Option Tmp) (v : Value) (t : Nat) : (e.put d v).get t = if d = some t then some v else e.get t := by
  cases d with
  | none => simp [Env.put]
  | some d => simp only [Env.put, Env.get, Option.some.injEq]
theorem Env.eqv.put {e e' : Env} (h : e.eqv e') (d : Option Tmp) (v : Value) : (e.put d v).eqv (e'.put d v) := fun t => by rw [get_put, get_put, h t]
theorem put_comm (e : Env) {d d' : Option Tmp} (h : ∀ t, d = some t → d' ≠ some t) (v v' : Value) : ((e.put d v).put d' v').eqv ((e.put d' v').put d v) := fun t => by
  simp only [get_put]
  by_cases h1 : d = some t
  · rw [if_neg (h t h1), if_pos h1, if_pos h1]
  · simp [h1]
theorem aev_eqv {e e' : Env} (h : e.eqv e') (x : Operand) : aev e x = aev e' x := by cases x <;> simp only [aev]; exact h _
theorem aev_put {e : Env} {d : Option Tmp} {v : Value} {x : Operand} (h : ∀ t, d = some t → x ≠ .tmp t) : aev (e.put d v) x = aev e x := by
  cases x <;> simp only [aev]
  rename_i t
  rw [get_put, if_neg (fun hd => h t hd rfl)]
theorem wantedA_eqv {e e' : Env} (h : e.eqv e') (o : Oper) : wantedA ops o e = wantedA ops o e' := by
  unfold wantedA
  cases o.guard with
  | none => rfl
  | some p => simp only; cases (ops[p.1]?).bind (·.dst) with
    | none => rfl
    | some d => simp only; rw [h d]
theorem looksAt_operand {o : Oper} {t : Tmp} (h : .tmp t ∈ o.op.operands) : t ∈ o.looksAt ops :=
  List.mem_append_left _ (List.mem_filterMap.2 ⟨.tmp t, by simpa using h, rfl⟩)
theorem wantedA_put {e : Env} {o : Oper} {d : Option Tmp} {v : Value} (h : ∀ t, d = some t → t ∉ o.looksAt ops) : wantedA ops o (e.put d v) = wantedA ops o e := by
  unfold wantedA
  cases hg : o.guard with
  | none => rfl
  | some p =>
    simp only
    cases hd : (ops[p.1]?).bind (·.dst) with
    | none => rfl
    | some g =>
      simp only
      rw [get_put, if_neg]
      intro hdg
      refine h g hdg (List.mem_append_right _ ?_)
      rw [hg]
      simp [hd]

def Resp (K : Env → Hp → Prop) : Prop := ∀ e e' H, Env.eqv e e' → K e H → K e' H
theorem astepD_resp {o : Oper} {K : Env → Hp → Prop} (hK : Resp K) : Resp (astepD P ops o K) := by
  intro e e' H he ⟨b, h1, h2⟩
  refine ⟨b, by rw [← wantedA_eqv he]; exact h1, fun hb => ?_, fun hb => hK _ _ _ (he.put _ _) (h2.2 hb)⟩
  have := aopc_mono (K' := fun v H' => (opCall o.op = true → Grows H H') ∧ K (e'.put o.dst v) H') (fun v H' h => ⟨h.1, hK _ _ _ (he.put _ _) h.2⟩) (h2.1 hb)
  rwa [aopc_congr (fun x _ => aev_eqv he x)] at this

/-- Whatever order is drawn from here on. -/
def aAny (P : Program) (ops : Array Oper) (K : Env → Hp → Prop) : Nat → Array Bool → Env → Hp → Prop
  | 0, listed, env, H => WfH H → Region.ready .any ops listed = [] ∧ K env H
  | f + 1, listed, env, H => WfH H → (Region.ready .any ops listed = [] → K env H) ∧ ∀ i ∈ Region.ready .any ops listed, ∃ o, ops[i]? = some o ∧ astepD P ops o (aAny P ops K f (listed.setIfInBounds i true)) env H
theorem aAny_resp {K : Env → Hp → Prop} (hK : Resp K) : ∀ (f : Nat) (listed : Array Bool), Resp (aAny P ops K f listed)
  | 0, listed => fun e e' H he h hw => ⟨(h hw).1, hK _ _ _ he (h hw).2⟩
  | f + 1, listed => fun e e' H he h hw => ⟨fun h0 => hK _ _ _ he ((h hw).1 h0), fun i hi =>
      let ⟨o, h1, h2⟩ := (h hw).2 i hi
      ⟨o, h1, astepD_resp (aAny_resp hK f _) _ _ _ he h2⟩⟩

theorem aAny_sound {N : Nat} {r : Option Nat} {K : Env → Hp → Prop} (hops : ops.toList.all (dstOk N) = true) {base : Nat} {μ0 : Mu} {w0 : World} {Q' : Exit → Act → World → Prop}
    (hK : ∀ env' H' ν a' w', K env' H' → St base μ0 w0 N ν env' H' a' w' → Q' .normal a' w') :
    ∀ (f : Nat) (listed : Array Bool) (env : Env) (H : Hp) (μ : Mu) (a : Act) (w : World), aAny P ops K f listed env H → St base μ0 w0 N μ env H a w → wpAnyIn (FW r) 0 P .any ops Q' f listed a w
  | 0, listed, env, H, μ, a, w, h, hst => ⟨(h hst.sim.wf).1, hK _ _ μ _ _ (h hst.sim.wf).2 hst⟩
  | f + 1, listed, env, H, μ, a, w, h, hst => by
    obtain ⟨h1, h2⟩ := h hst.sim.wf
    refine ⟨fun h0 => hK _ _ μ _ _ (h1 h0) hst, fun i hi => ?_⟩
    obtain ⟨o, ho, h3⟩ := h2 i hi
    have hd : dstOk N o = true := List.all_eq_true.1 hops o (List.mem_of_getElem? (l := ops.toList) (i := i) (by simpa using ho))
    exact astep_sound ho hd h3.step hst (fun env' H' ν a' w' hk hs => aAny_sound hops hK f _ env' H' ν a' w' hk hs)

/-- In this frame, and in every memory that has grown out of this one (or in every one), the operation leaves v. -/
def YieldsA (P : Program) (ops : Array Oper) (o : Oper) (v : Value) (env : Env) (H : Hp) : Prop :=
  (wantedA ops o env = some true ∧ ∀ H', (opPure o.op = true ∨ Grows H H') → aop P o env H' = some (v, H')) ∨ (wantedA ops o env = some false ∧ v = undef)
theorem YieldsA.grows {o : Oper} {v : Value} (h : YieldsA P ops o v env H) (hg : opPure o.op = true ∨ Grows H H' ∨ wantedA ops o env = some false) : YieldsA P ops o v env H' := by
  rcases h with ⟨h1, h2⟩ | h
  · refine .inl ⟨h1, fun H2 hh => h2 H2 ?_⟩
    rcases hg with hg | hg | hg
    · exact .inl hg
    · rcases hh with hh | hh
      · exact .inl hh
      · exact .inr (hg.trans hh)
    · rw [h1] at hg; cases hg
  · exact .inr h
theorem YieldsA.put {oi oj : Oper} {v u : Value} (h : YieldsA P ops oi v env H) (hap : ∀ d, oj.dst = some d → d ∉ oi.looksAt ops) : YieldsA P ops oi v (env.put oj.dst u) H := by
  unfold YieldsA at h ⊢
  rw [wantedA_put hap]
  have e : ∀ H', aop P oi (env.put oj.dst u) H' = aop P oi env H' := fun H' => aop_congr (fun x hx => aev_put (fun t ht hxt => hap t ht (looksAt_operand (by rw [← hxt]; exact hx))))
  simp only [e]
  exact h
theorem not_call {o : Op} (h : opPure o = true ∨ opRead o = true) : opCall o = false := by
  rcases h with h | h <;> cases o <;> simp_all [opPure, opRead, opCall]
  rename_i c
  obtain ⟨callee, args, ts⟩ := c
  cases callee <;> simp_all
theorem aopc_plain {o : Oper} {K : Value → Hp → Prop} (h : opCall o.op = false) : aopc P o K env H ↔ optP (aop P o env H) K := by
  unfold aopc
  cases hop : o.op
  case call c =>
    rw [hop] at h
    obtain ⟨callee, args, ts⟩ := c
    cases callee with
    | value f => simp [opCall] at h
    | invoke f m => simp only [aop, hop, optP]
    | builtin b => rfl
  case makeMap t r => rw [hop] at h; cases r <;> first | rfl | cases h
  case range t x => rw [hop] at h; cases h
  case next x b => rw [hop] at h; cases b <;> first | rfl | cases h
  case entry x => rw [hop] at h; cases h
  all_goals rfl

theorem YieldsA.step {o : Oper} {v : Value} {K : Env → Hp → Prop} (hq : opPure o.op = true ∨ opRead o.op = true) (h : YieldsA P ops o v env H) (hk : K (env.put o.dst v) H) : astepD P ops o K env H := by
  rcases h with ⟨h1, h2⟩ | ⟨h1, rfl⟩
  · refine ⟨true, h1, fun _ => ?_, fun hb => by cases hb⟩
    rw [aopc_plain (not_call hq), h2 H (.inr (Grows.refl H))]
    exact ⟨(fun hc => by rw [not_call hq] at hc; cases hc), hk⟩
  · exact ⟨false, h1, (fun hb => by cases hb), fun _ => hk⟩
theorem yieldsA_of_step {o : Oper} {K : Env → Hp → Prop} (hw : WfH H) (hq : opPure o.op = true ∨ opRead o.op = true) (h : astepD P ops o K env H) : ∃ v, YieldsA P ops o v env H ∧ K (env.put o.dst v) H := by
  obtain ⟨b, h1, h2⟩ := h
  cases b with
  | false => exact ⟨undef, .inr ⟨h1, rfl⟩, h2.2 rfl⟩
  | true =>
    have h3 := h2.1 rfl
    rw [aopc_plain (not_call hq)] at h3
    cases ho : aop P o env H with
    | none => simp [ho, optP] at h3
    | some x =>
      obtain ⟨v, H2⟩ := x
      simp only [ho, optP] at h3
      rcases hq with hq | hq
      · obtain ⟨q1, q2⟩ := aop_pure hq ho
        simp only at q1
        subst q1
        exact ⟨v, .inl ⟨h1, fun H' _ => q2 H'⟩, h3.2⟩
      · obtain ⟨q1, q2⟩ := aop_read hw hq ho
        simp only at q1
        subst q1
        refine ⟨v, .inl ⟨h1, fun H' hh => q2 H' (hh.resolve_left ?_)⟩, h3.2⟩
        cases hop : o.op <;> simp_all [opRead, opPure]

/-- Operation j, apart from operation i: whether i's value is there already makes no difference to it, and it makes none to i. -/
theorem astepD_put {oi oj : Oper} {v : Value} {K : Env → Hp → Prop} (hw : WfH H) (hap : oi.apart ops oj = true) (hg : opPure oi.op = true ∨ opGrow oj.op = true ∨ wantedA ops oi env = some false) (hK : Resp K) (hy : YieldsA P ops oi v env H)
    (h : astepD P ops oj K (env.put oi.dst v) H) : astepD P ops oj (fun e' H' => YieldsA P ops oi v e' H' ∧ K (e'.put oi.dst v) H') env H := by
  obtain ⟨h1, h2, h3⟩ := Oper.apart_spec hap
  obtain ⟨b, hb, hc⟩ := h
  rw [wantedA_put h1] at hb
  have hcomm : ∀ u, ((env.put oi.dst v).put oj.dst u).eqv ((env.put oj.dst u).put oi.dst v) := fun u => put_comm env (fun t ht => h2 t ht) v u
  refine ⟨b, hb, fun hbt => ?_, fun hbf => ⟨hy.put h3, hK _ _ _ (hcomm undef) (hc.2 hbf)⟩⟩
  have h4 := hc.1 hbt
  rw [aopc_congr (env' := env) (fun x hx => aev_put (fun t ht hxt => h1 t ht (looksAt_operand (by rw [← hxt]; exact hx))))] at h4
  -- what the memory has become
  have fin : ∀ u H', ((opCall oj.op = true → Grows H H') ∧ K ((env.put oi.dst v).put oj.dst u) H') → (opPure oi.op = true ∨ Grows H H' ∨ wantedA ops oi env = some false) →
      ((opCall oj.op = true → Grows H H') ∧ YieldsA P ops oi v (env.put oj.dst u) H' ∧ K ((env.put oj.dst u).put oi.dst v) H') :=
    fun u H' hh hgr => ⟨hh.1, (hy.grows hgr).put h3, hK _ _ _ (hcomm u) hh.2⟩
  by_cases hcall : opCall oj.op = true
  · exact aopc_mono (fun u H' hh => fin u H' hh (.inr (.inl (hh.1 hcall)))) h4
  · have hcf : opCall oj.op = false := by simpa using hcall
    rw [aopc_plain hcf] at h4 ⊢
    cases ho : aop P oj env H with
    | none => simp [ho, optP] at h4
    | some x =>
      obtain ⟨u, H'⟩ := x
      simp only [ho, optP] at h4 ⊢
      refine fin u H' h4 ?_
      rcases hg with hg | hg | hg
      · exact .inl hg
      · simp only [opGrow, Bool.or_eq_true, hcf, Bool.false_eq_true, or_false] at hg
        rcases hg with (hg | hg) | hg
        · exact .inr (.inl ((aop_pure hg ho).1 ▸ Grows.refl H))
        · exact .inr (.inl ((aop_read hw hg ho).1 ▸ Grows.refl H))
        · exact .inr (.inl (aop_new hg ho))
      · exact .inr (.inr hg)

/-- j hangs on i. -/
def dep (ops : Array Oper) : Nat → Nat → Nat → Bool
  | 0, _, _ => false
  | f + 1, j, i => match ops[j]? with
    | some o => o.after.any fun e => Region.binds .any e && (e.on == i || dep ops f e.on i)
    | none => false
def Closed (ops : Array Oper) (listed : Array Bool) : Prop := ∀ j oj, ops[j]? = some oj → listed.getD j false = true → ∀ e ∈ oj.after, Region.binds .any e = true → listed.getD e.on false = true
theorem dep_listed {listed : Array Bool} (hc : Closed ops listed) : ∀ (f j i : Nat) (oj : Oper), ops[j]? = some oj → (∀ e ∈ oj.after, Region.binds .any e = true → listed.getD e.on false = true) → dep ops f j i = true → listed.getD i false = true
  | 0, _, _, _, _, _, h => by simp [dep] at h
  | f + 1, j, i, oj, hj, hall, h => by
    simp only [dep, hj] at h
    obtain ⟨e, he, hb⟩ := Array.any_eq_true'.1 h
    simp only [Bool.and_eq_true, Bool.or_eq_true, beq_iff_eq] at hb
    have hl := hall e he hb.1
    rcases hb.2 with hb2 | hb2
    · rw [← hb2]; exact hl
    · cases ho : ops[e.on]? with
      | none => cases f <;> simp [dep, ho] at hb2
      | some o => exact dep_listed hc f e.on i o ho (hc e.on o ho hl) hb2
theorem Closed.set {listed : Array Bool} (hc : Closed ops listed) {i : Nat} (hi : i ∈ Region.ready .any ops listed) : Closed ops (listed.setIfInBounds i true) := by
  obtain ⟨_, oi, hoi, hall⟩ := mem_ready.1 hi
  intro j oj hj hl e he hb
  by_cases hij : i = j
  · subst hij
    obtain rfl : oj = oi := Option.some.inj (hj.symm.trans hoi)
    exact getD_set_true (hall e he hb)
  · rw [getD_set_ne false hij] at hl
    exact getD_set_true (hc j oj hj hl e he hb)

def FreeD (ops : Array Oper) (f : Nat) (listed : Array Bool) (i : Nat) (oi : Oper) : Prop :=
  ∀ j oj, ops[j]? = some oj → j ≠ i → listed.getD j true = false → dep ops f j i = true ∨ (oi.apart ops oj = true ∧ (opPure oi.op = true ∨ opGrow oj.op = true))

theorem getD_both' {listed : Array Bool} {i : Nat} (h : listed.getD i true = false) : listed.getD i false = false := by
  rcases Nat.lt_or_ge i listed.size with h' | h'
  · simp [h'] at h ⊢; exact h
  · simp [Array.getElem?_eq_none h'] at h

/-- A quiet operation that may come up now may be taken first. -/
theorem aAny_first {K : Env → Hp → Prop} (hK : Resp K) {i df : Nat} {oi : Oper} {v : Value} (hi : ops[i]? = some oi) (hq : opPure oi.op = true ∨ opRead oi.op = true) :
    ∀ (f : Nat) (listed : Array Bool) (env : Env) (H : Hp), Closed ops listed → FreeD ops df listed i oi → i ∈ Region.ready .any ops listed → YieldsA P ops oi v env H →
      aAny P ops K f (listed.setIfInBounds i true) (env.put oi.dst v) H → aAny P ops K (f + 1) listed env H := by
  intro f
  induction f with
  | zero =>
    intro listed env H hc hfree hr hy hA hw
    obtain ⟨h1, h2⟩ := hA hw
    refine ⟨fun h => (by rw [h] at hr; cases hr), fun j hj => ?_⟩
    by_cases hji : j = i
    · subst hji; exact ⟨oi, hi, hy.step hq (fun _ => ⟨h1, h2⟩)⟩
    · have := ready_mono hj hji
      rw [h1] at this
      cases this
  | succ f ih =>
    intro listed env H hc hfree hr hy hA hw
    refine ⟨fun h => (by rw [h] at hr; cases hr), fun j hj => ?_⟩
    by_cases hji : j = i
    · subst hji; exact ⟨oi, hi, hy.step hq hA⟩
    · obtain ⟨oj, hoj, h1⟩ := (hA hw).2 j (ready_mono hj hji)
      obtain ⟨hjun, oj', hoj', hall⟩ := mem_ready.1 hj
      obtain rfl : oj' = oj := Option.some.inj (hoj'.symm.trans hoj)
      have hiun := getD_both' (mem_ready.1 hr).1
      rcases hfree j oj' hoj hji hjun with hd | ⟨hap, hg⟩
      · have := dep_listed hc df j i oj' hoj hall hd
        rw [hiun] at this
        cases this
      · refine ⟨oj', hoj, ?_⟩
        have h2 := astepD_put hw hap (hg.imp_right .inl) (aAny_resp hK f _) hy h1
        refine astepD_mono (fun e' H' h3 => ?_) h2
        refine ih (listed.setIfInBounds j true) e' H' (hc.set hj) (fun k ok hk hki hun => hfree k ok hk hki ?_) (ready_mono hr (Ne.symm hji)) h3.1 ?_
        · by_cases hjk : j = k
          · subst hjk; exact hjun
          · rw [getD_set_ne true hjk] at hun; exact hun
        · rw [Array.setIfInBounds_comm _ _ hji]
          exact h3.2

/-- One order of the operations. -/
def awpD (P : Program) (ops : Array Oper) (K : Env → Hp → Prop) : List Oper → Env → Hp → Prop
  | [], env, H => K env H
  | o :: l, env, H => astepD P ops o (awpD P ops K l) env H

def quiet (o : Op) : Bool := opPure o || opRead o
def freeB (ops : Array Oper) (listed : Array Bool) (i : Nat) (oi : Oper) : Bool :=
  (List.range ops.size).all fun j => j == i || listed.getD j true || match ops[j]? with
    | some oj => dep ops ops.size j i || (oi.apart ops oj && (opPure oi.op || opGrow oj.op))
    | none => true
/-- Does this order serve? -/
def canonB (ops : Array Oper) : List Nat → Array Bool → Bool
  | [], listed => (Region.ready .any ops listed).isEmpty
  | i :: l, listed =>
    (match ops[i]? with
     | some oi => (Region.ready .any ops listed).contains i && ((Region.ready .any ops listed == [i]) || (quiet oi.op && freeB ops listed i oi))
     | none => false) && canonB ops l (listed.setIfInBounds i true)

theorem freeB_spec {listed : Array Bool} {i : Nat} {oi : Oper} (h : freeB ops listed i oi = true) : FreeD ops ops.size listed i oi := by
  intro j oj hj hne hun
  have hlt : j < ops.size := (Array.getElem?_eq_some_iff.1 hj).1
  have := List.all_eq_true.1 h j (List.mem_range.2 hlt)
  simp only [hj, hun, Bool.or_false, Bool.or_eq_true, beq_iff_eq, Bool.and_eq_true] at this
  rcases this with h1 | h1
  · exact absurd h1 hne
  · exact h1.imp id (fun h => h)

theorem canon_sound {K : Env → Hp → Prop} (hK : Resp K) : ∀ (ord : List Nat) (listed : Array Bool) (env : Env) (H : Hp), Closed ops listed → canonB ops ord listed = true → awpD P ops K (ord.filterMap (ops[·]?)) env H → aAny P ops K ord.length listed env H
  | [], listed, env, H, hc, hB, h => fun _ => ⟨by simpa [canonB] using hB, h⟩
  | i :: ord, listed, env, H, hc, hB, h => by
    simp only [canonB, Bool.and_eq_true] at hB
    obtain ⟨hB1, hB2⟩ := hB
    cases hi : ops[i]? with
    | none => simp [hi] at hB1
    | some oi =>
      simp only [hi, Bool.and_eq_true, Bool.or_eq_true] at hB1
      obtain ⟨hr, hB1⟩ := hB1
      have hr' : i ∈ Region.ready .any ops listed := by simpa using hr
      simp only [List.filterMap_cons, hi, awpD] at h
      rcases hB1 with hB1 | ⟨hq, hf⟩
      · have hone : Region.ready .any ops listed = [i] := by simpa using hB1
        intro hw
        refine ⟨(fun h0 => by rw [hone] at h0; cases h0), fun j hj => ?_⟩
        rw [hone] at hj
        obtain rfl : j = i := by simpa using hj
        exact ⟨oi, hi, astepD_mono (fun e' H' h' => canon_sound hK ord _ e' H' (hc.set hr') hB2 h') h⟩
      · intro hw
        have hq' : opPure oi.op = true ∨ opRead oi.op = true := by simpa [quiet] using hq
        obtain ⟨v, hy, hk⟩ := yieldsA_of_step hw hq' h
        exact aAny_first hK hi hq' _ listed env H hc (freeB_spec hf) hr' hy (canon_sound hK ord _ _ H (hc.set hr') hB2 hk) hw

/-- Does the frame stay what it is, whatever its names' order? -/
def eqvK (K : Env → Hp → Prop) (env : Env) (H : Hp) : Prop := ∃ e, Env.eqv e env ∧ K e H
theorem eqvK_resp (K : Env → Hp → Prop) : Resp (eqvK K) := fun _ _ _ he ⟨e, h1, h2⟩ => ⟨e, h1.trans he, h2⟩

theorem awpD_mono {K K' : Env → Hp → Prop} (hk : ∀ e H, K e H → K' e H) : ∀ (l : List Oper) (env : Env) (H : Hp), awpD P ops K l env H → awpD P ops K' l env H
  | [], _, _, h => hk _ _ h
  | _ :: l, _, _, h => astepD_mono (fun e H h => awpD_mono hk l e H h) h

theorem AWP_draw {N n0 : Nat} {r : Option Nat} {Q : Exit → Env → Hp → Prop} {id : Nat} (ord : List Nat) (hm : P.follows .mixedOrders = true) (hB : canonB ops ord (Array.replicate ops.size false) = true) (hlen : ord.length = ops.size)
    (h : awpD P ops (Q .normal) (ord.filterMap (ops[·]?)) env H) : AWP P N n0 r (.region id ops true) Q env H := by
  intro hok base μ0 w0 hdom μ a w hst
  refine wpIn_region_any hm ?_
  have hst' : St base μ0 w0 N μ env H a { w with drawn := w.drawn + 1 } := ⟨hst.le, hst.sim.heap rfl, hst.env, hst.size, hst.marks.ext (Ext.drew base w), hst.ext.trans (Ext.drew base w)⟩
  have hclosed : Closed ops (Array.replicate ops.size false) := fun j oj hj hl => by
    have : (Array.replicate ops.size false).getD j false = false := by
      rcases Nat.lt_or_ge j ops.size with h | h
      · simp [h]
      · simp [h]
    rw [this] at hl
    cases hl
  have := canon_sound (P := P) (eqvK_resp (Q .normal)) ord _ env H hclosed hB (awpD_mono (fun e H h => ⟨e, Env.eqv.refl e, h⟩) _ _ _ h)
  rw [hlen] at this
  refine aAny_sound hok (fun env' H' ν a' w' hk hs => ?_) _ _ env H μ a _ this hst'
  obtain ⟨e, he, hq⟩ := hk
  exact ⟨trivial, e, H', ν, hq, ⟨hs.le, hs.sim, fun t v hv => hs.env t v (by rw [← he t]; exact hv), hs.size, hs.marks, hs.ext⟩⟩

end
end Go.Abs
