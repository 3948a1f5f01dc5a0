/- Calls and code over the abstract memory. -/
import Derived.Test.YtjdmndklnfhmjaaAbsH
import Derived.RangeFuncLeaves
set_option linter.unusedVariables false
set_option linter.unusedSimpArgs false
set_option linter.unusedSectionVars false
namespace Go.Abs
open Go.RowKit

/-- The fence that lets everything in, in a round of loop r or in none. -/
def FW (r : Option Nat) : Fence := { fn := fun _ => True, depth := none, alive := false, round := r }
theorem callsIn_fw {r : Option Nat} {n : Nat} {P : Program} {f : FuncId} {args : Array Value} {w : World} {R : Ending → World → Prop} (h : Calls P f args w R) : CallsIn (FW r) n P f args w R :=
  show CallsIn Fence.wide n P f args w R from callsIn_wide.2 h
theorem calls_fw {r : Option Nat} {n : Nat} {P : Program} {f : FuncId} {args : Array Value} {w : World} {R : Ending → World → Prop} (h : CallsIn (FW r) n P f args w R) : Calls P f args w R :=
  callsIn_wide.1 (show CallsIn Fence.wide n P f args w R from h)

def Callable (P : Program) (f : FuncId) : Prop := ∃ fn, P.funcs[f]? = some fn ∧ (fn.name == "runtime.NumGoroutine") = false ∧ fn.body.isNone = false

/-- The call returns; Q says what, and of the abstract memory behind it. -/
def ACalls (P : Program) (f : FuncId) (args : List Value) (H : Hp) (Q : Value → Hp → Prop) : Prop :=
  Callable P f ∧ ∀ base μ w args', Sim base μ H w → VRs μ args args'.toList → Calls P f args' w (fun e w' => ∃ v v' H', e = .returned v' ∧ Q v H' ∧ Done base μ w v H' v' w')

theorem ACalls.mono {P : Program} {f : FuncId} {args : List Value} {H : Hp} {Q Q' : Value → Hp → Prop} (h : ACalls P f args H Q) (hq : ∀ v H, Q v H → Q' v H) : ACalls P f args H Q' :=
  ⟨h.1, fun base μ w args' hs ha => (h.2 base μ w args' hs ha).mono fun e w' ⟨v, v', H', he, hQ, hd⟩ => ⟨v, v', H', he, hq _ _ hQ, hd⟩⟩

/-- b: then p, else q. -/
def condP (b : Bool) (p q : Prop) : Prop := (b = true → p) ∧ (b = false → q)
theorem condP_true (p q : Prop) : condP true p q = p := by simp [condP]
theorem condP_false (p q : Prop) : condP false p q = q := by simp [condP]
def optP (x : Option (Value × Hp)) (K : Value → Hp → Prop) : Prop :=
  match x with
  | some (v, H) => K v H
  | none => False
theorem optP_some (v : Value) (H : Hp) (K : Value → Hp → Prop) : optP (some (v, H)) K = K v H := rfl

/-- One operation, calls too. -/
def aopc (P : Program) (o : Oper) (K : Value → Hp → Prop) (env : Env) (H : Hp) : Prop :=
  match o.op with
  | .call c =>
    match c.callee with
    | .value f =>
      match aev env f, aevs env c.args.toList with
      | some (.func (.func g) first cap), some as => ACalls P g (first.toList ++ as ++ cap.toList) H K
      | _, _ => False
    | .builtin _ => optP (aop P o env H) K
    | .invoke _ _ => False
  | .makeMap _ none => ∀ r, H.ob r = none → K (.map (some r)) (H.setOb r (.mp []))
  | .range mt x => ∃ (r : Nat) (es : List (List Int × Value)) (kt et : TypeId), aev env x = some (.map (some r)) ∧ P.underlying mt = some (.map kt et) ∧ H.ob r = some (.mp es) ∧ ∀ it, H.ob it = none → K (.chan (some it)) (H.setOb it (.it r es.length #[]))
  | .next x false => ∃ (it r : Nat) (seen : Array Nat) (es : List (List Int × Value)), aev env x = some (.chan (some it)) ∧ H.ob it = some (.it r es.length seen) ∧ H.ob r = some (.mp es) ∧
      (∀ (i : Nat) (e : List Int × Value), es[i]? = some e → i ∉ seen.toList → K (.tuple #[.bool true, kv e.1, e.2]) (H.setOb it (.it r es.length (seen.push i)))) ∧ ((∀ i, i < es.length → i ∈ seen.toList) → K (.tuple #[.bool false]) H)
  | .entry x => ∃ (it r : Nat) (seen : Array Nat) (i : Nat) (es : List (List Int × Value)) (e : List Int × Value), aev env x = some (.chan (some it)) ∧ H.ob it = some (.it r es.length (seen.push i)) ∧ H.ob r = some (.mp es) ∧ es[i]? = some e ∧ K (.tuple #[kv e.1, e.2]) H
  | _ => optP (aop P o env H) K

def astep (P : Program) (ops : Array Oper) (o : Oper) (K : Env → Hp → Prop) (env : Env) (H : Hp) : Prop :=
  match o.guard with
  | none => aopc P o (fun v H' => K (env.put o.dst v) H') env H
  | some (j, want) =>
    match (ops[j]?).bind (·.dst) with
    | none => False
    | some d =>
      match env.get d with
      | none => False
      | some (.bool b) => condP (b == want) (aopc P o (fun v H' => K (env.put o.dst v) H') env H) (K (env.put o.dst undef) H)
      | some _ => K (env.put o.dst undef) H

def awpOps (P : Program) (ops : Array Oper) (K : Env → Hp → Prop) : List Oper → Env → Hp → Prop
  | [], env, H => K env H
  | o :: rest, env, H => astep P ops o (awpOps P ops K rest) env H

def dstOk (N : Nat) (o : Oper) : Bool := match o.dst with | some d => decide (d < N) | none => true
/-- Every operation writes within the frame. -/
def codeOk (N : Nat) : Code → Bool
  | .region _ ops _ => ops.toList.all (dstOk N)
  | .seq a b => codeOk N a && codeOk N b
  | .cond _ a b => codeOk N a && codeOk N b
  | .block _ b => codeOk N b
  | .loop b => codeOk N b
  | .rangeFunc _ _ a b => codeOk N a && codeOk N b
  | .scope b => codeOk N b
  | _ => true

/-- The marks of outermost ranges over functions, their blocks untouched, beyond m. -/
def Marks (m : Nat) (w : World) (ds : List Deferred) : Prop :=
  ∃ rs : List Nat, rs.Nodup ∧ ds = rs.map (fun r => ({ target := .collected r, args := #[] } : Deferred)) ∧ ∀ r ∈ rs, m ≤ r ∧ w.heap[r]? = some (.deferred (some []))
theorem Marks.ext {m base : Nat} {w w' : World} {ds : List Deferred} (h : Marks m w ds) (he : Ext base w w') : Marks m w' ds := by
  obtain ⟨rs, h1, h2, h3⟩ := h
  exact ⟨rs, h1, h2, fun r hr => ⟨(h3 r hr).1, he.keep _ _ (h3 r hr).2 rfl⟩⟩

/-- The machine's state within a function stands for the abstract one. -/
structure St (base : Nat) (μ0 : Mu) (w0 : World) (N : Nat) (μ : Mu) (env : Env) (H : Hp) (a : Act) (w : World) : Prop where
  le : μ0.le μ
  sim : Sim base μ H w
  env : ERel μ env a.tmps
  size : a.tmps.size = N
  marks : Marks w0.heap.size w a.defers
  ext : Ext base w0 w

def plainExit : Exit → Prop
  | .panic _ => False
  | .outgrown => False
  | _ => True

def Post (base : Nat) (μ0 : Mu) (w0 : World) (N : Nat) (Q : Exit → Env → Hp → Prop) (e : Exit) (a : Act) (w : World) : Prop :=
  plainExit e ∧ ∃ env H μ, Q e env H ∧ St base μ0 w0 N μ env H a w

/-- The code, entered in this frame and memory, is left as Q says. -/
def AWP (P : Program) (N n0 : Nat) (r : Option Nat) (c : Code) (Q : Exit → Env → Hp → Prop) (env : Env) (H : Hp) : Prop :=
  codeOk N c = true → ∀ base μ0 w0, (∀ b e, μ0 b = some e → b < n0) → ∀ μ a w, St base μ0 w0 N μ env H a w → c.wpIn (FW r) 0 P (Post base μ0 w0 N Q) a w

section
variable {P : Program} {N n0 : Nat} {r : Option Nat} {Q : Exit → Env → Hp → Prop} {env : Env} {H : Hp}

theorem ERel.put {μ : Mu} {tmps : Array Value} (h : ERel μ env tmps) {d : Nat} (hd : d < tmps.size) {v v' : Value} (hv : VR μ v v') : ERel μ ((d, v) :: env) (tmps.setIfInBounds d v') := by
  intro t u hu
  simp only [Env.get] at hu
  split at hu
  · rename_i ht
    subst ht
    injection hu with hu
    subst hu
    exact ⟨v', by simp [hd], hv⟩
  · rename_i ht
    obtain ⟨u', h1, h2⟩ := h t u hu
    exact ⟨u', by rw [Array.getElem?_setIfInBounds_ne ht]; exact h1, h2⟩
theorem ERel.mono {μ ν : Mu} {tmps : Array Value} (hle : μ.le ν) (h : ERel μ env tmps) : ERel ν env tmps := fun t v hv =>
  let ⟨v', h1, h2⟩ := h t v hv
  ⟨v', h1, h2.mono hle⟩

theorem St.put {base : Nat} {μ0 μ ν : Mu} {w0 w w' : World} {a : Act} {H' : Hp} (h : St base μ0 w0 N μ env H a w) {o : Oper} (hd : dstOk N o = true) {v v' : Value} (hle : μ.le ν) (hv : VR ν v v') (hs : Sim base ν H' w') (he : Ext base w w') :
    St base μ0 w0 N ν (env.put o.dst v) H' (a.put o.dst v') w' := by
  refine ⟨Mu.le_trans h.le hle, hs, ?_, ?_, ?_, h.ext.trans he⟩
  · unfold dstOk at hd
    cases hdst : o.dst with
    | none => simpa [Env.put, Act.put] using h.env.mono hle
    | some d =>
      simp only [hdst, decide_eq_true_eq] at hd
      simp only [Env.put, Act.put]
      exact (h.env.mono hle).put (by rw [h.size]; exact hd) hv
  · unfold Act.put
    split
    · simpa using h.size
    · exact h.size
  · have : (a.put o.dst v').defers = a.defers := by unfold Act.put; split <;> rfl
    rw [this]
    exact h.marks.ext he

theorem semAt_eq {r : Option Nat} {ρ : Operand → Value} {o : Oper} (h : ∀ c, o.op ≠ .defer c) : o.semAt r ρ = execOp ρ o := by
  unfold Oper.semAt
  cases r with
  | none => rfl
  | some l =>
    cases ho : o.op <;> first | rfl | (exact absurd ho (h _))

theorem aop_no_defer {o : Oper} {x : Value × Hp} (h : aop P o env H = some x) : ∀ c, o.op ≠ .defer c := by
  intro c hc
  unfold aop at h
  rw [hc] at h
  cases h

theorem aopc_sound {o : Oper} {K : Value → Hp → Prop} (hd : dstOk N o = true) (h : aopc P o K env H) {base : Nat} {μ0 μ : Mu} {w0 w : World} {a : Act} (hst : St base μ0 w0 N μ env H a w) {K' : Act → World → Prop} {Q' : Exit → Act → World → Prop}
    (hK : ∀ v H' ν a' w', K v H' → St base μ0 w0 N ν (env.put o.dst v) H' a' w' → K' a' w') : o.wpIn (FW r) 0 P a w K' Q' := by
  refine ⟨fun _ _ => trivial, ?_⟩
  have viaOp : optP (aop P o env H) K → o.uponIn (FW r) 0 P a K' Q' ((o.semAt (FW r).round a.eval).run P w) := by
    intro h
    cases ho : aop P o env H with
    | none => simp [ho, optP] at h
    | some x =>
      obtain ⟨v, H'⟩ := x
      simp only [ho, optP] at h
      obtain ⟨v', w', hrun, ν, q1, q2, q3, q4⟩ := aop_sound hst.sim hst.env ho
      rw [semAt_eq (aop_no_defer ho)]
      rcases hrun with hrun | ⟨hrun, rfl⟩
      · rw [hrun]; exact hK v H' ν _ _ h (hst.put hd q1 q2 q3 q4)
      · rw [hrun]; exact hK v H' ν _ _ h (hst.put hd q1 q2 q3 q4)
  unfold aopc at h
  split at h
  · rename_i c hc
    split at h
    · rename_i f hf
      split at h
      · rename_i g first cap as h1 h2
        obtain ⟨⟨fn, hfn, hname, hbody⟩, hcall⟩ := h
        have hv := aev_sound hst.env h1
        simp only [VR] at hv
        obtain ⟨first', cap', hv, hfirst, hcap⟩ := hv
        have has := aevs_sound (a := a) hst.env h2
        have hrun : (execOp a.eval o).run P w = .ok (.enter g (first' ++ c.args.map a.eval ++ cap')) w := by
          have hn' : fn.name ≠ "runtime.NumGoroutine" := by simpa using hname
          have hb' : fn.body ≠ none := fun h => by rw [h] at hbody; cases hbody
          simp [execOp, hc, resolve, hf, hv, Deferred.ofValue, invoke, callFunc, hfn, hn', hb']
        rw [semAt_eq (by rw [hc]; intro c' h'; cases h'), hrun, Oper.uponIn_enter]
        refine ⟨(fun h => by cases h), callsIn_fw ((hcall base μ w _ hst.sim ?_).mono ?_)⟩
        · simp only [Array.toList_append, Array.toList_map]
          exact ((VRa_iff.1 hfirst).append has).append (VRa_iff.1 hcap)
        · rintro e w' ⟨v, v', H', rfl, hQ, ν, q1, q2, q3, q4⟩
          exact hK v H' ν _ _ hQ (hst.put hd q1 q2 q3 q4)
      · exact h.elim
    · exact viaOp h
    · exact h.elim
  · rename_i mt hc
    obtain ⟨rb, h1, h2, h3, h4⟩ := makeMap_sound (P := P) hst.sim mt
    have hrun : (execOp a.eval o).run P w = .ok (.value (.map (some rb))) (w.alloc (.map #[] 0)) := by simp [execOp, hc, h2]
    rw [semAt_eq (by rw [hc]; intro c' h'; cases h'), hrun]
    exact hK _ _ μ _ _ (h rb h1) (hst.put hd (Mu.le_refl μ) (VR_self rfl) h3 h4)
  · rename_i mt x hc
    obtain ⟨rb, es, kt, et, hx, hu, hob, hk⟩ := h
    have hv := aev_sound hst.env hx
    simp only [VR] at hv
    obtain ⟨it, h1, h2, h3, h4⟩ := range_sound (P := P) hst.sim hu hob
    have hrun : (execOp a.eval o).run P w = .ok (.value (.pointer (some ⟨it, 0, none⟩))) (w.alloc (.mapIter (some rb) es.length #[] es.length)) := by simp [execOp, hc, hv, h2]
    rw [semAt_eq (by rw [hc]; intro c' h'; cases h'), hrun]
    exact hK _ _ μ _ _ (hk it h1) (hst.put hd (Mu.le_refl μ) (by simp only [VR]) h3 h4)
  · rename_i x hc
    obtain ⟨it, rb, seen, es, hx, hi, hob, hk1, hk2⟩ := h
    have hv := aev_sound hst.env hx
    simp only [VR] at hv
    rcases next_sound (P := P) hst.sim hi hob rfl o.type with ⟨i, e, w', h1, h2, h3, h4, h5⟩ | ⟨h1, h2⟩
    · have hrun : (execOp a.eval o).run P w = .ok (.value (.tuple #[.bool true, kv e.1, e.2])) w' := by simp [execOp, hc, hv, h3]
      rw [semAt_eq (by rw [hc]; intro c' h'; cases h'), hrun]
      obtain ⟨_, _, hp, _⟩ := hst.sim.ob _ _ hob
      exact hK _ _ μ _ _ (hk1 i e h1 h2) (hst.put hd (Mu.le_refl μ) (VR_self (by simp [flat, flatA, flatL, kv_flat, hp e (List.mem_of_getElem? h1)])) h4 h5)
    · have hrun : (execOp a.eval o).run P w = .ok (.value (.tuple #[.bool false])) w := by simp [execOp, hc, hv, h2]
      rw [semAt_eq (by rw [hc]; intro c' h'; cases h'), hrun]
      exact hK _ _ μ _ _ (hk2 h1) (hst.put hd (Mu.le_refl μ) (VR_self rfl) hst.sim (Ext.refl _ _))
  · rename_i x hc
    obtain ⟨it, rb, seen, i, es, e, hx, hi, hob, he, hk⟩ := h
    have hv := aev_sound hst.env hx
    simp only [VR] at hv
    have h2 := entry_sound (P := P) hst.sim hi hob rfl he
    have hrun : (execOp a.eval o).run P w = .ok (.value (.tuple #[kv e.1, e.2])) w := by simp [execOp, hc, hv, h2]
    rw [semAt_eq (by rw [hc]; intro c' h'; cases h'), hrun]
    obtain ⟨_, _, hp, _⟩ := hst.sim.ob _ _ hob
    exact hK _ _ μ _ _ hk (hst.put hd (Mu.le_refl μ) (VR_self (by simp [flat, flatA, flatL, kv_flat, hp e (List.mem_of_getElem? he)])) hst.sim (Ext.refl _ _))
  · exact viaOp h

theorem astep_sound {ops : Array Oper} {o : Oper} {i : Nat} (hi : ops[i]? = some o) {K : Env → Hp → Prop} (hd : dstOk N o = true) (h : astep P ops o K env H) {base : Nat} {μ0 μ : Mu} {w0 w : World} {a : Act} (hst : St base μ0 w0 N μ env H a w)
    {K' : Act → World → Prop} {Q' : Exit → Act → World → Prop} (hK : ∀ env' H' ν a' w', K env' H' → St base μ0 w0 N ν env' H' a' w' → K' a' w') : wpOpIn (FW r) 0 P ops Q' i K' a w := by
  unfold wpOpIn
  simp only [hi]
  have hgo : aopc P o (fun v H' => K (env.put o.dst v) H') env H → o.wpIn (FW r) 0 P a w K' Q' := fun h => aopc_sound hd h hst (fun v H' ν a' w' hk hs => hK _ _ ν a' w' hk hs)
  have hskip : K (env.put o.dst undef) H → (∀ f, o.about P w a.eval = some f → (FW r).fn f) ∧ K' (a.put o.dst undef) w := fun h =>
    ⟨fun _ _ => trivial, hK _ _ μ _ _ h (hst.put hd (Mu.le_refl μ) (VR_self rfl) hst.sim (Ext.refl _ _))⟩
  unfold astep at h
  split at h
  · rename_i hg
    rw [if_pos (by simp [Region.wanted, hg])]
    exact hgo h
  · rename_i j want hg
    split at h
    · exact h.elim
    · rename_i d hdst
      split at h
      · exact h.elim
      · rename_i b hb
        obtain ⟨v', h1, h2⟩ := hst.env d _ hb
        simp only [VR] at h2
        subst h2
        have hy : yielded ops a.tmps j = some b := by simp [yielded, hdst, h1]
        simp only [Region.wanted, hg, hy]
        by_cases hbw : b = want
        · subst hbw
          rw [if_pos (by simp)]
          exact hgo (h.1 (by simp))
        · rw [if_neg (by simpa using hbw)]
          exact hskip (h.2 (by simpa using hbw))
      · rename_i u hu hub
        obtain ⟨v', h1, h2⟩ := hst.env d _ hub
        have hy : yielded ops a.tmps j = none := by
          unfold yielded
          rw [hdst]
          simp only [Option.bind_some, h1]
          cases u <;> first
            | (exact absurd rfl (hu _))
            | skip
          case pointer p => cases p <;> simp only [VR] at h2 <;> first | (subst h2; rfl) | (obtain ⟨_, _, _, rfl⟩ := h2; rfl)
          case slice p n c => cases p <;> simp only [VR] at h2 <;> first | (obtain ⟨_, rfl⟩ := h2; rfl) | (obtain ⟨_, _, _, ⟨_, _, _, rfl⟩ | ⟨_, _, rfl⟩⟩ := h2 <;> rfl)
          case func => simp only [VR] at h2; obtain ⟨_, _, rfl, _⟩ := h2; rfl
          case agg => simp only [VR] at h2; obtain ⟨_, rfl, _⟩ := h2; rfl
          case tuple => simp only [VR] at h2; obtain ⟨_, rfl, _⟩ := h2; rfl
          case iface => simp only [VR] at h2; obtain ⟨_, rfl, _⟩ := h2; rfl
          case map p => simp only [VR] at h2; subst h2; rfl
          case chan p => cases p <;> simp only [VR] at h2 <;> subst h2 <;> rfl
          all_goals (simp only [VR] at h2; subst h2; rfl)
        rw [if_neg (by simp [Region.wanted, hg, hy])]
        exact hskip h

theorem awpOps_sound {ops : Array Oper} {K : Env → Hp → Prop} (hops : ops.toList.all (dstOk N) = true) {base : Nat} {μ0 : Mu} {w0 : World} {Q' : Exit → Act → World → Prop}
    (hK : ∀ env' H' ν a' w', K env' H' → St base μ0 w0 N ν env' H' a' w' → Q' .normal a' w') :
    ∀ (l : List Oper) (k : Nat), (∀ j, l[j]? = ops[k + j]?) → ∀ (env : Env) (H : Hp) (μ : Mu) (a : Act) (w : World), awpOps P ops K l env H → St base μ0 w0 N μ env H a w →
      wpOpsIn (FW r) 0 P ops Q' (List.range' k l.length) a w
  | [], k, _, env, H, μ, a, w, h, hst => hK _ _ μ _ _ h hst
  | o :: l, k, hl, env, H, μ, a, w, h, hst => by
    have h0 : ops[k]? = some o := by simpa using (hl 0).symm
    rw [List.length_cons, List.range'_succ, wpOpsIn_cons]
    have hd : dstOk N o = true := List.all_eq_true.1 hops o (by
      have := List.mem_of_getElem? (l := ops.toList) (i := k) (a := o) (by simpa using h0)
      exact this)
    refine astep_sound h0 hd h hst (fun env' H' ν a' w' hk hs => ?_)
    exact awpOps_sound hops hK l (k + 1) (fun j => by have := hl (j + 1); simpa [Nat.add_assoc, Nat.add_comm 1 j] using this) env' H' ν a' w' hk hs

theorem AWP_region {id : Nat} {ops : Array Oper} (h : awpOps P ops (Q .normal) ops.toList env H) : AWP P N n0 r (.region id ops false) Q env H := by
  intro hok base μ0 w0 hdom μ a w hst
  refine wpIn_region ?_
  have := awpOps_sound (P := P) (r := r) (Q' := Post base μ0 w0 N Q) hok (fun env' H' ν a' w' hk hs => ⟨trivial, env', H', ν, hk, hs⟩) ops.toList 0 (by simp) env H μ a w h hst
  rw [List.range_eq_range']
  simpa using this

theorem AWP.mono {c : Code} {Q' : Exit → Env → Hp → Prop} (h : AWP P N n0 r c Q env H) (hq : ∀ e env H, Q e env H → Q' e env H) : AWP P N n0 r c Q' env H :=
  fun hok base μ0 w0 hdom μ a w hst => wpIn_mono (h hok base μ0 w0 hdom μ a w hst) fun e a w ⟨h1, env, H, μ, h2, h3⟩ => ⟨h1, env, H, μ, hq _ _ _ h2, h3⟩

/-- Off its end: K; otherwise Q. -/
def thenQ (K : Env → Hp → Prop) (Q : Exit → Env → Hp → Prop) : Exit → Env → Hp → Prop
  | .normal, env, H => K env H
  | e, env, H => Q e env H
def blockQ (id : Nat) (Q : Exit → Env → Hp → Prop) : Exit → Env → Hp → Prop
  | .exit id', env, H => if id' = id then Q .normal env H else Q (.exit id') env H
  | e, env, H => Q e env H

theorem AWP_seq {x y : Code} (h : AWP P N n0 r x (thenQ (AWP P N n0 r y Q) Q) env H) : AWP P N n0 r (.seq x y) Q env H := by
  intro hok base μ0 w0 hdom μ a w hst
  simp only [codeOk, Bool.and_eq_true] at hok
  refine wpIn_seq (wpIn_mono (h hok.1 base μ0 w0 hdom μ a w hst) ?_)
  rintro e a' w' ⟨h1, env', H', μ', h2, h3⟩
  cases e <;> first
    | exact h2 hok.2 base μ0 w0 hdom μ' a' w' h3
    | exact ⟨h1, env', H', μ', h2, h3⟩
theorem AWP_skip (h : Q .normal env H) : AWP P N n0 r .skip Q env H := fun _ _ _ _ _ μ _ _ hst => wpIn_skip ⟨trivial, env, H, μ, h, hst⟩
theorem AWP_label {l : Nat} (h : Q .normal env H) : AWP P N n0 r (.label l) Q env H := fun _ _ _ _ _ μ _ _ hst => wpIn_label ⟨trivial, env, H, μ, h, hst⟩
theorem AWP_exit {id : Nat} (h : Q (.exit id) env H) : AWP P N n0 r (.exit id) Q env H := fun _ _ _ _ _ μ _ _ hst => wpIn_exit ⟨trivial, env, H, μ, h, hst⟩
theorem AWP_ret (h : Q .ret env H) : AWP P N n0 r .ret Q env H := fun _ _ _ _ _ μ _ _ hst => wpIn_ret ⟨trivial, env, H, μ, h, hst⟩
theorem AWP_cond {c : Operand} {x y : Code} {t : Bool} (hc : aev env c = some (.bool t)) (h : condP t (AWP P N n0 r x Q env H) (AWP P N n0 r y Q env H)) : AWP P N n0 r (.cond c x y) Q env H := by
  intro hok base μ0 w0 hdom μ a w hst
  simp only [codeOk, Bool.and_eq_true] at hok
  have hv := aev_sound hst.env hc
  simp only [VR] at hv
  exact wpIn_cond_split hv (fun ht => h.1 ht hok.1 base μ0 w0 hdom μ a w hst) (fun ht => h.2 ht hok.2 base μ0 w0 hdom μ a w hst)
theorem AWP_block {id : Nat} {c : Code} (h : AWP P N n0 r c (blockQ id Q) env H) : AWP P N n0 r (.block id c) Q env H := by
  intro hok base μ0 w0 hdom μ a w hst
  refine wpIn_block (wpIn_mono (h hok base μ0 w0 hdom μ a w hst) ?_)
  rintro e a' w' ⟨h1, env', H', μ', h2, h3⟩
  cases e with
  | exit id' =>
    simp only [blockQ] at h2
    simp only [Exit.inBlock]
    split at h2
    · rename_i hid; rw [if_pos hid]; exact ⟨trivial, env', H', μ', h2, h3⟩
    · rename_i hid; rw [if_neg hid]; exact ⟨trivial, env', H', μ', h2, h3⟩
  | _ => exact ⟨h1, env', H', μ', h2, h3⟩

end
end Go.Abs
