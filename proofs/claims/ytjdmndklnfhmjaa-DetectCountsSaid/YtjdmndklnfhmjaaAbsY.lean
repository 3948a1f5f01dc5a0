/- Ranges over functions: the rounds told of the abstract memory. -/
import Derived.Test.YtjdmndklnfhmjaaAbsT
import Derived.RangeFuncRecord
import Derived.RangeFuncSeq
set_option linter.unusedVariables false
set_option linter.unusedSimpArgs false
set_option linter.unusedSectionVars false
namespace Go.Abs
open Go.RowKit

abbrev WPred := Nat → Mu → World → Prop
def Stable (X : WPred) : Prop := ∀ base μ μ' w w', X base μ w → μ.le μ' → Ext base w w' → X base μ' w'
/-- AWP in the worlds that X admits. -/
def AWX (X : WPred) (P : Program) (N n0 : Nat) (c : Code) (Q : Exit → Env → Hp → Prop) (env : Env) (H : Hp) : Prop :=
  codeOk N c = true → ∀ base μ0 w0, X base μ0 w0 → (∀ b e, μ0 b = some e → b < n0) → ∀ μ a w, St base μ0 w0 N μ env H a w → c.wpIn (FW none) 0 P (Post base μ0 w0 N Q) a w
/-- What a call of yield comes to. -/
def AYield (X : WPred) (P : Program) (l : Nat) (as : List Value) (H : Hp) (K : Value → Hp → Prop) : Prop :=
  ∀ base μ w args', X base μ w → Sim base μ H w → VRs μ as args'.toList → YieldAt (FW none) 0 P l args' w (fun e w' => ∃ v v' H', e = .returned v' ∧ K v H' ∧ Done base μ w v H' v' w')
def AXCalls (X : WPred) (P : Program) (f : FuncId) (args : List Value) (H : Hp) (Q : Value → Hp → Prop) : Prop :=
  ∀ base μ w args', X base μ w → Sim base μ H w → VRs μ args args'.toList → Calls P f args' w (fun e w' => ∃ v v' H', e = .returned v' ∧ Q v H' ∧ Done base μ w v H' v' w')
/-- An iterator: m rounds, the i-th one with the arguments A i. -/
def AIter (P : Program) (gf : FuncId) (caps : List Value) (m : Nat) (A : Nat → List Value) (H : Hp) (I : Nat → Hp → Prop) : Prop :=
  Callable P gf ∧ ∀ (X : WPred) (l : Nat), Stable X → (∀ i H', i < m → I i H' → AYield X P l (A i) H' (fun v H'' => v = .bool true ∧ I (i + 1) H'')) →
    AXCalls X P gf (.func (.yield l) #[] #[] :: caps) H (fun _ H' => I m H')

section
variable {X : WPred} {P : Program} {N n0 : Nat} {Q : Exit → Env → Hp → Prop} {env : Env} {H : Hp}
theorem AWX.of {c : Code} (h : AWP P N n0 none c Q env H) : AWX X P N n0 c Q env H := fun hok base μ0 w0 _ => h hok base μ0 w0
theorem AWX_seq {x y : Code} (h : AWX X P N n0 x (thenQ (AWX X P N n0 y Q) Q) env H) : AWX X P N n0 (.seq x y) Q env H := by
  intro hok base μ0 w0 hx hdom μ a w hst
  simp only [codeOk, Bool.and_eq_true] at hok
  refine wpIn_seq (wpIn_mono (h hok.1 base μ0 w0 hx hdom μ a w hst) ?_)
  rintro e a' w' ⟨h1, env', H', μ', h2, h3⟩
  cases e <;> first
    | exact h2 hok.2 base μ0 w0 hx hdom μ' a' w' h3
    | exact ⟨h1, env', H', μ', h2, h3⟩
theorem AWX_block {id : Nat} {c : Code} (h : AWX X P N n0 c (blockQ id Q) env H) : AWX X P N n0 (.block id c) Q env H := by
  intro hok base μ0 w0 hx hdom μ a w hst
  refine wpIn_block (wpIn_mono (h hok base μ0 w0 hx hdom μ a w hst) ?_)
  rintro e a' w' ⟨h1, env', H', μ', h2, h3⟩
  cases e with
  | exit id' =>
    simp only [blockQ] at h2
    simp only [Exit.inBlock]
    split at h2
    · rename_i hid; rw [if_pos hid]; exact ⟨trivial, env', H', μ', h2, h3⟩
    · rename_i hid; rw [if_neg hid]; exact ⟨trivial, env', H', μ', h2, h3⟩
  | _ => exact ⟨h1, env', H', μ', h2, h3⟩
theorem AWX_loop {σ : Type} (E : σ → Env) (M : σ → Hp) (I : σ → Prop) (m : σ → Nat) (s0 : σ) {c : Code} (h0 : I s0) (hw : Weak n0 (E s0) (M s0) env H)
    (round : ∀ s, I s → AWX X P N n0 c (thenQ (fun env' H' => ∃ s', I s' ∧ m s' < m s ∧ Weak n0 (E s') (M s') env' H') Q) (E s) (M s)) : AWX X P N n0 (.loop c) Q env H := by
  intro hok base μ0 w0 hx hdom μ a w hst
  obtain ⟨ν, hst0⟩ := hst.weak hdom hw
  refine wpIn_loop_ghost (fun j a w => ∃ s μ, I s ∧ m s = j ∧ St base μ0 w0 N μ (E s) (M s) a w) ⟨s0, ν, h0, rfl, hst0⟩ ?_
  rintro j a1 w1 ⟨s, μ1, hI, rfl, hst1⟩
  refine wpIn_mono (round s hI hok base μ0 w0 hx hdom μ1 a1 w1 hst1) ?_
  rintro e a2 w2 ⟨h1, env', H', μ', h2, h3⟩
  cases e with
  | normal =>
    obtain ⟨s', hI', hlt, hw'⟩ := h2
    obtain ⟨ν', hst'⟩ := h3.weak hdom hw'
    exact ⟨m s', hlt, s', ν', hI', rfl, hst'⟩
  | _ => exact ⟨h1, env', H', μ', h2, h3⟩

theorem Sim.ext_alloc {base : Nat} {μ : Mu} {w : World} (h : Sim base μ H w) (o : Obj) : Sim base μ H (w.alloc o) := by
  have hb := h.hb
  refine ⟨by simp; omega, h.dom, fun b cs own k hg => ?_, h.inj, fun r x hx => ?_⟩
  rotate_left
  · obtain ⟨q1, q2, q3⟩ := h.ob r x hx
    exact ⟨q1, by rw [Below.heap_alloc _ _ _ (Array.getElem?_eq_some_iff.1 q2).1]; exact q2, q3⟩
  obtain ⟨e, arr, T, fz, he, hr, rest⟩ := h.row _ _ _ _ hg
  exact ⟨e, arr, T, fz, he, by rw [Below.heap_alloc _ _ _ (Array.getElem?_eq_some_iff.1 hr).1]; exact hr, rest⟩
theorem awpOps_prefix {ops : Array Oper} {K : Env → Hp → Prop} (hops : ops.toList.all (dstOk N) = true) {base : Nat} {μ0 : Mu} {w0 : World} {Q' : Exit → Act → World → Prop} {rest : List Nat}
    (hK : ∀ env' H' ν a' w', K env' H' → St base μ0 w0 N ν env' H' a' w' → wpOpsIn (FW none) 0 P ops Q' rest a' w') :
    ∀ (l : List Oper) (k : Nat), (∀ j, j < l.length → l[j]? = ops[k + j]?) → ∀ (env : Env) (H : Hp) (μ : Mu) (a : Act) (w : World), awpOps P ops K l env H → St base μ0 w0 N μ env H a w →
      wpOpsIn (FW none) 0 P ops Q' (List.range' k l.length ++ rest) a w
  | [], k, _, env, H, μ, a, w, h, hst => hK _ _ μ _ _ h hst
  | o :: l, k, hl, env, H, μ, a, w, h, hst => by
    have h0 : ops[k]? = some o := by simpa using (hl 0 (by simp)).symm
    rw [List.length_cons, List.range'_succ, List.cons_append, wpOpsIn_cons]
    have hd : dstOk N o = true := List.all_eq_true.1 hops o (List.mem_of_getElem? (l := ops.toList) (i := k) (a := o) (by simpa using h0))
    refine astep_sound h0 hd h hst (fun env' H' ν a' w' hk hs => ?_)
    exact awpOps_prefix hops hK l (k + 1) (fun j hj => by have := hl (j + 1) (by simpa using hj); simpa [Nat.add_assoc, Nat.add_comm 1 j] using this) env' H' ν a' w' hk hs

/-- What stands behind the operations ahead of the call of yield. -/
def yieldK (X : WPred) (P : Program) (l : Nat) (f : Operand) (cargs : List Operand) (d : Option Tmp) (ops : Array Oper) (post : List Oper) (K : Env → Hp → Prop) : Env → Hp → Prop := fun env1 H1 =>
  aev env1 f = some (.func (.yield l) #[] #[]) ∧ ∃ as, aevs env1 cargs = some as ∧ AYield X P l as H1 (fun v H2 => awpOps P ops K post (env1.put d v) H2)
theorem AWX_yield (hX : Stable X) {id : Nat} {ops : Array Oper} (pre : List Oper) (y : Oper) (post : List Oper) {c : Call} {f : Operand} {l : Nat} (hops : ops.toList = pre ++ y :: post) (hy : y.op = .call c) (hf : c.callee = .value f) (hg : y.guard = none)
    (h : awpOps P ops (yieldK X P l f c.args.toList y.dst ops post (Q .normal)) pre env H) : AWX X P N n0 (.region id ops false) Q env H := by
  intro hok base μ0 w0 hx hdom μ a w hst
  refine wpIn_region ?_
  have hok2 : ops.toList.all (dstOk N) = true := hok
  have hsz : ops.size = pre.length + (post.length + 1) := by rw [← Array.length_toList, hops]; simp
  have hat : ∀ j : Nat, ops[j]? = (pre ++ y :: post)[j]? := fun j => by rw [← hops, Array.getElem?_toList]
  rw [List.range_eq_range', hsz, ← List.range'_append, Nat.zero_add, Nat.one_mul, List.range'_succ]
  refine awpOps_prefix hok2 ?_ pre 0 (fun j hj => by rw [Nat.zero_add, hat, List.getElem?_append_left hj]) env H μ a w h hst
  rintro env1 H1 ν a1 w1 ⟨h1, as, h2, h3⟩ hst1
  have hyk : ops[pre.length]? = some y := by rw [hat, List.getElem?_append_right (Nat.le_refl _)]; simp
  have hd : dstOk N y = true := List.all_eq_true.1 hok2 y (by rw [hops]; simp)
  rw [wpOpsIn_cons]
  unfold wpOpIn
  simp only [hyk]
  rw [if_pos (by simp [Region.wanted, hg])]
  refine ⟨fun _ _ => trivial, ?_⟩
  have hv := aev_sound hst1.env h1
  simp only [VR] at hv
  obtain ⟨first', cap', hv, hfirst, hcap⟩ := hv
  have e1 : first' = #[] := by cases first' with | mk l => cases l <;> simp_all [VRa, VRs]
  have e2 : cap' = #[] := by cases cap' with | mk l => cases l <;> simp_all [VRa, VRs]
  subst e1; subst e2
  have has := aevs_sound (a := a1) hst1.env h2
  obtain ⟨fn, tmps, assign, body, hyy, hR⟩ := h3 base ν w1 (c.args.map a1.eval) (hX _ _ _ _ _ hx hst1.le hst1.ext) hst1.sim (by simpa using has)
  have hrun : (execOp a1.eval y).run P w1 = .ok (.round l fn tmps assign body) w1 := by
    simp [execOp, hy, resolve, hf, hv, Deferred.ofValue, invoke, hyy]
  rw [Oper.semAt_eq _ _ _ (by rw [hy]; intro c' h'; cases h'), hrun, Oper.uponIn_round]
  refine ⟨(fun h => by cases h), hR.mono ?_⟩
  rintro e w2 ⟨v, v', H2, rfl, hK, ν2, q1, q2, q3, q4⟩
  exact awpOps_sound (P := P) (r := none) (Q' := Post base μ0 w0 N Q) hok2 (fun env' H' ν a' w' hk hs => ⟨trivial, env', H', ν, hk, hs⟩) post (pre.length + 1) (fun j => by rw [hat, List.getElem?_append_right (by omega)]; simp [show pre.length + 1 + j - pre.length = j + 1 by omega]) _ H2 ν2 _ w2 hK (hst1.put hd q1 q2 q3 q4)

theorem AWX_yieldAt (hX : Stable X) (k : Nat) {id : Nat} {ops : Array Oper} {y : Oper} {c : Call} {f : Operand} {l : Nat} (hk : ops.toList[k]? = some y) (hy : y.op = .call c) (hf : c.callee = .value f) (hg : y.guard = none)
    (h : awpOps P ops (yieldK X P l f c.args.toList y.dst ops (ops.toList.drop (k + 1)) (Q .normal)) (ops.toList.take k) env H) : AWX X P N n0 (.region id ops false) Q env H := by
  obtain ⟨hlt, he⟩ := List.getElem?_eq_some_iff.1 hk
  refine AWX_yield hX (ops.toList.take k) y (ops.toList.drop (k + 1)) ?_ hy hf hg h
  rw [← he, ← List.drop_eq_getElem_cons hlt, List.take_append_drop]
theorem AYield.mono {l : Nat} {as : List Value} {K K' : Value → Hp → Prop} (h : AYield X P l as H K) (hk : ∀ v H, K v H → K' v H) : AYield X P l as H K' := fun base μ w args' h1 h2 h3 => by
  obtain ⟨fn, tmps, assign, body, h4, h5⟩ := h base μ w args' h1 h2 h3
  exact ⟨fn, tmps, assign, body, h4, h5.mono fun e w' ⟨v, v', H', e1, e2, e3⟩ => ⟨v, v', H', e1, hk _ _ e2, e3⟩⟩
theorem AXCalls_enter {f : FuncId} {fn : Func} {c : Code} {args : List Value} {Q : Value → Hp → Prop} (hf : P.funcs[f]? = some fn) (hb : fn.body = some c)
    (hok : codeOk fn.ntmps c = true) (ha : args.length ≤ fn.ntmps)
    (h : WfH H → refsL H.next args = true → AWX X P fn.ntmps H.next c (retQ P fn H.next Q) (params 0 args) H) : AXCalls X P f args H Q := by
  intro base μ w args' hx hs hv
  have hlen := hv.length
  rw [Array.length_toList] at hlen
  refine calls_fw (r := none) (n := 0) (callsIn_of_wp_marks hf hb trivial ?_)
  have hst : St base μ w fn.ntmps μ (params 0 args) H { tmps := args' ++ Array.replicate (fn.ntmps - args'.size) undef, defers := [] } w := by
    refine ⟨Mu.le_refl μ, hs, fun t v hv' => ?_, by simp; omega, ⟨[], List.nodup_nil, rfl, by simp⟩, Ext.refl _ _⟩
    obtain ⟨_, h2⟩ := params_get hv'
    obtain ⟨u, h3, h4⟩ := hv.get t v (by simpa using h2)
    refine ⟨u, ?_, h4⟩
    have hlt : t < args'.size := by have := (List.getElem?_eq_some_iff.1 h3).1; simpa using this
    rw [Array.getElem?_append_left hlt]
    simpa using h3
  refine wpIn_mono (h hs.wf (VRs_refs hs.dom hv) hok base μ w hx hs.dom μ _ w hst) ?_
  have fin : ∀ {a : Act} {w' : World} {env : Env} {H' : Hp} {μ' : Mu}, St base μ w fn.ntmps μ' env H' a w' → (∃ v, ares P fn env H' = some v ∧ ∃ ρ v2 H2, Wk H.next ρ H2 H' ∧ ren ρ v2 = v ∧ Q v2 H2) →
      LeavesInM (FW none) 0 P fn a.tmps (fun e w'' => ∃ v v' H', e = .returned v' ∧ Q v H' ∧ Done base μ w v H' v' w'') a.defers .returning w' := by
    intro a w' env H' μ' hst' ⟨v, h1, ρ, v2, H2, h2, h3, h4⟩
    obtain ⟨rs, r1, r2, r3⟩ := hst'.marks
    rw [r2]
    refine leaves_marks hs.hb rfl rs w' hst'.sim hst'.ext r1 r3 (fun w'' hs'' he'' => ?_)
    obtain ⟨v', h5, h6⟩ := ares_sound hs'' hst'.env h1
    refine ⟨v', h5, v2, v', H2, rfl, h4, fun b => μ' (ρ b), fun b e he => ?_, ?_, hs''.weak h2, he''⟩
    · show μ' (ρ b) = some e
      rw [h2.fix b (hs.dom _ _ he)]
      exact hst'.le _ _ he
    · subst h3; exact VR_ren h6
  rintro e a w' ⟨h1, env, H', μ', h2, h3⟩
  cases e with
  | normal => exact fin h3 h2
  | ret => exact fin h3 h2
  | exit id => exact h2.elim
  | goto l => exact h2.elim
  | panic c => exact h1.elim
  | outgrown => exact h1.elim
end

/-! ### the statement -/
def penv : List Tmp → List Value → Env → Env
  | p :: ps, v :: vs, env => penv ps vs ((p, v) :: env)
  | _, _, env => env
theorem penv_rel {μ : Mu} {n : Nat} : ∀ {ps : List Tmp} {vs vs' : List Value} {env : Env} {tmps : Array Value}, ps.all (· < n) = true → VRs μ vs vs' → ERel μ env tmps → tmps.size = n →
    ERel μ (penv ps vs env) ((ps.zip vs').foldl (fun t (x : Tmp × Value) => t.setIfInBounds x.1 x.2) tmps) ∧ ((ps.zip vs').foldl (fun t (x : Tmp × Value) => t.setIfInBounds x.1 x.2) tmps).size = n
  | [], vs, vs', env, tmps, _, _, he, hs => by simp only [penv, List.zip_nil_left, List.foldl_nil]; exact ⟨he, hs⟩
  | p :: ps, [], vs', env, tmps, _, hv, he, hs => by
    have : vs' = [] := by have := hv.length; simpa using this
    subst this
    simp only [penv, List.zip_nil_right, List.foldl_nil]; exact ⟨he, hs⟩
  | p :: ps, v :: vs, vs', env, tmps, hp, hv, he, hs => by
    cases vs' with
    | nil => have := hv.length; simp at this
    | cons v' vs' =>
      simp only [VRs] at hv
      obtain ⟨u, r, h1, h2, h3⟩ := hv
      cases h1
      simp only [List.all_cons, Bool.and_eq_true, decide_eq_true_eq] at hp
      simp only [penv, List.zip_cons_cons, List.foldl_cons]
      exact penv_rel hp.2 h3 (he.put (by rw [hs]; exact hp.1) h2) (by simpa using hs)

theorem AWP_range {P : Program} {N n0 : Nat} {Q : Exit → Env → Hp → Prop} {env : Env} {H : Hp} {g : Operand} {ps : Array Tmp} {assign body : Code} {gf : FuncId} {caps : Array Value} {m : Nat} {A : Nat → List Value} {I : Nat → Hp → Prop}
    (hg : aev env g = some (.func (.func gf) #[] caps)) (hit : AIter P gf caps.toList m A H I) (hps : ∀ i, i < m → (A i).length = ps.size) (hpn : ps.toList.all (· < N) = true)
    (hround : ∀ l i H', i < m → I i H' → AWP P N H'.next (some l) assign (fun e env1 H1 => e = .normal ∧ AWP P N H'.next (some l) body (fun e _ H2 => e = .normal ∧ I (i + 1) H2) env1 H1) (penv ps.toList (A i) env) H')
    (hQ : ∀ H', I m H' → Q .normal env H') : AWP P N n0 none (.rangeFunc g ps assign body) Q env H := by
  intro hok base μ0 w0 hdom μ a w hst
  simp only [codeOk, Bool.and_eq_true] at hok
  refine wpIn_rangeFunc fun fn _ => ?_
  have hv := aev_sound hst.env hg
  simp only [VR] at hv
  obtain ⟨first', cap', hv, hfirst, hcap⟩ := hv
  have e1 : first' = #[] := by cases first' with | mk l => cases l <;> simp_all [VRa, VRs]
  subst e1
  obtain ⟨rec, hrec⟩ : ∃ rec : LoopState → Option Code → Loop, rec = fun st pe => { state := st, pending := pe, fn, tmps := a.tmps, params := ps, assign, body, defers := w.heap.size } := ⟨_, rfl⟩
  obtain ⟨W1, hW1⟩ : ∃ W1, (w.alloc (.deferred (some []))).alloc (.loop (rec .ready none)) = W1 := ⟨_, rfl⟩
  have hL1 : W1.heap[w.heap.size + 1]? = some (.loop (rec .ready none)) := by
    rw [← hW1]; have := World.alloc_heap_new (w.alloc (.deferred (some []))) (.loop (rec .ready none)); rwa [World.size_alloc] at this
  have hK1 : W1.heap[w.heap.size]? = some (.deferred (some [])) := by
    rw [← hW1]; exact (Below.heap_alloc _ _ _ (by simp)).trans (World.alloc_heap_new w _)
  have hx0 : Ext base w (w.alloc (.deferred (some []))) := ext_alloc hst.sim _
  have hs0 : Sim base μ H (w.alloc (.deferred (some []))) := Sim.ext_alloc hst.sim _
  have hx1 : Ext base w W1 := by rw [← hW1]; exact hx0.trans (ext_alloc hs0 _)
  have hs1 : Sim base μ H W1 := by rw [← hW1]; exact Sim.ext_alloc hs0 _
  have hbs := hst.sim.hb
  refine ⟨w.heap.size + 1, [{ target := .collected w.heap.size, args := #[] }], W1, { target := .fn (.func gf) cap', args := #[.func (.yield (w.heap.size + 1)) #[] #[]] }, W1, gf,
    #[.func (.yield (w.heap.size + 1)) #[] #[]] ++ cap', W1, ?_, ?_, fun _ _ => trivial, ?_, (fun h => by cases h), ?_⟩
  · rw [← hW1, hrec]; exact run_enterLoop_outer _ _ _ _ _
  · simp only [resolve, hv]
    simp [Deferred.ofValue]
    rfl
  · obtain ⟨⟨fn', hfn, hname, hbody⟩, _⟩ := hit
    have hn' : fn'.name ≠ "runtime.NumGoroutine" := by simpa using hname
    have hb' : fn'.body ≠ none := fun h => by rw [h] at hbody; cases hbody
    simp [invoke, callFunc, hfn, hn', hb']
  · refine callsIn_fw (((hit.2 (fun b μ' w' => b = base ∧ μ.le μ' ∧ w'.heap[w.heap.size + 1]? = some (.loop (rec .ready none))) (w.heap.size + 1)
      (fun b μ1 μ2 w1 w2 ⟨h1, h2, h3⟩ hle hext => ⟨h1, Mu.le_trans h2 hle, hext.keep _ _ h3 rfl⟩) ?_) base μ W1 _ ⟨rfl, Mu.le_refl μ, hL1⟩ hs1 ?_).mono ?_)
    · -- one round
      rintro i H' hi hI b μ1 w1 args' ⟨rfl, hle, hl⟩ hsim hargs
      have hll := (Array.getElem?_eq_some_iff.1 hl).1
      have hlen : args'.size = ps.size := by rw [← Array.length_toList, hargs.length]; exact hps i hi
      have hyy := run_yield (P := P) (args := args') hl (by rw [hrec]; exact hlen)
      rw [hrec] at hyy
      refine ⟨fn, _, assign, body, hyy, roundIn_of_wpIn trivial ?_⟩
      have hrel := penv_rel (μ := μ1) hpn hargs (hst.env.mono hle) hst.size
      have htm : (ps.zip args').foldl (fun t (x : Tmp × Value) => t.setIfInBounds x.1 x.2) a.tmps = (ps.toList.zip args'.toList).foldl (fun t (x : Tmp × Value) => t.setIfInBounds x.1 x.2) a.tmps := by
        rw [← Array.foldl_toList, Array.toList_zip]
      have hst1 : St b μ1 w1 N μ1 (penv ps.toList (A i) env) H' { tmps := (ps.zip args').foldl (fun t (x : Tmp × Value) => t.setIfInBounds x.1 x.2) a.tmps, defers := [] } w1 :=
        ⟨Mu.le_refl _, hsim, by rw [htm]; exact hrel.1, by rw [htm]; exact hrel.2, ⟨[], List.nodup_nil, rfl, by simp⟩, Ext.refl _ _⟩
      refine wpIn_mono (hround (w.heap.size + 1) i H' hi hI hok.1 b μ1 w1 hsim.dom μ1 _ w1 hst1) ?_
      rintro e a1 w2 ⟨_, env1, H1, μ2, ⟨rfl, hbody⟩, hst2⟩
      have hl2 := hst2.ext.keep _ _ hl rfl
      have hlt2 := (Array.getElem?_eq_some_iff.1 hl2).1
      have hbr := run_beginRound (P := P) hl2 (by rw [hrec])
      refine ⟨_, hbr, ?_⟩
      have hl3 : (w2.putObj (w.heap.size + 1) (.loop { rec .ready none with state := .busy })).heap[w.heap.size + 1]? = some (.loop { rec .ready none with state := .busy }) := World.putObj_heap_same hlt2
      have hs3 : Sim b μ2 H1 (w2.putObj (w.heap.size + 1) (.loop { rec .ready none with state := .busy })) := hst2.sim.putObj hl2 (by simp) rfl
      have hx3 : Ext b (w1.putObj (w.heap.size + 1) (.loop { rec .ready none with state := .busy })) (w2.putObj (w.heap.size + 1) (.loop { rec .ready none with state := .busy })) := by
        have hb1 := hst2.ext.below
        refine ⟨⟨hb1.os, hb1.tape, hb1.output, by simpa using hb1.size, fun k hk => ?_⟩, fun k o hk ho => ?_, hst2.ext.drawn⟩
        · rw [heap_putObj_ne _ _ _ _ (by omega), heap_putObj_ne _ _ _ _ (by omega)]; exact hb1.block k hk
        · by_cases hkl : k = w.heap.size + 1
          · subst hkl; rw [World.putObj_heap_same hll] at hk; rw [hl3]; exact hk
          · rw [heap_putObj_ne _ _ _ _ hkl] at hk ⊢; exact hst2.ext.keep _ _ hk ho
      have hst3 : St b μ1 (w1.putObj (w.heap.size + 1) (.loop { rec .ready none with state := .busy })) N μ2 env1 H1 a1 (w2.putObj (w.heap.size + 1) (.loop { rec .ready none with state := .busy })) := by
        refine ⟨hst2.le, hs3, hst2.env, hst2.size, ?_, hx3⟩
        obtain ⟨rs, r1, r2, r3⟩ := hst2.marks
        refine ⟨rs, r1, r2, fun r hr => ?_⟩
        obtain ⟨h1, h2⟩ := r3 r hr
        exact ⟨by simpa using h1, by rw [heap_putObj_ne _ _ _ _ (by omega)]; exact h2⟩
      refine wpIn_mono (hbody hok.2 b μ1 _ hsim.dom μ2 a1 _ hst3) ?_
      rintro e a2 w4 ⟨_, env2, H2, μ3, ⟨rfl, hI2⟩, hst4⟩
      have hl3' : (w1.putObj (w.heap.size + 1) (.loop { rec .ready none with state := .busy })).heap[w.heap.size + 1]? = some (.loop { rec .ready none with state := .busy }) := World.putObj_heap_same hll
      have hl4 := hst4.ext.keep _ _ hl3' rfl
      have hlt4 := (Array.getElem?_eq_some_iff.1 hl4).1
      have hend := run_endRound (P := P) none hl4
      refine ⟨_, _, hend, .bool true, .bool true, H2, rfl, ⟨rfl, hI2⟩, μ3, hst4.le, VR_self rfl, hst4.sim.putObj hl4 (by simp) rfl, ?_, ?_, hst4.ext.drawn⟩
      · have hb2 := hst4.ext.below
        refine ⟨hb2.os, hb2.tape, hb2.output, ?_, fun k hk => ?_⟩
        · have h2 := hb2.size
          simp only [World.putObj_size] at h2 ⊢
          exact h2
        · rw [heap_putObj_ne _ _ _ _ (by omega), hb2.block k hk, heap_putObj_ne _ _ _ _ (by omega)]
      · intro k o hk ho
        by_cases hkl : k = w.heap.size + 1
        · subst hkl
          rw [hl] at hk
          cases hk
          rw [World.putObj_heap_same hlt4, hrec]
          rfl
        · rw [heap_putObj_ne _ _ _ _ hkl]
          refine hst4.ext.keep _ _ ?_ ho
          rw [heap_putObj_ne _ _ _ _ hkl]
          exact hk
    · rw [Array.toList_append]
      exact ⟨_, _, rfl, ⟨_, _, rfl, rfl, rfl⟩, VRa_iff.1 hcap⟩
    · rintro e w2 ⟨v, v', H', rfl, hI, ν, hle, _, hs2, hx2⟩
      have hL2 := hx2.keep _ _ hL1 rfl
      have hK2 := hx2.keep _ _ hK1 rfl
      have hend := run_endLoop (P := P) hL2 (by rw [hrec]; simp)
      have hp : (rec .ready none).pending = none := by rw [hrec]
      rw [hp] at hend
      refine ⟨none, _, hend, trivial, env, H', ν, hQ H' hI, Mu.le_trans hst.le hle, hs2.putObj hL2 (by simp) rfl, hst.env.mono hle, hst.size, ?_, ?_⟩
      · obtain ⟨rs, r1, r2, r3⟩ := hst.marks
        refine ⟨w.heap.size :: rs, List.nodup_cons.2 ⟨fun hm => ?_, r1⟩, by simp [r2], fun r hr => ?_⟩
        · have := (Array.getElem?_eq_some_iff.1 (r3 _ hm).2).1
          omega
        · rcases List.mem_cons.1 hr with rfl | hr
          · exact ⟨hst.ext.below.size, by rw [heap_putObj_ne _ _ _ _ (by omega)]; exact hK2⟩
          · have hlt := (Array.getElem?_eq_some_iff.1 (r3 _ hr).2).1
            exact ⟨(r3 _ hr).1, by rw [heap_putObj_ne _ _ _ _ (by omega)]; exact hx2.keep _ _ (hx1.keep _ _ (r3 _ hr).2 rfl) rfl⟩
      · exact hst.ext.trans ((hx1.trans hx2).putObj (by omega) (by omega))
/-- The iterators over maps stand as they were. -/
def Its (H H' : Hp) : Prop := ∀ it m n seen, H.ob it = some (.it m n seen) → H'.ob it = some (.it m n seen)
theorem Its.refl (H : Hp) : Its H H := fun _ _ _ _ h => h
theorem Its.of_keeps {H H' : Hp} (h : Keeps H H') : Its H H' := fun it _ _ _ hx => h.ob it _ hx
/-- An iterator whose rounds come in an order that it does not say: from s, the arguments, to s'. -/
def AIterS (P : Program) (gf : FuncId) (caps : List Value) {σ : Type} (I : σ → Hp → Prop) (step : σ → List Value → σ → Prop) (fin : σ → Prop) (H : Hp) : Prop :=
  Callable P gf ∧ ∀ (X : WPred) (l : Nat), Stable X → (∀ s as s' H', step s as s' → I s H' → AYield X P l as H' (fun v H'' => v = .bool true ∧ I s' H'' ∧ Its H' H'')) →
    AXCalls X P gf (.func (.yield l) #[] #[] :: caps) H (fun _ H' => ∃ s, fin s ∧ I s H')
theorem AWP_rangeS {P : Program} {N n0 : Nat} {Q : Exit → Env → Hp → Prop} {env : Env} {H : Hp} {g : Operand} {ps : Array Tmp} {assign body : Code} {gf : FuncId} {caps : Array Value} {σ : Type} {I : σ → Hp → Prop} {step : σ → List Value → σ → Prop} {fin : σ → Prop}
    (hg : aev env g = some (.func (.func gf) #[] caps)) (hit : AIterS P gf caps.toList I step fin H) (hps : ∀ s as s', step s as s' → as.length = ps.size) (hpn : ps.toList.all (· < N) = true)
    (hround : ∀ l s as s' H', step s as s' → I s H' → AWP P N H'.next (some l) assign (fun e env1 H1 => e = .normal ∧ AWP P N H'.next (some l) body (fun e _ H2 => e = .normal ∧ I s' H2 ∧ Its H' H2) env1 H1) (penv ps.toList as env) H')
    (hQ : ∀ s H', fin s → I s H' → Q .normal env H') : AWP P N n0 none (.rangeFunc g ps assign body) Q env H := by
  intro hok base μ0 w0 hdom μ a w hst
  simp only [codeOk, Bool.and_eq_true] at hok
  refine wpIn_rangeFunc fun fn _ => ?_
  have hv := aev_sound hst.env hg
  simp only [VR] at hv
  obtain ⟨first', cap', hv, hfirst, hcap⟩ := hv
  have e1 : first' = #[] := by cases first' with | mk l => cases l <;> simp_all [VRa, VRs]
  subst e1
  obtain ⟨rec, hrec⟩ : ∃ rec : LoopState → Option Code → Loop, rec = fun st pe => { state := st, pending := pe, fn, tmps := a.tmps, params := ps, assign, body, defers := w.heap.size } := ⟨_, rfl⟩
  obtain ⟨W1, hW1⟩ : ∃ W1, (w.alloc (.deferred (some []))).alloc (.loop (rec .ready none)) = W1 := ⟨_, rfl⟩
  have hL1 : W1.heap[w.heap.size + 1]? = some (.loop (rec .ready none)) := by
    rw [← hW1]; have := World.alloc_heap_new (w.alloc (.deferred (some []))) (.loop (rec .ready none)); rwa [World.size_alloc] at this
  have hK1 : W1.heap[w.heap.size]? = some (.deferred (some [])) := by
    rw [← hW1]; exact (Below.heap_alloc _ _ _ (by simp)).trans (World.alloc_heap_new w _)
  have hx0 : Ext base w (w.alloc (.deferred (some []))) := ext_alloc hst.sim _
  have hs0 : Sim base μ H (w.alloc (.deferred (some []))) := Sim.ext_alloc hst.sim _
  have hx1 : Ext base w W1 := by rw [← hW1]; exact hx0.trans (ext_alloc hs0 _)
  have hs1 : Sim base μ H W1 := by rw [← hW1]; exact Sim.ext_alloc hs0 _
  have hbs := hst.sim.hb
  refine ⟨w.heap.size + 1, [{ target := .collected w.heap.size, args := #[] }], W1, { target := .fn (.func gf) cap', args := #[.func (.yield (w.heap.size + 1)) #[] #[]] }, W1, gf,
    #[.func (.yield (w.heap.size + 1)) #[] #[]] ++ cap', W1, ?_, ?_, fun _ _ => trivial, ?_, (fun h => by cases h), ?_⟩
  · rw [← hW1, hrec]; exact run_enterLoop_outer _ _ _ _ _
  · simp only [resolve, hv]
    simp [Deferred.ofValue]
    rfl
  · obtain ⟨⟨fn', hfn, hname, hbody⟩, _⟩ := hit
    have hn' : fn'.name ≠ "runtime.NumGoroutine" := by simpa using hname
    have hb' : fn'.body ≠ none := fun h => by rw [h] at hbody; cases hbody
    simp [invoke, callFunc, hfn, hn', hb']
  · refine callsIn_fw (((hit.2 (fun b μ' w' => b = base ∧ μ.le μ' ∧ w'.heap[w.heap.size + 1]? = some (.loop (rec .ready none))) (w.heap.size + 1)
      (fun b μ1 μ2 w1 w2 ⟨h1, h2, h3⟩ hle hext => ⟨h1, Mu.le_trans h2 hle, hext.keep _ _ h3 rfl⟩) ?_) base μ W1 _ ⟨rfl, Mu.le_refl μ, hL1⟩ hs1 ?_).mono ?_)
    · -- one round
      rintro s as s' H' hst0 hI b μ1 w1 args' ⟨rfl, hle, hl⟩ hsim hargs
      have hll := (Array.getElem?_eq_some_iff.1 hl).1
      have hlen : args'.size = ps.size := by rw [← Array.length_toList, hargs.length]; exact hps s as s' hst0
      have hyy := run_yield (P := P) (args := args') hl (by rw [hrec]; exact hlen)
      rw [hrec] at hyy
      refine ⟨fn, _, assign, body, hyy, roundIn_of_wpIn trivial ?_⟩
      have hrel := penv_rel (μ := μ1) hpn hargs (hst.env.mono hle) hst.size
      have htm : (ps.zip args').foldl (fun t (x : Tmp × Value) => t.setIfInBounds x.1 x.2) a.tmps = (ps.toList.zip args'.toList).foldl (fun t (x : Tmp × Value) => t.setIfInBounds x.1 x.2) a.tmps := by
        rw [← Array.foldl_toList, Array.toList_zip]
      have hst1 : St b μ1 w1 N μ1 (penv ps.toList as env) H' { tmps := (ps.zip args').foldl (fun t (x : Tmp × Value) => t.setIfInBounds x.1 x.2) a.tmps, defers := [] } w1 :=
        ⟨Mu.le_refl _, hsim, by rw [htm]; exact hrel.1, by rw [htm]; exact hrel.2, ⟨[], List.nodup_nil, rfl, by simp⟩, Ext.refl _ _⟩
      refine wpIn_mono (hround (w.heap.size + 1) s as s' H' hst0 hI hok.1 b μ1 w1 hsim.dom μ1 _ w1 hst1) ?_
      rintro e a1 w2 ⟨_, env1, H1, μ2, ⟨rfl, hbody⟩, hst2⟩
      have hl2 := hst2.ext.keep _ _ hl rfl
      have hlt2 := (Array.getElem?_eq_some_iff.1 hl2).1
      have hbr := run_beginRound (P := P) hl2 (by rw [hrec])
      refine ⟨_, hbr, ?_⟩
      have hl3 : (w2.putObj (w.heap.size + 1) (.loop { rec .ready none with state := .busy })).heap[w.heap.size + 1]? = some (.loop { rec .ready none with state := .busy }) := World.putObj_heap_same hlt2
      have hs3 : Sim b μ2 H1 (w2.putObj (w.heap.size + 1) (.loop { rec .ready none with state := .busy })) := hst2.sim.putObj hl2 (by simp) rfl
      have hx3 : Ext b (w1.putObj (w.heap.size + 1) (.loop { rec .ready none with state := .busy })) (w2.putObj (w.heap.size + 1) (.loop { rec .ready none with state := .busy })) := by
        have hb1 := hst2.ext.below
        refine ⟨⟨hb1.os, hb1.tape, hb1.output, by simpa using hb1.size, fun k hk => ?_⟩, fun k o hk ho => ?_, hst2.ext.drawn⟩
        · rw [heap_putObj_ne _ _ _ _ (by omega), heap_putObj_ne _ _ _ _ (by omega)]; exact hb1.block k hk
        · by_cases hkl : k = w.heap.size + 1
          · subst hkl; rw [World.putObj_heap_same hll] at hk; rw [hl3]; exact hk
          · rw [heap_putObj_ne _ _ _ _ hkl] at hk ⊢; exact hst2.ext.keep _ _ hk ho
      have hst3 : St b μ1 (w1.putObj (w.heap.size + 1) (.loop { rec .ready none with state := .busy })) N μ2 env1 H1 a1 (w2.putObj (w.heap.size + 1) (.loop { rec .ready none with state := .busy })) := by
        refine ⟨hst2.le, hs3, hst2.env, hst2.size, ?_, hx3⟩
        obtain ⟨rs, r1, r2, r3⟩ := hst2.marks
        refine ⟨rs, r1, r2, fun r hr => ?_⟩
        obtain ⟨h1, h2⟩ := r3 r hr
        exact ⟨by simpa using h1, by rw [heap_putObj_ne _ _ _ _ (by omega)]; exact h2⟩
      refine wpIn_mono (hbody hok.2 b μ1 _ hsim.dom μ2 a1 _ hst3) ?_
      rintro e a2 w4 ⟨_, env2, H2, μ3, ⟨rfl, hI2⟩, hst4⟩
      have hl3' : (w1.putObj (w.heap.size + 1) (.loop { rec .ready none with state := .busy })).heap[w.heap.size + 1]? = some (.loop { rec .ready none with state := .busy }) := World.putObj_heap_same hll
      have hl4 := hst4.ext.keep _ _ hl3' rfl
      have hlt4 := (Array.getElem?_eq_some_iff.1 hl4).1
      have hend := run_endRound (P := P) none hl4
      refine ⟨_, _, hend, .bool true, .bool true, H2, rfl, ⟨rfl, hI2⟩, μ3, hst4.le, VR_self rfl, hst4.sim.putObj hl4 (by simp) rfl, ?_, ?_, hst4.ext.drawn⟩
      · have hb2 := hst4.ext.below
        refine ⟨hb2.os, hb2.tape, hb2.output, ?_, fun k hk => ?_⟩
        · have h2 := hb2.size
          simp only [World.putObj_size] at h2 ⊢
          exact h2
        · rw [heap_putObj_ne _ _ _ _ (by omega), hb2.block k hk, heap_putObj_ne _ _ _ _ (by omega)]
      · intro k o hk ho
        by_cases hkl : k = w.heap.size + 1
        · subst hkl
          rw [hl] at hk
          cases hk
          rw [World.putObj_heap_same hlt4, hrec]
          rfl
        · rw [heap_putObj_ne _ _ _ _ hkl]
          refine hst4.ext.keep _ _ ?_ ho
          rw [heap_putObj_ne _ _ _ _ hkl]
          exact hk
    · rw [Array.toList_append]
      exact ⟨_, _, rfl, ⟨_, _, rfl, rfl, rfl⟩, VRa_iff.1 hcap⟩
    · rintro e w2 ⟨v, v', H', rfl, ⟨s, hfin, hI⟩, ν, hle, _, hs2, hx2⟩
      have hL2 := hx2.keep _ _ hL1 rfl
      have hK2 := hx2.keep _ _ hK1 rfl
      have hend := run_endLoop (P := P) hL2 (by rw [hrec]; simp)
      have hp : (rec .ready none).pending = none := by rw [hrec]
      rw [hp] at hend
      refine ⟨none, _, hend, trivial, env, H', ν, hQ s H' hfin hI, Mu.le_trans hst.le hle, hs2.putObj hL2 (by simp) rfl, hst.env.mono hle, hst.size, ?_, ?_⟩
      · obtain ⟨rs, r1, r2, r3⟩ := hst.marks
        refine ⟨w.heap.size :: rs, List.nodup_cons.2 ⟨fun hm => ?_, r1⟩, by simp [r2], fun r hr => ?_⟩
        · have := (Array.getElem?_eq_some_iff.1 (r3 _ hm).2).1
          omega
        · rcases List.mem_cons.1 hr with rfl | hr
          · exact ⟨hst.ext.below.size, by rw [heap_putObj_ne _ _ _ _ (by omega)]; exact hK2⟩
          · have hlt := (Array.getElem?_eq_some_iff.1 (r3 _ hr).2).1
            exact ⟨(r3 _ hr).1, by rw [heap_putObj_ne _ _ _ _ (by omega)]; exact hx2.keep _ _ (hx1.keep _ _ (r3 _ hr).2 rfl) rfl⟩
      · exact hst.ext.trans ((hx1.trans hx2).putObj (by omega) (by omega))
end Go.Abs
