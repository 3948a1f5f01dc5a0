/- The rules by which a function's code is carried out over the abstract memory. -/
import Derived.Test.YtjdmndklnfhmjaaAbsL
set_option linter.unusedVariables false
set_option linter.unusedSimpArgs false
set_option linter.unusedSectionVars false
namespace Go.Abs
open Go.RowKit

def bindO {α : Type} (x : Option α) (k : α → Prop) : Prop :=
  match x with
  | some a => k a
  | none => False
theorem bindO_some {α : Type} (a : α) (k : α → Prop) : bindO (some a) k = k a := rfl
theorem bindO_congr {α : Type} {x y : Option α} {k : α → Prop} (h : x = y) : bindO x k = bindO y k := by rw [h]
theorem condP_congr {b c : Bool} {p q : Prop} (h : b = c) : condP b p q = condP c p q := by rw [h]
theorem ACalls_congr {P : Program} {f : FuncId} {args args' : List Value} {H H' : Hp} {Q : Value → Hp → Prop} (h : args = args') (h2 : H = H') : ACalls P f args H Q = ACalls P f args' H' Q := by rw [h, h2]
theorem AWP_congr {P : Program} {N n0 : Nat} {r : Option Nat} {c : Code} {Q : Exit → Env → Hp → Prop} {env env' : Env} {H H' : Hp} (h : env = env') (h2 : H = H') : AWP P N n0 r c Q env H = AWP P N n0 r c Q env' H' := by rw [h, h2]
theorem retQ_congr {P : Program} {fn : Func} {n0 : Nat} {Q : Value → Hp → Prop} {e : Exit} {env env' : Env} {H H' : Hp} (h : env = env') (h2 : H = H') : retQ P fn n0 Q e env H = retQ P fn n0 Q e env' H' := by rw [h, h2]

/-- What follows an operation: its value is put in its place. -/
def contK (K : Env → Hp → Prop) (env : Env) (d : Option Tmp) (v : Value) (H : Hp) : Prop := K (env.put d v) H
def contD (K : Env → Hp → Prop) (env : Env) (d : Option Tmp) (H0 : Hp) (op : Op) (v : Value) (H : Hp) : Prop := (opCall op = true → Grows H0 H) ∧ K (env.put d v) H
theorem contK_eq (K : Env → Hp → Prop) (env : Env) (d : Option Tmp) (v : Value) (H : Hp) : contK K env d v H = K (env.put d v) H := rfl
theorem contD_eq (K : Env → Hp → Prop) (env : Env) (d : Option Tmp) (H0 : Hp) (op : Op) (v : Value) (H : Hp) : contD K env d H0 op v H = ((opCall op = true → Grows H0 H) ∧ K (env.put d v) H) := rfl

/-- A guarded operation. -/
def guardS (P : Program) (x : Option Value) (want : Bool) (o : Oper) (C : Value → Hp → Prop) (K : Env → Hp → Prop) (env : Env) (H : Hp) : Prop :=
  match x with
  | some (.bool b) => condP (b == want) (aopc P o C env H) (K (env.put o.dst undef) H)
  | some _ => K (env.put o.dst undef) H
  | none => False
section
variable {P : Program} {o : Oper} {C : Value → Hp → Prop} {K : Env → Hp → Prop} {env : Env} {H : Hp} {d : Option Tmp} {op : Op} {t : TypeId} {p : String} {a : Array Edge} {g : Option (Nat × Bool)}
theorem guardS_tt : guardS P (some (.bool true)) true o C K env H = aopc P o C env H := by simp [guardS, condP]
theorem guardS_ff : guardS P (some (.bool false)) false o C K env H = aopc P o C env H := by simp [guardS, condP]
theorem guardS_tf : guardS P (some (.bool true)) false ⟨d, op, t, p, a, g⟩ C K env H = K (env.put d undef) H := by simp [guardS, condP]
theorem guardS_ft : guardS P (some (.bool false)) true ⟨d, op, t, p, a, g⟩ C K env H = K (env.put d undef) H := by simp [guardS, condP]
theorem guardS_undef (want : Bool) : guardS P (some undef) want ⟨d, op, t, p, a, g⟩ C K env H = K (env.put d undef) H := rfl
theorem guardS_split {b want : Bool} (h1 : b = true → guardS P (some (.bool true)) want o C K env H) (h2 : b = false → guardS P (some (.bool false)) want o C K env H) : guardS P (some (.bool b)) want o C K env H := by
  cases b
  · exact h2 rfl
  · exact h1 rfl
end

def callP (P : Program) (f : Option Value) (as : Option (List Value)) (H : Hp) (K : Value → Hp → Prop) : Prop :=
  match f, as with
  | some (.func (.func g) first cap), some as => ACalls P g (first.toList ++ as ++ cap.toList) H K
  | _, _ => False
theorem callP_some (P : Program) (g : FuncId) (first cap : Array Value) (as : List Value) (H : Hp) (K : Value → Hp → Prop) : callP P (some (.func (.func g) first cap)) (some as) H K = ACalls P g (first.toList ++ as ++ cap.toList) H K := rfl
theorem callP_congr {P : Program} {f f' : Option Value} {as as' : Option (List Value)} {H H' : Hp} {K : Value → Hp → Prop} (h1 : f = f') (h2 : as = as') (h3 : H = H') : callP P f as H K = callP P f' as' H' K := by rw [h1, h2, h3]

section
variable (P : Program) (N n0 : Nat) (r : Option Nat)
/-- What has to be shown of a code. -/
def awp : Code → (Exit → Env → Hp → Prop) → Env → Hp → Prop
  | .skip, Q, env, H => Q .normal env H
  | .seq a b, Q, env, H => awp a (thenQ (awp b Q) Q) env H
  | .region id ops false, Q, env, H => awpOps P ops (Q .normal) ops.toList env H
  | .region id ops true, Q, env, H => AWP P N n0 r (.region id ops true) Q env H
  | .cond c x y, Q, env, H => match aev env c with
    | some (.bool b) => condP b (awp x Q env H) (awp y Q env H)
    | _ => False
  | .block id c, Q, env, H => awp c (blockQ id Q) env H
  | .loop b, Q, env, H => AWP P N n0 r (.loop b) Q env H
  | .rangeFunc g ps a b, Q, env, H => AWP P N n0 r (.rangeFunc g ps a b) Q env H
  | .exit id, Q, env, H => Q (.exit id) env H
  | .scope b, Q, env, H => AWP P N n0 r (.scope b) Q env H
  | .label l, Q, env, H => Q .normal env H
  | .goto l, Q, env, H => AWP P N n0 r (.goto l) Q env H
  | .ret, Q, env, H => Q .ret env H
  | .refuse w, Q, env, H => AWP P N n0 r (.refuse w) Q env H
end
section
variable {P : Program} {N n0 : Nat} {r : Option Nat}
theorem AWP_of_awp : ∀ {c : Code} {Q : Exit → Env → Hp → Prop} {env : Env} {H : Hp}, awp P N n0 r c Q env H → AWP P N n0 r c Q env H
  | .skip, Q, env, H, h => AWP_skip h
  | .seq a b, Q, env, H, h => AWP_seq ((AWP_of_awp (c := a) h).mono fun e env' H' hq => by
      cases e <;> first | exact AWP_of_awp (c := b) hq | exact hq)
  | .region id ops false, Q, env, H, h => AWP_region h
  | .region id ops true, Q, env, H, h => h
  | .cond c x y, Q, env, H, h => by
    simp only [awp] at h
    cases hc : aev env c with
    | none => simp [hc] at h
    | some v =>
      cases v with
      | bool t => rw [hc] at h; exact AWP_cond hc ⟨fun ht => AWP_of_awp (h.1 ht), fun ht => AWP_of_awp (h.2 ht)⟩
      | _ => simp [hc] at h
  | .block id c, Q, env, H, h => AWP_block (AWP_of_awp (c := c) h)
  | .loop b, Q, env, H, h => h
  | .rangeFunc g ps a b, Q, env, H, h => h
  | .exit id, Q, env, H, h => AWP_exit h
  | .scope b, Q, env, H, h => h
  | .label l, Q, env, H, h => AWP_label h
  | .goto l, Q, env, H, h => h
  | .ret, Q, env, H, h => AWP_ret h
  | .refuse w, Q, env, H, h => h

section codes
variable {Q : Exit → Env → Hp → Prop} {K : Env → Hp → Prop} {env : Env} {H : Hp}
theorem awp_skip : awp P N n0 r .skip Q env H = Q .normal env H := rfl
theorem awp_seq (a b : Code) : awp P N n0 r (.seq a b) Q env H = awp P N n0 r a (thenQ (awp P N n0 r b Q) Q) env H := rfl
theorem awp_region (id : Nat) (ops : List Oper) : awp P N n0 r (.region id ops.toArray false) Q env H = awpOps P ops.toArray (Q .normal) ops env H := rfl
theorem awp_draw (id : Nat) (ops : Array Oper) : awp P N n0 r (.region id ops true) Q env H = AWP P N n0 r (.region id ops true) Q env H := rfl
def condS (P : Program) (N n0 : Nat) (r : Option Nat) (v : Option Value) (x y : Code) (Q : Exit → Env → Hp → Prop) (env : Env) (H : Hp) : Prop :=
  match v with
  | some (.bool b) => condP b (awp P N n0 r x Q env H) (awp P N n0 r y Q env H)
  | _ => False
theorem condS_true (x y : Code) : condS P N n0 r (some (.bool true)) x y Q env H = awp P N n0 r x Q env H := by simp [condS, condP]
theorem condS_false (x y : Code) : condS P N n0 r (some (.bool false)) x y Q env H = awp P N n0 r y Q env H := by simp [condS, condP]
theorem condS_split {b : Bool} {x y : Code} (h1 : b = true → awp P N n0 r x Q env H) (h2 : b = false → awp P N n0 r y Q env H) : condS P N n0 r (some (.bool b)) x y Q env H := ⟨h1, h2⟩
theorem awp_cond (c : Operand) (x y : Code) : awp P N n0 r (.cond c x y) Q env H = condS P N n0 r (aev env c) x y Q env H := rfl
theorem awp_block (id : Nat) (c : Code) : awp P N n0 r (.block id c) Q env H = awp P N n0 r c (blockQ id Q) env H := rfl
theorem awp_loop (b : Code) : awp P N n0 r (.loop b) Q env H = AWP P N n0 r (.loop b) Q env H := rfl
theorem awp_exit (id : Nat) : awp P N n0 r (.exit id) Q env H = Q (.exit id) env H := rfl
theorem awp_ret : awp P N n0 r .ret Q env H = Q .ret env H := rfl
theorem awp_label (l : Nat) : awp P N n0 r (.label l) Q env H = Q .normal env H := rfl
theorem thenQ_normal : thenQ K Q .normal env H = K env H := rfl
theorem thenQ_exit (id : Nat) : thenQ K Q (.exit id) env H = Q (.exit id) env H := rfl
theorem thenQ_ret : thenQ K Q .ret env H = Q .ret env H := rfl
theorem thenQ_normal' : thenQ K Q .normal = K := rfl
theorem blockQ_normal (id : Nat) : blockQ id Q .normal env H = Q .normal env H := rfl
theorem blockQ_normal' (id : Nat) : blockQ id Q .normal = Q .normal := rfl
theorem blockQ_ret (id : Nat) : blockQ id Q .ret env H = Q .ret env H := rfl
theorem blockQ_exit (id id' : Nat) : blockQ id Q (.exit id') env H = if id' = id then Q .normal env H else Q (.exit id') env H := rfl
end codes

section opers
variable {K : Env → Hp → Prop} {ops : Array Oper} {env : Env} {H : Hp}
theorem awpOps_nil : awpOps P ops K [] env H = K env H := rfl
theorem awpOps_cons (o : Oper) (l : List Oper) : awpOps P ops K (o :: l) env H = astep P ops o (awpOps P ops K l) env H := rfl
theorem astep_none (d : Option Tmp) (op : Op) (t : TypeId) (p : String) (a : Array Edge) : astep P ops ⟨d, op, t, p, a, none⟩ K env H = aopc P ⟨d, op, t, p, a, none⟩ (contK K env d) env H := rfl
theorem astep_some (d : Option Tmp) (op : Op) (t : TypeId) (p : String) (a : Array Edge) (j : Nat) (want : Bool) : astep P ops ⟨d, op, t, p, a, some (j, want)⟩ K env H =
    guardS P (((ops[j]?).bind (·.dst)).bind fun t => env.get t) want ⟨d, op, t, p, a, some (j, want)⟩ (contK K env d) K env H := by
  unfold astep guardS
  simp only
  cases (ops[j]?).bind (·.dst) with
  | none => rfl
  | some g => simp only [Option.bind_some]; cases env.get g with
    | none => rfl
    | some v => cases v <;> rfl
theorem awpD_nil : awpD P ops K [] env H = K env H := rfl
theorem awpD_cons (o : Oper) (l : List Oper) : awpD P ops K (o :: l) env H = astepD P ops o (awpD P ops K l) env H := rfl
theorem astepD_none (d : Option Tmp) (op : Op) (t : TypeId) (p : String) (a : Array Edge) : astepD P ops ⟨d, op, t, p, a, none⟩ K env H = aopc P ⟨d, op, t, p, a, none⟩ (contD K env d H op) env H := by
  simp only [astepD, wantedA, condP, contD]
  simp
  rfl
theorem astepD_some (d : Option Tmp) (op : Op) (t : TypeId) (p : String) (a : Array Edge) (j : Nat) (want : Bool) : astepD P ops ⟨d, op, t, p, a, some (j, want)⟩ K env H =
    guardS P (((ops[j]?).bind (·.dst)).bind fun t => env.get t) want ⟨d, op, t, p, a, some (j, want)⟩ (contD K env d H op) K env H := by
  unfold astepD wantedA guardS
  simp only
  cases (ops[j]?).bind (·.dst) with
  | none => simp
  | some g => simp only [Option.bind_some]; cases env.get g with
    | none => simp
    | some v => cases v <;> simp [condP] <;> first | rfl | (intro _; rfl)
end opers

section aops
variable {K : Value → Hp → Prop} {env : Env} {H : Hp} (d : Option Tmp) (t' : TypeId) (p : String) (a : Array Edge) (g : Option (Nat × Bool))
theorem bindO_map1 (x : Option Value) : optP (x.map fun v => (v, H)) K = bindO x fun v => K v H := by cases x <;> rfl
theorem optP_bind {α : Type} (x : Option α) (f : α → Option (Value × Hp)) : optP (x.bind f) K = bindO x fun v => optP (f v) K := by cases x <;> rfl
theorem bindO_bind {α β : Type} (x : Option α) (f : α → Option β) (k : β → Prop) : bindO (x.bind f) k = bindO x fun v => bindO (f v) k := by cases x <;> rfl
theorem optP_bindO (x : Option (Value × Hp)) : optP x K = bindO x fun r => K r.1 r.2 := by cases x <;> rfl
theorem o_lookup (t : TypeId) (m k : Operand) (ok : Bool) : aopc P ⟨d, .lookup t m k ok, t', p, a, g⟩ K env H = bindO (aev env m) fun m => bindO (aev env k) fun k => bindO (alookup P H t m k ok) fun v => K v H := by simp only [aopc, aop, optP_bind, bindO_map1]
theorem o_mapEntry (t : TypeId) (m k : Operand) : aopc P ⟨d, .mapEntry t m k, t', p, a, g⟩ K env H = bindO (aev env m) fun m => bindO (aev env k) fun k => bindO (amapEntry P H t m k) fun r => K r.1 r.2 := by simp only [aopc, aop, optP_bindO, bindO_bind]
theorem o_entryStore (t : TypeId) (m s v : Operand) : aopc P ⟨d, .entryStore t m s v, t', p, a, g⟩ K env H = bindO (aev env m) fun m => bindO (aev env s) fun s => bindO (aev env v) fun v => bindO (aentryStore H m s v) fun H' => K undef H' := by
  simp only [aopc, aop, optP_bind]
  congr 1; funext x; congr 1; funext y; congr 1; funext z; cases aentryStore H x y z <;> rfl
theorem o_makeMap (t : TypeId) : aopc P ⟨d, .makeMap t none, t', p, a, g⟩ K env H = ∀ r, H.ob r = none → K (.map (some r)) (H.setOb r (.mp [])) := rfl
theorem o_range (mt : TypeId) (x : Operand) : aopc P ⟨d, .range mt x, t', p, a, g⟩ K env H = ∃ (r : Nat) (es : List (List Int × Value)) (kt et : TypeId), aev env x = some (.map (some r)) ∧ P.underlying mt = some (.map kt et) ∧ H.ob r = some (.mp es) ∧ ∀ it, H.ob it = none → K (.chan (some it)) (H.setOb it (.it r es.length #[])) := rfl
theorem o_next (x : Operand) : aopc P ⟨d, .next x false, t', p, a, g⟩ K env H = ∃ (it r : Nat) (seen : Array Nat) (es : List (List Int × Value)), aev env x = some (.chan (some it)) ∧ H.ob it = some (.it r es.length seen) ∧ H.ob r = some (.mp es) ∧
      (∀ (i : Nat) (e : List Int × Value), es[i]? = some e → i ∉ seen.toList → K (.tuple #[.bool true, kv e.1, e.2]) (H.setOb it (.it r es.length (seen.push i)))) ∧ ((∀ i, i < es.length → i ∈ seen.toList) → K (.tuple #[.bool false]) H) := rfl
theorem o_entry (x : Operand) : aopc P ⟨d, .entry x, t', p, a, g⟩ K env H = ∃ (it r : Nat) (seen : Array Nat) (i : Nat) (es : List (List Int × Value)) (e : List Int × Value), aev env x = some (.chan (some it)) ∧ H.ob it = some (.it r es.length (seen.push i)) ∧ H.ob r = some (.mp es) ∧ es[i]? = some e ∧ K (.tuple #[kv e.1, e.2]) H := rfl
theorem o_move (x : Operand) : aopc P ⟨d, .move x, t', p, a, g⟩ K env H = bindO (aev env x) fun v => K v H := by simp only [aopc, aop, bindO_map1]
theorem o_assign (x : Operand) : aopc P ⟨d, .assign x, t', p, a, g⟩ K env H = bindO (aev env x) fun v => K v H := by simp only [aopc, aop, bindO_map1]
theorem o_pick (c x y : Operand) : aopc P ⟨d, .pick c x y, t', p, a, g⟩ K env H = bindO (aev env c) fun v => match v with | .bool t => bindO (aev env (if t then x else y)) fun v => K v H | _ => False := by
  simp only [aopc, aop, optP_bind]
  congr 1
  funext v
  cases v <;> simp only [bindO_map1] <;> rfl
theorem o_alloc (t : TypeId) : aopc P ⟨d, .alloc t, t', p, a, g⟩ K env H = bindO (tzero P t) fun z => bindO (anew H z.cells.toList 0) fun r => K r.1 r.2 := by simp only [aopc, aop, optP_bindO, bindO_bind]
theorem o_box (t : TypeId) (x : Operand) : aopc P ⟨d, .box t x, t', p, a, g⟩ K env H = bindO (aev env x) fun z => bindO (anew H z.cells.toList 0) fun r => K r.1 r.2 := by simp only [aopc, aop, optP_bindO, bindO_bind]
theorem o_build (t : TypeId) (ps : List (Nat × Operand)) : aopc P ⟨d, .build t ps.toArray, t', p, a, g⟩ K env H = bindO (aparts env ps) fun l => bindO (abuild P t l) fun v => K v H := by simp only [aopc, aop, optP_bind, bindO_map1]
theorem o_buildSlice (t : TypeId) (n : Nat) (ps : List (Nat × Operand)) : aopc P ⟨d, .buildSlice t n ps.toArray, t', p, a, g⟩ K env H = bindO (aparts env ps) fun l => bindO (abuildSlice P H t n l) fun r => K r.1 r.2 := by simp only [aopc, aop, optP_bindO, bindO_bind]
theorem o_load (t : TypeId) (x : Operand) : aopc P ⟨d, .load t x, t', p, a, g⟩ K env H = bindO (aev env x) fun x => bindO (aloadT P H t x) fun v => K v H := by simp only [aopc, aop, optP_bind, bindO_map1]
theorem o_store (t : TypeId) (x y : Operand) : aopc P ⟨d, .store t x y, t', p, a, g⟩ K env H = bindO (aev env x) fun x => bindO (aev env y) fun v => bindO (astoreT P H t x v) fun H' => K undef H' := by
  simp only [aopc, aop, optP_bind]
  congr 1; funext x; congr 1; funext v; cases astoreT P H t x v <;> rfl
theorem o_nilCheck (x : Operand) : aopc P ⟨d, .nilCheck x, t', p, a, g⟩ K env H = bindO (aev env x) fun v => match v with | .pointer (some a) => K (.pointer (some a)) H | .func (.func f) a b => K (.func (.func f) a b) H | .slice a n c => K (.slice a n c) H | _ => False := by
  simp only [aopc, aop, optP_bind]
  congr 1; funext v
  cases v <;> (try rfl)
  case pointer q => cases q <;> rfl
  case func f x y => cases f <;> rfl
theorem o_binOp (op : BinOp) (t t2 : TypeId) (x y : Operand) : aopc P ⟨d, .binOp op t x y t2, t', p, a, g⟩ K env H = bindO (aev env x) fun x => bindO (aev env y) fun y => bindO (abin P op t x y) fun v => K v H := by simp only [aopc, aop, optP_bind, bindO_map1]
theorem o_unOp (op : UnOp) (t : TypeId) (x : Operand) : aopc P ⟨d, .unOp op t x, t', p, a, g⟩ K env H = bindO (aev env x) fun x => bindO (aun op x) fun v => K v H := by simp only [aopc, aop, optP_bind, bindO_map1]
theorem o_convert (s t : TypeId) (x : Operand) : aopc P ⟨d, .convert s t x, t', p, a, g⟩ K env H = bindO (aev env x) fun x => bindO (aconv P s t x) fun v => K v H := by simp only [aopc, aop, optP_bind, bindO_map1]
theorem o_makeFunc (fn : Fn) (x y : List Operand) : aopc P ⟨d, .makeFunc fn x.toArray y.toArray, t', p, a, g⟩ K env H = bindO (aevs env x) fun a => bindO (aevs env y) fun b => K (.func fn a.toArray b.toArray) H := by
  simp only [aopc, aop, optP_bind]
  congr 1; funext v; cases aevs env y <;> rfl
theorem o_makeSlice (t : TypeId) (x y : Operand) : aopc P ⟨d, .makeSlice t x y, t', p, a, g⟩ K env H = bindO (aev env x) fun x => bindO (aev env y) fun y => bindO (amakeSlice P H t x y) fun r => K r.1 r.2 := by simp only [aopc, aop, optP_bindO, bindO_bind]
theorem o_slice (t : TypeId) (x : Operand) (lo hi mx : Option Operand) : aopc P ⟨d, .slice t x lo hi mx, t', p, a, g⟩ K env H =
    bindO (aev env x) fun x => bindO (aevo env lo) fun lo => bindO (aevo env hi) fun hi => bindO (aevo env mx) fun mx => bindO (aslice P H t x lo hi mx) fun v => K v H := by simp only [aopc, aop, optP_bind, bindO_map1]
theorem o_fieldAddr (s : TypeId) (x : Operand) (f : Nat) : aopc P ⟨d, .fieldAddr s x f, t', p, a, g⟩ K env H = bindO (aev env x) fun x => bindO (afieldAddr P s x f) fun v => K v H := by simp only [aopc, aop, optP_bind, bindO_map1]
theorem o_field (s : TypeId) (x : Operand) (f : Nat) : aopc P ⟨d, .field s x f, t', p, a, g⟩ K env H = bindO (aev env x) fun x => bindO (afield P s x f) fun v => K v H := by simp only [aopc, aop, optP_bind, bindO_map1]
theorem o_indexAddr (t : TypeId) (x i : Operand) : aopc P ⟨d, .indexAddr t x i, t', p, a, g⟩ K env H = bindO (aev env x) fun x => bindO (aev env i) fun i => bindO (aindexAddr P t x i) fun v => K v H := by simp only [aopc, aop, optP_bind, bindO_map1]
theorem o_index (t : TypeId) (x i : Operand) : aopc P ⟨d, .index t x i, t', p, a, g⟩ K env H = bindO (aev env x) fun x => bindO (aev env i) fun i => bindO (aindex P t x i) fun v => K v H := by simp only [aopc, aop, optP_bind, bindO_map1]
theorem o_extract (x : Operand) (i : Nat) : aopc P ⟨d, .extract x i, t', p, a, g⟩ K env H = bindO (aev env x) fun x => match x with | .tuple vs => bindO (vs[i]?) fun v => K v H | _ => False := by
  simp only [aopc, aop, optP_bind]
  congr 1; funext v; cases v <;> simp only [bindO_map1] <;> rfl
theorem o_call (f : Operand) (as : List Operand) (ts : Array TypeId) : aopc P ⟨d, .call ⟨.value f, as.toArray, ts⟩, t', p, a, g⟩ K env H = callP P (aev env f) (aevs env as) H K := by
  simp only [aopc]
  rfl
theorem o_builtin (b : Builtin) (as : List Operand) (ts : List TypeId) : aopc P ⟨d, .call ⟨.builtin b, as.toArray, ts.toArray⟩, t', p, a, g⟩ K env H = bindO (aevs env as) fun l => bindO (abuiltin P H b ts l) fun r => K r.1 r.2 := by
  simp only [aopc, aop]
  rw [optP_bindO]
  exact bindO_bind _ _ _
end aops

section values
variable {env : Env} {H : Hp}
theorem get_cons_eq (k : Nat) (v : Value) (e : Env) : Env.get ((k, v) :: e) k = some v := by simp [Env.get]
theorem get_cons_ne (k t : Nat) (v : Value) (e : Env) (h : k ≠ t) : Env.get ((k, v) :: e) t = Env.get e t := by
  simp [Env.get, h]
theorem put_some (e : Env) (t : Nat) (v : Value) : Env.put e (some t) v = (t, v) :: e := rfl
theorem put_none (e : Env) (v : Value) : Env.put e none v = e := rfl
theorem aev_tmp (t : Nat) : aev env (.tmp t) = env.get t := rfl
theorem aev_func (f : FuncId) : aev env (.func f) = some (.func (.func f) #[] #[]) := rfl
theorem aev_int (k : IntKind) (n : Int) : aev env (.const (.int k n)) = some (.int k n) := rfl
theorem aev_bool (b : Bool) : aev env (.const (.bool b)) = some (.bool b) := rfl
theorem aev_string (s : ByteArray) : aev env (.const (.string s)) = some (.string s) := rfl
theorem aev_nil : aev env (.const (.slice none 0 0)) = some (.slice none 0 0) := rfl
theorem aev_nilp : aev env (.const (.pointer none)) = some (.pointer none) := rfl
theorem aev_nilf : aev env (.const .nilFunc) = some .nilFunc := rfl
theorem aevs_nil : aevs env [] = some [] := rfl
theorem aevs_cons (x : Operand) (l : List Operand) : aevs env (x :: l) = (aev env x).bind fun v => (aevs env l).bind fun r => some (v :: r) := rfl
theorem aparts_nil : aparts env [] = some [] := rfl
theorem aparts_cons (i : Nat) (x : Operand) (l : List (Nat × Operand)) : aparts env ((i, x) :: l) = (aev env x).bind fun v => (aparts env l).bind fun r => some ((i, v) :: r) := rfl
theorem aevo_none : aevo env none = some none := rfl
theorem aevo_some (x : Operand) : aevo env (some x) = (aev env x).map some := rfl
theorem obind_some {α β : Type} (a : α) (f : α → Option β) : (some a).bind f = f a := rfl
theorem omap_some {α β : Type} (a : α) (f : α → β) : (some a).map f = some (f a) := rfl

theorem b_add (t : TypeId) (k : IntKind) (a b : Int) : abin P .add t (.int k a) (.int k b) = some (.int k (k.wrap (a + b))) := by simp [abin, aint]
theorem b_sub (t : TypeId) (k : IntKind) (a b : Int) : abin P .sub t (.int k a) (.int k b) = some (.int k (k.wrap (a - b))) := by simp [abin, aint]
theorem b_mul (t : TypeId) (k : IntKind) (a b : Int) : abin P .mul t (.int k a) (.int k b) = some (.int k (k.wrap (a * b))) := by simp [abin, aint]
theorem b_quo (t : TypeId) (k : IntKind) (a b : Int) (h : b ≠ 0) : abin P .quo t (.int k a) (.int k b) = some (.int k (k.wrap (a.tdiv b))) := by simp [abin, aint, h]
theorem b_rem (t : TypeId) (k : IntKind) (a b : Int) (h : b ≠ 0) : abin P .rem t (.int k a) (.int k b) = some (.int k (a.tmod b)) := by simp [abin, aint, h]
theorem b_eql (t : TypeId) (k : IntKind) (a b : Int) : abin P .eql t (.int k a) (.int k b) = some (.bool (a == b)) := by simp [abin, aint]
theorem b_neq (t : TypeId) (k : IntKind) (a b : Int) : abin P .neq t (.int k a) (.int k b) = some (.bool (a != b)) := by simp [abin, aint]
theorem b_lss (t : TypeId) (k : IntKind) (a b : Int) : abin P .lss t (.int k a) (.int k b) = some (.bool (decide (a < b))) := by simp [abin, aint]
theorem b_leq (t : TypeId) (k : IntKind) (a b : Int) : abin P .leq t (.int k a) (.int k b) = some (.bool (decide (a ≤ b))) := by simp [abin, aint]
theorem b_gtr (t : TypeId) (k : IntKind) (a b : Int) : abin P .gtr t (.int k a) (.int k b) = some (.bool (decide (b < a))) := by simp [abin, aint]
theorem b_geq (t : TypeId) (k : IntKind) (a b : Int) : abin P .geq t (.int k a) (.int k b) = some (.bool (decide (b ≤ a))) := by simp [abin, aint]
theorem u_not (b : Bool) : aun .not (.bool b) = some (.bool !b) := rfl
theorem u_neg (k : IntKind) (n : Int) : aun .neg (.int k n) = some (.int k (k.wrap (0 - n))) := rfl

/-! wrapping that does nothing -/
theorem wrap_i64 {n : Int} (h0 : -9223372036854775808 ≤ n) (h1 : n ≤ 9223372036854775807) : IntKind.i64.wrap n = n := by
  unfold IntKind.wrap
  simp only [IntKind.bits, IntKind.signed]
  by_cases hn : 0 ≤ n
  · have : n % 18446744073709551616 = n := Int.emod_eq_of_lt hn (by omega)
    simp [this]
    omega
  · have : n % 18446744073709551616 = n + 18446744073709551616 := by omega
    simp [this]
    omega

theorem anew_row (l : List Value) (k : Nat) (h : l.all one = true) : anew H l k = some (.pointer (some ⟨H.next, 0, none⟩), H.new (.row l true k)) := by simp [anew, h]
end values
end
end Go.Abs
