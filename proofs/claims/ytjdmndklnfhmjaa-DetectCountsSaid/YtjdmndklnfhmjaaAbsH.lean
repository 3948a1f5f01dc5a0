/- One operation of the abstract memory, and that the machine's operation does what it says. -/
import Derived.Test.YtjdmndklnfhmjaaAbsQ
set_option linter.unusedVariables false
set_option linter.unusedSimpArgs false
set_option linter.unusedSectionVars false
namespace Go.Abs
open Go.RowKit

/-- The frame's values stand for the machine's temporaries. -/
def ERel (μ : Mu) (env : Env) (tmps : Array Value) : Prop := ∀ t v, env.get t = some v → ∃ v', tmps[t]? = some v' ∧ VR μ v v'

def aevo (env : Env) : Option Operand → Option (Option Value)
  | none => some none
  | some x => (aev env x).map some
def aparts (env : Env) : List (Nat × Operand) → Option (List (Nat × Value))
  | [] => some []
  | (i, x) :: r => (aev env x).bind fun v => (aparts env r).bind fun l => some ((i, v) :: l)

def abuiltin (P : Program) (H : Hp) (b : Builtin) (ts : List TypeId) (args : List Value) : Option (Value × Hp) :=
  match b, args with
  | .append, [s, x] => aappend P H ts s x
  | .len, [x] => match ts with | t :: _ => (alen P t x).map fun v => (v, H) | [] => none
  | .min, l => (aminmax amin2 l).map fun v => (v, H)
  | .max, l => (aminmax amax2 l).map fun v => (v, H)
  | _, _ => none

/-- An operation that calls no function. -/
noncomputable def aop (P : Program) (o : Oper) (env : Env) (H : Hp) : Option (Value × Hp) :=
  match o.op with
  | .move x => (aev env x).map fun v => (v, H)
  | .assign x => (aev env x).map fun v => (v, H)
  | .pick c a b => (aev env c).bind fun v => match v with | .bool t => (aev env (if t then a else b)).map fun v => (v, H) | _ => none
  | .alloc t => (tzero P t).bind fun z => anew H z.cells.toList 0
  | .box _ x => (aev env x).bind fun v => anew H v.cells.toList 0
  | .build t parts => (aparts env parts.toList).bind fun l => (abuild P t l).map fun v => (v, H)
  | .buildSlice t len parts => (aparts env parts.toList).bind fun l => abuildSlice P H t len l
  | .load t x => (aev env x).bind fun x => (aloadT P H t x).map fun v => (v, H)
  | .store t x v => (aev env x).bind fun x => (aev env v).bind fun v => (astoreT P H t x v).map fun H' => (undef, H')
  | .nilCheck x => (aev env x).bind fun v => match v with | .pointer (some a) => some (.pointer (some a), H) | .func (.func f) a b => some (.func (.func f) a b, H) | .slice a n c => some (.slice a n c, H) | _ => none
  | .binOp op t x y _ => (aev env x).bind fun a => (aev env y).bind fun b => (abin P op t a b).map fun v => (v, H)
  | .unOp op _ x => (aev env x).bind fun a => (aun op a).map fun v => (v, H)
  | .convert s t x => (aev env x).bind fun a => (aconv P s t a).map fun v => (v, H)
  | .makeFunc fn first captured => (aevs env first.toList).bind fun a => (aevs env captured.toList).map fun b => (.func fn a.toArray b.toArray, H)
  | .makeSlice t l c => (aev env l).bind fun a => (aev env c).bind fun b => amakeSlice P H t a b
  | .slice t x lo hi mx => (aev env x).bind fun a => (aevo env lo).bind fun l => (aevo env hi).bind fun h => (aevo env mx).bind fun m => (aslice P H t a l h m).map fun v => (v, H)
  | .fieldAddr s x f => (aev env x).bind fun a => (afieldAddr P s a f).map fun v => (v, H)
  | .field t x f => (aev env x).bind fun a => (afield P t a f).map fun v => (v, H)
  | .indexAddr t x i => (aev env x).bind fun a => (aev env i).bind fun b => (aindexAddr P t a b).map fun v => (v, H)
  | .index t x i => (aev env x).bind fun a => (aev env i).bind fun b => (aindex P t a b).map fun v => (v, H)
  | .extract x i => (aev env x).bind fun a => match a with | .tuple vs => (vs[i]?).map fun v => (v, H) | _ => none
  | .lookup t m k ok => (aev env m).bind fun m => (aev env k).bind fun k => (alookup P H t m k ok).map fun v => (v, H)
  | .mapEntry t m k => (aev env m).bind fun m => (aev env k).bind fun k => amapEntry P H t m k
  | .entryStore _ m s v => (aev env m).bind fun m => (aev env s).bind fun s => (aev env v).bind fun v => (aentryStore H m s v).map fun H' => (undef, H')
  | .call c =>
    match c.callee with
    | .builtin b => (aevs env c.args.toList).bind fun l => abuiltin P H b c.argTypes.toList l
    | _ => none
  | _ => none

section
variable {P : Program} {μ : Mu} {w : World}

theorem aev_sound {env : Env} {a : Act} (he : ERel μ env a.tmps) {x : Operand} {v : Value} (h : aev env x = some v) : VR μ v (a.eval x) := by
  cases x with
  | tmp t =>
    obtain ⟨v', h1, h2⟩ := he t v h
    simp only [Act.eval]
    rw [Array.getD_eq_getD_getElem?, h1]
    exact h2
  | const u =>
    simp only [aev] at h
    split at h
    · injection h with h; subst h; rename_i hf; exact VR_self hf
    · cases h
  | global g => cases h
  | func f => simp only [aev, Option.some.injEq] at h; subst h; exact VR_self rfl
theorem aevs_sound {env : Env} {a : Act} (he : ERel μ env a.tmps) : ∀ {l : List Operand} {vs : List Value}, aevs env l = some vs → VRs μ vs (l.map a.eval)
  | [], vs, h => by simp only [aevs, Option.some.injEq] at h; subst h; simp [VRs]
  | x :: l, vs, h => by
    simp only [aevs] at h
    cases hx : aev env x with
    | none => simp [hx] at h
    | some v =>
      cases hl : aevs env l with
      | none => simp [hx, hl] at h
      | some r =>
        simp only [hx, hl, Option.bind_some, Option.some.injEq] at h
        subst h
        simp only [VRs, List.map_cons]
        exact ⟨_, _, rfl, aev_sound he hx, aevs_sound he hl⟩
theorem aevo_sound {env : Env} {a : Act} (he : ERel μ env a.tmps) {x : Option Operand} {v : Option Value} (h : aevo env x = some v) : VRo μ v (x.map a.eval) := by
  cases x with
  | none => simp only [aevo, Option.some.injEq] at h; subst h; rfl
  | some x =>
    simp only [aevo] at h
    cases hx : aev env x with
    | none => simp [hx] at h
    | some u => simp only [hx, Option.map_some, Option.some.injEq] at h; subst h; exact ⟨_, rfl, aev_sound he hx⟩
theorem aparts_sound {env : Env} {a : Act} (he : ERel μ env a.tmps) : ∀ {l : List (Nat × Operand)} {vs : List (Nat × Value)}, aparts env l = some vs →
    (l.map fun (i, x) => (i, a.eval x)).map (·.1) = vs.map (·.1) ∧ VRs μ (vs.map (·.2)) ((l.map fun (i, x) => (i, a.eval x)).map (·.2))
  | [], vs, h => by simp only [aparts, Option.some.injEq] at h; subst h; simp [VRs]
  | (i, x) :: l, vs, h => by
    simp only [aparts] at h
    cases hx : aev env x with
    | none => simp [hx] at h
    | some v =>
      cases hl : aparts env l with
      | none => simp [hx, hl] at h
      | some r =>
        simp only [hx, hl, Option.bind_some, Option.some.injEq] at h
        subst h
        obtain ⟨h1, h2⟩ := aparts_sound he hl
        refine ⟨by simpa using h1, ?_⟩
        simp only [List.map_cons, VRs]
        exact ⟨_, _, rfl, aev_sound he hx, h2⟩

theorem Done.same {base : Nat} {H : Hp} (h : Sim base μ H w) {v v' : Value} (hv : VR μ v v') : Done base μ w v H v' w := ⟨μ, Mu.le_refl μ, hv, h, Ext.refl _ _⟩

theorem aop_sound {base : Nat} {H : Hp} (h : Sim base μ H w) {env : Env} {a : Act} (he : ERel μ env a.tmps) {o : Oper} {r : Value × Hp} (ho : aop P o env H = some r) :
    ∃ v' w', ((execOp a.eval o).run P w = .ok (.value v') w' ∨ ((execOp a.eval o).run P w = .ok .skip w' ∧ v' = undef)) ∧ Done base μ w r.1 r.2 v' w' := by
  obtain ⟨dst, op, type, pos, after, guard⟩ := o
  unfold aop at ho
  cases op <;> simp only at ho
  case move x =>
    cases hx : aev env x with
    | none => simp [hx] at ho
    | some v => simp only [hx, Option.map_some, Option.some.injEq] at ho; subst ho; exact ⟨_, w, .inl rfl, Done.same h (aev_sound he hx)⟩
  case assign x =>
    cases hx : aev env x with
    | none => simp [hx] at ho
    | some v => simp only [hx, Option.map_some, Option.some.injEq] at ho; subst ho; exact ⟨_, w, .inl rfl, Done.same h (aev_sound he hx)⟩
  case pick c x y =>
    cases hc : aev env c with
    | none => simp [hc] at ho
    | some vc =>
      simp only [hc, Option.bind_some] at ho
      split at ho
      · rename_i t
        have hb := aev_sound he hc
        simp only [VR] at hb
        cases t with
        | true =>
          simp only [if_true] at ho
          cases hx : aev env x with
          | none => simp [hx] at ho
          | some v => simp only [hx, Option.map_some, Option.some.injEq] at ho; subst ho; exact ⟨_, w, .inl (by simp [execOp, hb, asBool]), Done.same h (aev_sound he hx)⟩
        | false =>
          simp only [Bool.false_eq_true, if_false] at ho
          cases hx : aev env y with
          | none => simp [hx] at ho
          | some v => simp only [hx, Option.map_some, Option.some.injEq] at ho; subst ho; exact ⟨_, w, .inl (by simp [execOp, hb, asBool]), Done.same h (aev_sound he hx)⟩
      · cases ho
  case alloc t =>
    cases hz : tzero P t with
    | none => simp [hz] at ho
    | some z =>
      simp only [hz, Option.bind_some] at ho
      obtain ⟨hz1, hz2⟩ := run_zeroValue_of (w := w) hz
      exact ⟨_, _, .inl (by simp [execOp, Instr.alloc, hz1, newVar, run_newRow]), anew_sound h t ho (VRs_self (flat_cells hz2))⟩
  case box t x =>
    cases hx : aev env x with
    | none => simp [hx] at ho
    | some v =>
      simp only [hx, Option.bind_some] at ho
      exact ⟨_, _, .inl (by simp [execOp, Instr.box, newVar, run_newRow]), anew_sound h t ho (aev_sound he hx).cells⟩
  case build t parts =>
    cases hp : aparts env parts.toList with
    | none => simp [hp] at ho
    | some l =>
      simp only [hp, Option.bind_some] at ho
      cases hb : abuild P t l with
      | none => simp [hb] at ho
      | some v =>
        simp only [hb, Option.map_some, Option.some.injEq] at ho
        subst ho
        obtain ⟨h1, h2⟩ := aparts_sound he hp
        obtain ⟨v', h3, h4⟩ := abuild_sound (P := P) (w := w) (parts' := parts.map fun (i, x) => (i, a.eval x)) hb (by simpa using h1) (by simpa using h2)
        exact ⟨v', w, .inl (by simp [execOp, h3]), Done.same h h4⟩
  case buildSlice t len parts =>
    cases hp : aparts env parts.toList with
    | none => simp [hp] at ho
    | some l =>
      simp only [hp, Option.bind_some] at ho
      obtain ⟨h1, h2⟩ := aparts_sound he hp
      obtain ⟨v', w', h3, h4⟩ := abuildSlice_sound (P := P) (w := w) (parts' := parts.map fun (i, x) => (i, a.eval x)) h ho (by simpa using h1) (by simpa using h2)
      exact ⟨v', w', .inl (by simp [execOp, h3]), h4⟩
  case load t x =>
    cases hx : aev env x with
    | none => simp [hx] at ho
    | some vx =>
      simp only [hx, Option.bind_some] at ho
      cases hl : aloadT P H t vx with
      | none => simp [hl] at ho
      | some v =>
        simp only [hl, Option.map_some, Option.some.injEq] at ho
        subst ho
        obtain ⟨v', h1, h2⟩ := aloadT_sound (P := P) h hl (aev_sound he hx)
        exact ⟨v', w, .inl (by simp [execOp, h1]), Done.same h h2⟩
  case store t x y =>
    cases hx : aev env x with
    | none => simp [hx] at ho
    | some vx =>
      cases hy : aev env y with
      | none => simp [hx, hy] at ho
      | some vy =>
        simp only [hx, hy, Option.bind_some] at ho
        cases hs : astoreT P H t vx vy with
        | none => simp [hs] at ho
        | some H' =>
          simp only [hs, Option.map_some, Option.some.injEq] at ho
          subst ho
          obtain ⟨w', h1, h2, h3⟩ := astoreT_sound (P := P) h hs (aev_sound he hx) (aev_sound he hy)
          exact ⟨undef, w', .inr ⟨by simp [execOp, h1], rfl⟩, μ, Mu.le_refl μ, VR_self rfl, h2, h3⟩
  case nilCheck x =>
    cases hx : aev env x with
    | none => simp [hx] at ho
    | some vx =>
      simp only [hx, Option.bind_some] at ho
      have hv := aev_sound he hx
      split at ho
      · injection ho with ho; subst ho
        refine ⟨_, w, .inl ?_, Done.same h hv⟩
        simp only [VR] at hv
        obtain ⟨_, e, _, hv⟩ := hv
        simp [execOp, hv]
      · injection ho with ho; subst ho
        refine ⟨_, w, .inl ?_, Done.same h hv⟩
        simp only [VR] at hv
        obtain ⟨_, _, hv, _⟩ := hv
        simp [execOp, hv]
      · injection ho with ho; subst ho
        refine ⟨_, w, .inl ?_, Done.same h hv⟩
        rename_i a n c
        cases a with
        | none => simp only [VR] at hv; obtain ⟨_, hv⟩ := hv; simp [execOp, hv]
        | some a => simp only [VR] at hv; obtain ⟨_, _, _, ⟨_, _, _, hv⟩ | ⟨_, _, hv⟩⟩ := hv <;> simp [execOp, hv]
      · cases ho
  case binOp op t x y t2 =>
    cases hx : aev env x with
    | none => simp [hx] at ho
    | some vx =>
      cases hy : aev env y with
      | none => simp [hx, hy] at ho
      | some vy =>
        simp only [hx, hy, Option.bind_some] at ho
        cases hb : abin P op t vx vy with
        | none => simp [hb] at ho
        | some v =>
          simp only [hb, Option.map_some, Option.some.injEq] at ho
          subst ho
          obtain ⟨h1, h2⟩ := abin_sound (P := P) (w := w) x y hb (aev_sound he hx) (aev_sound he hy)
          refine ⟨v, w, .inl ?_, Done.same h (VR_self h2)⟩
          rw [Sem.run_bind] at h1
          simp only [execOp, Sem.run_bind, h1, Result.andThen_ok, Sem.run_pure]
  case lookup t x y ok =>
    cases hx : aev env x with
    | none => simp [hx] at ho
    | some vx =>
      cases hy : aev env y with
      | none => simp [hx, hy] at ho
      | some vy =>
        simp only [hx, hy, Option.bind_some] at ho
        cases hb : alookup P H t vx vy ok with
        | none => simp [hb] at ho
        | some v =>
          simp only [hb, Option.map_some, Option.some.injEq] at ho
          subst ho
          obtain ⟨v', h1, h2⟩ := alookup_sound (P := P) h hb (aev_sound he hx) (aev_sound he hy)
          exact ⟨v', w, .inl (by simp [execOp, h1]), Done.same h h2⟩
  case mapEntry t x y =>
    cases hx : aev env x with
    | none => simp [hx] at ho
    | some vx =>
      cases hy : aev env y with
      | none => simp [hx, hy] at ho
      | some vy =>
        simp only [hx, hy, Option.bind_some] at ho
        obtain ⟨v', w', h1, h2⟩ := amapEntry_sound (P := P) h ho (aev_sound he hx) (aev_sound he hy)
        exact ⟨v', w', .inl (by simp [execOp, h1]), h2⟩
  case entryStore t x y z =>
    cases hx : aev env x with
    | none => simp [hx] at ho
    | some vx =>
      cases hy : aev env y with
      | none => simp [hx, hy] at ho
      | some vy =>
        cases hz : aev env z with
        | none => simp [hx, hy, hz] at ho
        | some vz =>
          simp only [hx, hy, hz, Option.bind_some] at ho
          cases hb : aentryStore H vx vy vz with
          | none => simp [hb] at ho
          | some H' =>
            simp only [hb, Option.map_some, Option.some.injEq] at ho
            subst ho
            obtain ⟨w', h1, h2, h3⟩ := aentryStore_sound (P := P) h (t := t) hb (aev_sound he hx) (aev_sound he hy) (aev_sound he hz)
            exact ⟨undef, w', .inr ⟨by simp [execOp, h1], rfl⟩, μ, Mu.le_refl μ, VR_self rfl, h2, h3⟩
  case unOp op t x =>
    cases hx : aev env x with
    | none => simp [hx] at ho
    | some vx =>
      simp only [hx, Option.bind_some] at ho
      cases hb : aun op vx with
      | none => simp [hb] at ho
      | some v =>
        simp only [hb, Option.map_some, Option.some.injEq] at ho
        subst ho
        obtain ⟨h1, h2⟩ := aun_sound (P := P) (w := w) hb (aev_sound he hx)
        exact ⟨v, w, .inl (by simp [execOp, h1]), Done.same h (VR_self h2)⟩
  case convert s t x =>
    cases hx : aev env x with
    | none => simp [hx] at ho
    | some vx =>
      simp only [hx, Option.bind_some] at ho
      cases hb : aconv P s t vx with
      | none => simp [hb] at ho
      | some v =>
        simp only [hb, Option.map_some, Option.some.injEq] at ho
        subst ho
        obtain ⟨h1, h2⟩ := aconv_sound (P := P) (w := w) hb (aev_sound he hx)
        exact ⟨v, w, .inl (by simp [execOp, h1]), Done.same h (VR_self h2)⟩
  case makeFunc fn first captured =>
    cases hx : aevs env first.toList with
    | none => simp [hx] at ho
    | some l =>
      cases hy : aevs env captured.toList with
      | none => simp [hx, hy] at ho
      | some m =>
        simp only [hx, hy, Option.bind_some, Option.map_some, Option.some.injEq] at ho
        subst ho
        refine ⟨.func fn (first.map a.eval) (captured.map a.eval), w, .inl (by simp [execOp, Instr.makeFunc]), Done.same h ?_⟩
        simp only [VR]
        exact ⟨_, _, rfl, by rw [VRa_iff]; simpa using aevs_sound he hx, by rw [VRa_iff]; simpa using aevs_sound he hy⟩
  case makeSlice t x y =>
    cases hx : aev env x with
    | none => simp [hx] at ho
    | some vx =>
      cases hy : aev env y with
      | none => simp [hx, hy] at ho
      | some vy =>
        simp only [hx, hy, Option.bind_some] at ho
        obtain ⟨v', w', h1, h2⟩ := amakeSlice_sound (P := P) h ho (aev_sound he hx) (aev_sound he hy)
        exact ⟨v', w', .inl (by simp [execOp, h1]), h2⟩
  case slice t x lo hi mx =>
    cases hx : aev env x with
    | none => simp [hx] at ho
    | some vx =>
      cases h1 : aevo env lo with
      | none => simp [hx, h1] at ho
      | some l =>
        cases h2 : aevo env hi with
        | none => simp [hx, h1, h2] at ho
        | some hh =>
          cases h3 : aevo env mx with
          | none => simp [hx, h1, h2, h3] at ho
          | some m =>
            simp only [hx, h1, h2, h3, Option.bind_some] at ho
            cases hs : aslice P H t vx l hh m with
            | none => simp [hs] at ho
            | some v =>
              simp only [hs, Option.map_some, Option.some.injEq] at ho
              subst ho
              obtain ⟨v', h4, h5⟩ := aslice_sound (P := P) h hs (aev_sound he hx) (aevo_sound he h1) (aevo_sound he h2) (aevo_sound he h3)
              exact ⟨v', w, .inl (by simp [execOp, h4]), Done.same h h5⟩
  case fieldAddr s x f =>
    cases hx : aev env x with
    | none => simp [hx] at ho
    | some vx =>
      simp only [hx, Option.bind_some] at ho
      cases hb : afieldAddr P s vx f with
      | none => simp [hb] at ho
      | some v =>
        simp only [hb, Option.map_some, Option.some.injEq] at ho
        subst ho
        obtain ⟨v', h1, h2⟩ := afieldAddr_sound (P := P) (w := w) hb (aev_sound he hx)
        exact ⟨v', w, .inl (by simp [execOp, h1]), Done.same h h2⟩
  case field t x f =>
    cases hx : aev env x with
    | none => simp [hx] at ho
    | some vx =>
      simp only [hx, Option.bind_some] at ho
      cases hb : afield P t vx f with
      | none => simp [hb] at ho
      | some v =>
        simp only [hb, Option.map_some, Option.some.injEq] at ho
        subst ho
        obtain ⟨v', h1, h2⟩ := afield_sound (P := P) (w := w) hb (aev_sound he hx)
        exact ⟨v', w, .inl (by simp [execOp, h1]), Done.same h h2⟩
  case indexAddr t x i =>
    cases hx : aev env x with
    | none => simp [hx] at ho
    | some vx =>
      cases hy : aev env i with
      | none => simp [hx, hy] at ho
      | some vy =>
        simp only [hx, hy, Option.bind_some] at ho
        cases hb : aindexAddr P t vx vy with
        | none => simp [hb] at ho
        | some v =>
          simp only [hb, Option.map_some, Option.some.injEq] at ho
          subst ho
          obtain ⟨v', h1, h2⟩ := aindexAddr_sound (P := P) (w := w) hb (aev_sound he hx) (aev_sound he hy)
          exact ⟨v', w, .inl (by simp [execOp, h1]), Done.same h h2⟩
  case index t x i =>
    cases hx : aev env x with
    | none => simp [hx] at ho
    | some vx =>
      cases hy : aev env i with
      | none => simp [hx, hy] at ho
      | some vy =>
        simp only [hx, hy, Option.bind_some] at ho
        cases hb : aindex P t vx vy with
        | none => simp [hb] at ho
        | some v =>
          simp only [hb, Option.map_some, Option.some.injEq] at ho
          subst ho
          obtain ⟨v', h1, h2⟩ := aindex_sound (P := P) (w := w) hb (aev_sound he hx) (aev_sound he hy)
          exact ⟨v', w, .inl (by simp [execOp, h1]), Done.same h h2⟩
  case extract x i =>
    cases hx : aev env x with
    | none => simp [hx] at ho
    | some vx =>
      simp only [hx, Option.bind_some] at ho
      split at ho
      · rename_i vs
        cases hi : vs[i]? with
        | none => simp [hi] at ho
        | some v =>
          simp only [hi, Option.map_some, Option.some.injEq] at ho
          subst ho
          have hv := aev_sound he hx
          simp only [VR] at hv
          obtain ⟨vs', hv1, hv2⟩ := hv
          obtain ⟨u, hu1, hu2⟩ := (VRa_iff.1 hv2).get i v (by simpa using hi)
          refine ⟨u, w, .inl ?_, Done.same h hu2⟩
          have : vs'[i]? = some u := by simpa using hu1
          simp [execOp, Instr.extract, hv1, this]
      · cases ho
  case call c =>
    obtain ⟨callee, args, argTypes⟩ := c
    cases callee <;> simp only at ho
    case builtin b =>
      cases hl : aevs env args.toList with
      | none => simp [hl] at ho
      | some l =>
        simp only [hl, Option.bind_some] at ho
        have hls := aevs_sound (a := a) he hl
        unfold abuiltin at ho
        split at ho
        · rename_i s x
          obtain ⟨s', x', e1, hs, hx⟩ : ∃ s' x', args.map a.eval = #[s', x'] ∧ VR μ s s' ∧ VR μ x x' := by
            simp only [VRs] at hls
            obtain ⟨u, r1, e1, h1, u2, r2, e2, h2, e3⟩ := hls
            subst e3; subst e2
            exact ⟨u, u2, by apply Array.toList_inj.1; simpa using e1, h1, h2⟩
          obtain ⟨v', w', h1, h2⟩ := aappend_sound (P := P) (ty := type) h ho hs hx
          exact ⟨v', w', .inl (by simp at h1; simp [execOp, resolve, invoke, builtin, e1, h1]), h2⟩
        · rename_i x
          split at ho
          · rename_i t ts hts
            cases hb : alen P t x with
            | none => simp [hb] at ho
            | some v =>
              simp only [hb, Option.map_some, Option.some.injEq] at ho
              subst ho
              obtain ⟨x', e1, hx⟩ : ∃ x', args.map a.eval = #[x'] ∧ VR μ x x' := by
                simp only [VRs] at hls
                obtain ⟨u, r1, e1, h1, e2⟩ := hls
                subst e2
                exact ⟨u, by apply Array.toList_inj.1; simpa using e1, h1⟩
              obtain ⟨h1, h2⟩ := alen_sound (P := P) (w := w) (ts := ts) (ty := type) hb hx
              rw [← hts, Array.toArray_toList] at h1
              exact ⟨v, w, .inl (by simp [execOp, resolve, invoke, builtin, e1, h1]), Done.same h (VR_self h2)⟩
          · cases ho
        · cases hb : aminmax amin2 l with
          | none => simp [hb] at ho
          | some v =>
            simp only [hb, Option.map_some, Option.some.injEq] at ho
            subst ho
            obtain ⟨h1, h2⟩ := amin_sound (P := P) (w := w) (ts := argTypes) (ty := type) hb hls
            have e1 : (List.map a.eval args.toList).toArray = args.map a.eval := by apply Array.toList_inj.1; simp
            rw [e1] at h1
            exact ⟨v, w, .inl (by simp [execOp, resolve, invoke, builtin, h1]), Done.same h (VR_self h2)⟩
        · cases hb : aminmax amax2 l with
          | none => simp [hb] at ho
          | some v =>
            simp only [hb, Option.map_some, Option.some.injEq] at ho
            subst ho
            obtain ⟨h1, h2⟩ := amax_sound (P := P) (w := w) (ts := argTypes) (ty := type) hb hls
            have e1 : (List.map a.eval args.toList).toArray = args.map a.eval := by apply Array.toList_inj.1; simp
            rw [e1] at h1
            exact ⟨v, w, .inl (by simp [execOp, resolve, invoke, builtin, h1]), Done.same h (VR_self h2)⟩
        · cases ho
    all_goals cases ho
  all_goals cases ho

end
end Go.Abs
