/- The abstract operations, and that the machine's operations do what they say. -/
import Derived.Test.YtjdmndklnfhmjaaAbsB
set_option linter.unusedVariables false
set_option linter.unusedSimpArgs false
set_option linter.unusedSectionVars false
namespace Go.Abs
open Go.RowKit

def aeq (P : Program) (t : TypeId) (vx vy : Value) : Option Bool :=
  match vx, vy with
  | .agg xs, .agg ys => if P.eqGuardType P.depth t = false ∧ tag P t = some true ∧ flatA xs = true ∧ flatA ys = true then eqTy P 8 t xs.toList ys.toList else none
  | .bool a, .bool b => match P.underlying t with | some .bool => some (a == b) | _ => none
  | .pointer a, .pointer none => match P.underlying t with | some (.pointer _) => some a.isNone | _ => none
  | .pointer none, .pointer a => match P.underlying t with | some (.pointer _) => some a.isNone | _ => none
  | .slice a _ _, .slice none _ _ => match P.underlying t with | some (.slice _) => some a.isNone | _ => none
  | .slice none _ _, .slice a _ _ => match P.underlying t with | some (.slice _) => some a.isNone | _ => none
  | .nilFunc, .nilFunc => match P.underlying t with | some (.func _ _ _) => some true | _ => none
  | .func _ _ _, .nilFunc => match P.underlying t with | some (.func _ _ _) => some false | _ => none
  | _, _ => none

section eqs
variable {P : Program} (w : World) (d : Nat) (t : TypeId)
theorem run_eq_ptr1 (a : Option Addr) {e : TypeId} (hu : P.underlying t = some (.pointer e)) : (Op.equalIn (d + 1) t (.pointer a) (.pointer none)).run P w = .ok a.isNone w := by
  cases a <;> simp [Op.equalIn, run_underlying_of hu]
theorem run_eq_ptr2 (a : Option Addr) {e : TypeId} (hu : P.underlying t = some (.pointer e)) : (Op.equalIn (d + 1) t (.pointer none) (.pointer a)).run P w = .ok a.isNone w := by
  cases a <;> simp [Op.equalIn, run_underlying_of hu]
theorem run_eq_sl1 (a : Option Addr) (n c m k : Nat) {e : TypeId} (hu : P.underlying t = some (.slice e)) : (Op.equalIn (d + 1) t (.slice a n c) (.slice none m k)).run P w = .ok a.isNone w := by
  cases a <;> simp [Op.equalIn, run_underlying_of hu]
theorem run_eq_sl2 (a : Option Addr) (n c m k : Nat) {e : TypeId} (hu : P.underlying t = some (.slice e)) : (Op.equalIn (d + 1) t (.slice none m k) (.slice a n c)).run P w = .ok a.isNone w := by
  cases a <;> simp [Op.equalIn, run_underlying_of hu]
theorem run_eq_fn1 {ps rs : Array TypeId} {v : Bool} (hu : P.underlying t = some (.func ps rs v)) : (Op.equalIn (d + 1) t .nilFunc .nilFunc).run P w = .ok true w := by
  simp [Op.equalIn, run_underlying_of hu]
theorem run_eq_fn2 (f : Fn) (a b : Array Value) {ps rs : Array TypeId} {v : Bool} (hu : P.underlying t = some (.func ps rs v)) : (Op.equalIn (d + 1) t (.func f a b) .nilFunc).run P w = .ok false w := by
  simp [Op.equalIn, run_underlying_of hu]
end eqs

theorem run_equal_of {P : Program} {w : World} {t : TypeId} {x y : Value} {b : Bool} (h : (Op.equalIn 10000 t x y).run P w = .ok b w) : (Op.equal t x y).run P w = .ok b w := h

theorem aeq_sound {P : Program} {μ : Mu} {w : World} {t : TypeId} {vx vy vx' vy' : Value} {b : Bool} (op : BinOp) (x y : Operand) (h : aeq P t vx vy = some b) (hx : VR μ vx vx') (hy : VR μ vy vy') :
    (eqGuard op t x y vx' vy').run P w = .ok () w ∧ (Op.equal t vx' vy').run P w = .ok b w ∧ (binOp .eql t vx' vy').run P w = .ok (.bool b) w ∧ (binOp .neq t vx' vy').run P w = .ok (.bool !b) w := by
  have fin : ∀ {a c : Value}, (eqGuard op t x y a c).run P w = .ok () w → (Op.equal t a c).run P w = .ok b w →
      (∀ s, binOp .eql t a c = (do pure (.bool (← s))) → s = Op.equal t a c → True) → binOp .eql t a c = (do pure (.bool (← Op.equal t a c))) → binOp .neq t a c = (do pure (.bool (!(← Op.equal t a c)))) →
      (eqGuard op t x y a c).run P w = .ok () w ∧ (Op.equal t a c).run P w = .ok b w ∧ (binOp .eql t a c).run P w = .ok (.bool b) w ∧ (binOp .neq t a c).run P w = .ok (.bool !b) w := by
    intro a c h1 h2 _ h3 h4
    refine ⟨h1, h2, ?_, ?_⟩
    · rw [h3]; simp [h2]
    · rw [h4]; simp [h2]
  have guard0 : ∀ {a c : Value}, (∀ xs, a ≠ .agg xs) → (a ≠ .nilIface) → (eqGuard op t x y a c).run P w = .ok () w := by
    intro a c h1 h2
    unfold eqGuard
    cases op <;> cases a <;> first | rfl | (exact absurd rfl h2) | (exact absurd rfl (h1 _))
  unfold aeq at h
  split at h
  · rename_i xs ys
    split at h
    · rename_i hc
      obtain ⟨hg, ha, fx, fy⟩ := hc
      obtain rfl := VR_eq (v := .agg xs) (by simpa [flat] using fx) hx
      obtain rfl := VR_eq (v := .agg ys) (by simpa [flat] using fy) hy
      refine fin (run_eqGuard_agg w op t x y xs ys hg) (run_equal_of (eqTy_sound 8 10000 (by omega) t _ _ b h true _ _ ha (by simp [ofCells]) (by simp [ofCells]) w)) (fun _ _ _ => trivial) rfl rfl
    · cases h
  · rename_i a c
    split at h
    · rename_i hu
      injection h with h; subst h
      simp only [VR] at hx hy; subst hx; subst hy
      exact fin (guard0 (by simp) (by simp)) (run_equal_of (run_equalIn_bool' w 9999 t _ _ hu)) (fun _ _ _ => trivial) rfl rfl
    · cases h
  · rename_i a
    split at h
    · rename_i e hu
      injection h with h; subst h
      simp only [VR] at hy; subst hy
      cases a with
      | none =>
        simp only [VR] at hx; subst hx
        exact fin (guard0 (by simp) (by simp)) (run_equal_of (run_eq_ptr1 w 9999 t _ hu)) (fun _ _ _ => trivial) rfl rfl
      | some a =>
        simp only [VR] at hx; obtain ⟨_, e, _, rfl⟩ := hx
        exact fin (guard0 (by simp) (by simp)) (run_equal_of (run_eq_ptr1 w 9999 t _ hu)) (fun _ _ _ => trivial) rfl rfl
    · cases h
  · rename_i a _
    split at h
    · rename_i e hu
      injection h with h; subst h
      simp only [VR] at hx; subst hx
      cases a with
      | none =>
        simp only [VR] at hy; subst hy
        exact fin (guard0 (by simp) (by simp)) (run_equal_of (run_eq_ptr2 w 9999 t _ hu)) (fun _ _ _ => trivial) rfl rfl
      | some a =>
        simp only [VR] at hy; obtain ⟨_, e, _, rfl⟩ := hy
        exact fin (guard0 (by simp) (by simp)) (run_equal_of (run_eq_ptr2 w 9999 t _ hu)) (fun _ _ _ => trivial) rfl rfl
    · cases h
  · rename_i a _ _ _ _
    split at h
    · rename_i e hu
      injection h with h; subst h
      simp only [VR] at hy; obtain ⟨_, rfl⟩ := hy
      cases a with
      | none =>
        simp only [VR] at hx; obtain ⟨_, rfl⟩ := hx
        exact fin (guard0 (by simp) (by simp)) (run_equal_of (run_eq_sl1 w 9999 t _ _ _ _ _ hu)) (fun _ _ _ => trivial) rfl rfl
      | some a =>
        simp only [VR] at hx
        obtain ⟨_, e, _, ⟨c, _, _, rfl⟩ | ⟨_, a', rfl⟩⟩ := hx <;>
        exact fin (guard0 (by simp) (by simp)) (run_equal_of (run_eq_sl1 w 9999 t _ _ _ _ _ hu)) (fun _ _ _ => trivial) rfl rfl
    · cases h
  · rename_i a _ _ _
    split at h
    · rename_i e hu
      injection h with h; subst h
      simp only [VR] at hx; obtain ⟨_, rfl⟩ := hx
      cases a with
      | none =>
        simp only [VR] at hy; obtain ⟨_, rfl⟩ := hy
        exact fin (guard0 (by simp) (by simp)) (run_equal_of (run_eq_sl2 w 9999 t _ _ _ _ _ hu)) (fun _ _ _ => trivial) rfl rfl
      | some a =>
        simp only [VR] at hy
        obtain ⟨_, e, _, ⟨c, _, _, rfl⟩ | ⟨_, a', rfl⟩⟩ := hy <;>
        exact fin (guard0 (by simp) (by simp)) (run_equal_of (run_eq_sl2 w 9999 t _ _ _ _ _ hu)) (fun _ _ _ => trivial) rfl rfl
    · cases h
  · split at h
    · rename_i hu
      injection h with h; subst h
      simp only [VR] at hx hy; subst hx; subst hy
      exact fin (guard0 (by simp) (by simp)) (run_equal_of (run_eq_fn1 w 9999 t hu)) (fun _ _ _ => trivial) rfl rfl
    · cases h
  · split at h
    · rename_i hu
      injection h with h; subst h
      simp only [VR] at hx hy; obtain ⟨_, _, rfl, _⟩ := hx; subst hy
      exact fin (guard0 (by simp) (by simp)) (run_equal_of (run_eq_fn2 w 9999 t _ _ _ hu)) (fun _ _ _ => trivial) rfl rfl
    · cases h
  · cases h

def abin (P : Program) (op : BinOp) (t : TypeId) (vx vy : Value) : Option Value :=
  match vx, vy with
  | .int k a, .int k' b =>
    match op with
    | .shl => pr P (Op.shift .shl k a k' b)
    | .shr => pr P (Op.shift .shr k a k' b)
    | op => if k = k' then aint P op k a b else none
  | .string a, .string b => pr P (Op.stringOp op a b)
  | vx, vy =>
    match op with
    | .eql => (aeq P t vx vy).map .bool
    | .neq => (aeq P t vx vy).map fun b => .bool !b
    | _ => none

theorem flat_pr_int {P : Program} {op : BinOp} {k : IntKind} {a b : Int} {v : Value} (h : pr P (Op.intBits op k a b) = some v) : flat v = true := by
  cases op <;> simp [Op.intBits, pr, pure, stuck] at h <;> subst h <;> rfl
theorem flat_pr_shift {P : Program} {op : BinOp} {k k' : IntKind} {a b : Int} {v : Value} (h : pr P (Op.shift op k a k' b) = some v) : flat v = true := by
  unfold Op.shift at h
  split at h
  · simp [runtimePanic, program, goPanic, pr, bind, Sem.bind] at h
  · cases op <;> simp [pr, pure, stuck] at h <;> subst h <;> rfl
theorem flat_pr_string {P : Program} {op : BinOp} {a b : ByteArray} {v : Value} (h : pr P (Op.stringOp op a b) = some v) : flat v = true := by
  cases op <;> simp only [Op.stringOp] at h
  case add =>
    split at h
    · simp [pr, unsupported] at h
    · simp [pr, pure] at h; subst h; rfl
  all_goals (simp [pr, pure, stuck] at h; try (subst h; rfl))

theorem aint_sound {P : Program} {w : World} {op : BinOp} {t : TypeId} {k : IntKind} {a b : Int} {v : Value} (h : aint P op k a b = some v) (hs : op ≠ .shl) (hr : op ≠ .shr) :
    (binOp op t (.int k a) (.int k b)).run P w = .ok v w ∧ flat v = true := by
  cases op <;> simp only [aint] at h
  case and => exact ⟨by simpa [binOp] using run_of_pr h, flat_pr_int h⟩
  case or => exact ⟨by simpa [binOp] using run_of_pr h, flat_pr_int h⟩
  case xor => exact ⟨by simpa [binOp] using run_of_pr h, flat_pr_int h⟩
  case andNot => exact ⟨by simpa [binOp] using run_of_pr h, flat_pr_int h⟩
  case quo =>
    split at h
    · cases h
    · rename_i hb; injection h with h; subst h; exact ⟨by simp [binOp, Op.intDiv, hb], rfl⟩
  case rem =>
    split at h
    · cases h
    · rename_i hb; injection h with h; subst h; exact ⟨by simp [binOp, Op.intDiv, hb], rfl⟩
  case shl => exact absurd rfl hs
  case shr => exact absurd rfl hr
  all_goals (injection h with h; subst h; exact ⟨by simp [binOp, Op.intArith, Op.intCmp], rfl⟩)

theorem abin_sound {P : Program} {μ : Mu} {w : World} {op : BinOp} {t : TypeId} {vx vy vx' vy' v : Value} (x y : Operand) (h : abin P op t vx vy = some v) (hx : VR μ vx vx') (hy : VR μ vy vy') :
    (do eqGuard op t x y vx' vy'; binOp op t vx' vy').run P w = .ok v w ∧ flat v = true := by
  have guard0 : ∀ {a c : Value}, (∀ xs, a ≠ .agg xs) → (a ≠ .nilIface) → (eqGuard op t x y a c).run P w = .ok () w := by
    intro a c h1 h2
    unfold eqGuard
    cases op <;> cases a <;> first | rfl | (exact absurd rfl h2) | (exact absurd rfl (h1 _))
  unfold abin at h
  split at h
  · rename_i k a k' b
    simp only [VR] at hx hy
    subst hx; subst hy
    rw [Sem.run_bind, guard0 (by simp) (by simp), Result.andThen_ok]
    split at h
    · exact ⟨by simpa [binOp] using run_of_pr h, flat_pr_shift h⟩
    · exact ⟨by simpa [binOp] using run_of_pr h, flat_pr_shift h⟩
    · rename_i h1 h2
      split at h
      · rename_i hk
        subst hk
        exact aint_sound h (fun e => h1 e) (fun e => h2 e)
      · cases h
  · simp only [VR] at hx hy
    subst hx; subst hy
    rw [Sem.run_bind, guard0 (by simp) (by simp), Result.andThen_ok]
    exact ⟨by cases op <;> simpa [binOp] using run_of_pr h, flat_pr_string h⟩
  · split at h
    · cases he : aeq P t vx vy with
      | none => simp [he] at h
      | some b =>
        simp only [he, Option.map_some, Option.some.injEq] at h
        subst h
        obtain ⟨h1, _, h2, _⟩ := aeq_sound (w := w) .eql x y he hx hy
        exact ⟨by rw [Sem.run_bind, h1, Result.andThen_ok]; exact h2, rfl⟩
    · cases he : aeq P t vx vy with
      | none => simp [he] at h
      | some b =>
        simp only [he, Option.map_some, Option.some.injEq] at h
        subst h
        obtain ⟨h1, _, _, h2⟩ := aeq_sound (w := w) .neq x y he hx hy
        exact ⟨by rw [Sem.run_bind, h1, Result.andThen_ok]; exact h2, rfl⟩
    · cases h

end Go.Abs
