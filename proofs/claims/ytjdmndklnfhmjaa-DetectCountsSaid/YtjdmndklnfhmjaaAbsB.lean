/- The abstract operations, and that the machine's operations do what they say. -/
import Derived.Test.YtjdmndklnfhmjaaAbsA
import Derived.Laws.AppendOwn
import Derived.Laws.StructEq
set_option linter.unusedVariables false
set_option linter.unusedSimpArgs false
set_option linter.unusedSectionVars false
namespace Go.Abs
open Go.RowKit

abbrev Env := List (Nat × Value)
def Env.get : Env → Nat → Option Value
  | [], _ => none
  | (k, v) :: r, t => if k = t then some v else Env.get r t
def Env.put (e : Env) (d : Option Tmp) (v : Value) : Env := match d with | some t => (t, v) :: e | none => e

def aev (env : Env) : Operand → Option Value
  | .tmp t => env.get t
  | .const v => if flat v = true then some v else none
  | .func f => some (.func (.func f) #[] #[])
  | .global _ => none
def aevs (env : Env) : List Operand → Option (List Value)
  | [] => some []
  | x :: r => (aev env x).bind fun v => (aevs env r).bind fun l => some (v :: l)

/-! ### what the program says of types -/
def tsz (P : Program) (t : TypeId) : Option Nat := (P.info? t).map (·.size)
def tag (P : Program) (t : TypeId) : Option Bool :=
  match P.underlying t with
  | some (.struct _) => some true
  | some (.array _ _) => some true
  | some _ => some false
  | none => none
def tzero (P : Program) (t : TypeId) : Option Value := (P.info? t).bind fun i => i.zero.bind fun v => if flat v = true then some v else none
def tfield (P : Program) (t : TypeId) (f : Nat) : Option (Nat × TypeId) :=
  match P.underlying t with
  | some (.struct fs) => (fs[f]?).map fun x => (x.offset, x.type)
  | _ => none
def tbytes (P : Program) (t : TypeId) : Option Nat := (P.info? t).map (·.bytes)

section types
variable {P : Program} {t : TypeId} {w : World}
theorem run_underlying_of {d : TypeDesc} (h : P.underlying t = some d) : (underlying t).run P w = .ok d w := by
  simp [underlying, h]
theorem run_sizeOf_of {n : Nat} (h : tsz P t = some n) : (sizeOf t).run P w = .ok n w := by
  unfold tsz at h
  cases hi : P.info? t with
  | none => rw [hi] at h; cases h
  | some i => rw [hi] at h; injection h with h; subst h; simp [sizeOf, typeInfo, hi]
theorem run_isAgg_of {b : Bool} (h : tag P t = some b) : (isAgg t).run P w = .ok b w := by
  unfold tag at h
  cases hu : P.underlying t with
  | none => simp [hu] at h
  | some d => cases d <;> simp [hu] at h <;> subst h <;> simp [isAgg, underlying, hu]
theorem run_zeroValue_of {v : Value} (h : tzero P t = some v) : (zeroValue t).run P w = .ok v w ∧ flat v = true := by
  unfold tzero at h
  cases hi : P.info? t with
  | none => simp [hi] at h
  | some i =>
    cases hz : i.zero with
    | none => simp [hi, hz] at h
    | some z =>
      simp only [hi, hz, Option.bind_some] at h
      split at h
      · injection h with h; subst h; rename_i hf; exact ⟨by simp [zeroValue, typeInfo, hi, hz], hf⟩
      · cases h
end types

/-! ### operations that touch no memory -/
def pr {α : Type} (P : Program) : Sem α → Option α
  | .pure a => some a
  | .program k => pr P (k P)
  | _ => none
theorem run_of_pr {α : Type} {P : Program} {w : World} : ∀ {s : Sem α} {a : α}, pr P s = some a → s.run P w = .ok a w := by
  intro s
  induction s with
  | pure a => intro b h; simp only [pr, Option.some.injEq] at h; subst h; rfl
  | program k ih => intro b h; simp only [pr] at h; exact ih P h
  | _ => intro b h; simp [pr] at h

def aint (P : Program) (op : BinOp) (k : IntKind) (a b : Int) : Option Value :=
  match op with
  | .add => some (.int k (k.wrap (a + b)))
  | .sub => some (.int k (k.wrap (a - b)))
  | .mul => some (.int k (k.wrap (a * b)))
  | .quo => if b = 0 then none else some (.int k (k.wrap (a.tdiv b)))
  | .rem => if b = 0 then none else some (.int k (a.tmod b))
  | .eql => some (.bool (a == b))
  | .neq => some (.bool (a != b))
  | .lss => some (.bool (decide (a < b)))
  | .leq => some (.bool (decide (a ≤ b)))
  | .gtr => some (.bool (decide (b < a)))
  | .geq => some (.bool (decide (b ≤ a)))
  | .and => pr P (Op.intBits .and k a b)
  | .or => pr P (Op.intBits .or k a b)
  | .xor => pr P (Op.intBits .xor k a b)
  | .andNot => pr P (Op.intBits .andNot k a b)
  | _ => none

/-- '==' by a type, on cells. -/
def eqTy (P : Program) : Nat → TypeId → List Value → List Value → Option Bool
  | 0, _, _, _ => none
  | d + 1, t, xs, ys =>
    match P.underlying t with
    | some .bool => match xs, ys with | [.bool a], [.bool b] => some (a == b) | _, _ => none
    | some (.int _) => match xs, ys with | [.int k a], [.int k' b] => if k = k' then some (a == b) else none | _, _ => none
    | some .string => match xs, ys with | [.string a], [.string b] => some (a == b) | _, _ => none
    | some (.struct fields) =>
      if P.stoodInHeld t = true then none else
      fields.toList.foldr (fun f r => if f.name = "_" then none else
        (tsz P f.type).bind fun n => if f.offset + n ≤ xs.length ∧ f.offset + n ≤ ys.length then
          (eqTy P d f.type ((xs.drop f.offset).take n) ((ys.drop f.offset).take n)).bind fun b => r.bind fun c => some (b && c) else none) (some true)
    | some (.array len e) =>
      (tsz P e).bind fun n => if len * n ≤ xs.length ∧ len * n ≤ ys.length then
        (List.range len).foldr (fun i r => (eqTy P d e ((xs.drop (i * n)).take n) ((ys.drop (i * n)).take n)).bind fun b => r.bind fun c => some (b && c)) (some true) else none
    | _ => none

/-- A value out of its cells. -/
def ofCells (ag : Bool) (cs : List Value) : Option Value := if ag then some (.agg cs.toArray) else match cs with | [v] => some v | _ => none

theorem run_part {P : Program} {w : World} {t : TypeId} {cs : Array Value} {off n : Nat} {ag : Bool} {v : Value} (hs : tsz P t = some n) (ha : tag P t = some ag) (h1 : ag = false → n = 1)
    (hv : ofCells ag ((cs.toList.drop off).take n) = some v) : (part t cs off).run P w = .ok v w := by
  simp only [part, Sem.run_bind, run_isAgg_of ha, Result.andThen_ok]
  cases ag with
  | true =>
    simp only [if_true, Sem.run_bind, run_sizeOf_of hs, Result.andThen_ok, Sem.run_pure]
    simp only [ofCells, if_true, Option.some.injEq] at hv
    subst hv
    congr 2
    apply Array.toList_inj.1
    simp [List.extract_eq_take_drop]
  | false =>
    simp only [Bool.false_eq_true, if_false]
    obtain rfl := h1 rfl
    simp only [ofCells, Bool.false_eq_true, if_false] at hv
    have : cs[off]? = some v := by
      rw [← Array.getElem?_toList]
      have h0 : ((cs.toList.drop off).take 1)[0]? = cs.toList[off]? := by simp
      rw [← h0]
      split at hv
      · rename_i x hx; rw [hx]; simpa using hv
      · cases hv
    rw [this]
    rfl

theorem eqTy_shape {P : Program} {d : Nat} {t : TypeId} {xs ys : List Value} {b : Bool} (h : eqTy P d t xs ys = some b) :
    ∃ ag vx vy, tag P t = some ag ∧ ofCells ag xs = some vx ∧ ofCells ag ys = some vy ∧ (ag = false → xs.length = 1) := by
  cases d with
  | zero => simp [eqTy] at h
  | succ d =>
    unfold eqTy at h
    unfold tag
    split at h
    · rename_i hu; split at h
      · exact ⟨false, _, _, by rw [hu], rfl, rfl, fun _ => rfl⟩
      · cases h
    · rename_i hu; split at h
      · exact ⟨false, _, _, by rw [hu], rfl, rfl, fun _ => rfl⟩
      · cases h
    · rename_i hu; split at h
      · exact ⟨false, _, _, by rw [hu], rfl, rfl, fun _ => rfl⟩
      · cases h
    · rename_i hu; exact ⟨true, _, _, by rw [hu], rfl, rfl, fun h => by cases h⟩
    · rename_i hu; exact ⟨true, _, _, by rw [hu], rfl, rfl, fun h => by cases h⟩
    · cases h

theorem run_parts {P : Program} {w : World} {d D : Nat} {t : TypeId} {xs ys : List Value} {off n : Nat} {b : Bool}
    (ih : ∀ D, d ≤ D → ∀ t xs ys b, eqTy P d t xs ys = some b → ∀ ag vx vy, tag P t = some ag → ofCells ag xs = some vx → ofCells ag ys = some vy → ∀ w, (Op.equalIn D t vx vy).run P w = .ok b w)
    (hD : d ≤ D) (hs : tsz P t = some n) (hx : off + n ≤ xs.length) (h : eqTy P d t ((xs.drop off).take n) ((ys.drop off).take n) = some b) :
    ((part t xs.toArray off).run P w).andThen (fun a w' => ((part t ys.toArray off).run P w').andThen fun c w'' => (Op.equalIn D t a c).run P w'') = .ok b w ∧
    ∃ a c, (part t xs.toArray off).run P w = .ok a w ∧ (part t ys.toArray off).run P w = .ok c w ∧ (Op.equalIn D t a c).run P w = .ok b w := by
  obtain ⟨ag, vx, vy, ha, h1, h2, h3⟩ := eqTy_shape h
  have hn : ag = false → n = 1 := fun hf => by
    have := h3 hf
    rw [List.length_take, List.length_drop] at this
    omega
  have p1 := run_part (w := w) (cs := xs.toArray) hs ha hn (by simpa using h1)
  have p2 := run_part (w := w) (cs := ys.toArray) hs ha hn (by simpa using h2)
  have p3 := ih D hD t _ _ b h ag vx vy ha h1 h2 w
  exact ⟨by rw [p1, Result.andThen_ok, p2, Result.andThen_ok, p3], vx, vy, p1, p2, p3⟩

theorem eqTy_sound {P : Program} : ∀ (d D : Nat), d ≤ D → ∀ t xs ys b, eqTy P d t xs ys = some b → ∀ ag vx vy, tag P t = some ag → ofCells ag xs = some vx → ofCells ag ys = some vy →
    ∀ w, (Op.equalIn D t vx vy).run P w = .ok b w
  | 0, _, _, t, xs, ys, b, h, _, _, _, _, _, _, _ => by simp [eqTy] at h
  | d + 1, 0, hd, _, _, _, _, _, _, _, _, _, _, _, _ => by omega
  | d + 1, D + 1, hd, t, xs, ys, b, h, ag, vx, vy, ha, hx, hy, w => by
    have ih := fun D hD => eqTy_sound (P := P) d D hD
    unfold eqTy at h
    unfold tag at ha
    split at h
    · rename_i hu
      simp only [hu, Option.some.injEq] at ha
      subst ha
      split at h
      · simp only [ofCells, Bool.false_eq_true, if_false, Option.some.injEq] at hx hy
        subst hx; subst hy
        injection h with h
        subst h
        exact run_equalIn_bool' w D t _ _ hu
      · cases h
    · rename_i hu
      simp only [hu, Option.some.injEq] at ha
      subst ha
      split at h
      · simp only [ofCells, Bool.false_eq_true, if_false, Option.some.injEq] at hx hy
        subst hx; subst hy
        split at h
        · rename_i hk
          injection h with h
          subst h; subst hk
          exact run_equalIn_int w D t _ _ _ _ hu
        · cases h
      · cases h
    · rename_i hu
      simp only [hu, Option.some.injEq] at ha
      subst ha
      split at h
      · simp only [ofCells, Bool.false_eq_true, if_false, Option.some.injEq] at hx hy
        subst hx; subst hy
        injection h with h
        subst h
        rw [beq_toListBytes]
        exact run_equalIn_string w D t _ _ hu
      · cases h
    · rename_i fields hu
      simp only [hu, Option.some.injEq] at ha
      subst ha
      simp only [ofCells, if_true, Option.some.injEq] at hx hy
      subst hx; subst hy
      split at h
      · cases h
      · rename_i hst
        have hfo : P.fieldsOf t = fields := by unfold Program.fieldsOf; rw [hu]
        rw [run_equalIn_struct w D t _ _ (by rw [hfo]; exact hu) (by simpa using hst), hfo]
        clear hu hfo
        generalize fields.toList = fl at h ⊢
        induction fl generalizing b with
        | nil => simp only [List.foldr_nil, Option.some.injEq] at h; subst h; rfl
        | cons f fl ihf =>
          simp only [List.foldr_cons] at h
          split at h
          · cases h
          · rename_i hname
            cases hs : tsz P f.type with
            | none => simp [hs] at h
            | some n =>
              simp only [hs, Option.bind_some] at h
              split at h
              · rename_i hl
                cases he : eqTy P d f.type ((xs.drop f.offset).take n) ((ys.drop f.offset).take n) with
                | none => simp [he] at h
                | some b1 =>
                  simp only [he, Option.bind_some] at h
                  obtain ⟨_, a, c, p1, p2, p3⟩ := run_parts (w := w) ih (D := D) (by omega) hs hl.1 he
                  simp only [Op.eqFields]
                  rw [if_pos hname]
                  simp only [Sem.run_bind, p1, Result.andThen_ok, p2, p3, Sem.run_ite, Sem.run_pure]
                  cases hr : (fl.foldr (fun f r => if f.name = "_" then none else
        (tsz P f.type).bind fun n => if f.offset + n ≤ xs.length ∧ f.offset + n ≤ ys.length then
          (eqTy P d f.type ((xs.drop f.offset).take n) ((ys.drop f.offset).take n)).bind fun b => r.bind fun c => some (b && c) else none) (some true)) with
                  | none => rw [hr] at h; simp at h
                  | some b2 =>
                    rw [hr] at h
                    simp only [Option.bind_some, Option.some.injEq] at h
                    subst h
                    cases b1
                    · simp
                    · simp only [Bool.not_true, Bool.false_eq_true, if_false, Bool.true_and]
                      exact ihf b2 hr
              · cases h
    · rename_i len e hu
      simp only [hu, Option.some.injEq] at ha
      subst ha
      simp only [ofCells, if_true, Option.some.injEq] at hx hy
      subst hx; subst hy
      cases hs : tsz P e with
      | none => simp [hs] at h
      | some n =>
        simp only [hs, Option.bind_some] at h
        split at h
        · rename_i hl
          simp only [Op.equalIn, Sem.run_bind, run_underlying_of hu, Result.andThen_ok, run_sizeOf_of hs]
          rw [Std.Legacy.Range.forIn_eq_forIn_range']
          simp only [Std.Legacy.Range.size, Nat.sub_zero, Nat.add_sub_cancel, Nat.div_one, ← List.range_eq_range']
          have hmem : ∀ i ∈ List.range len, i < len := fun i hi => List.mem_range.1 hi
          generalize List.range len = l at h hmem ⊢
          clear hu
          induction l generalizing b with
          | nil => simp only [List.foldr_nil, Option.some.injEq] at h; subst h; rfl
          | cons i l ihl =>
            simp only [List.foldr_cons] at h
            have hi : i * n + n ≤ xs.length := by
              have h1 := hmem i (by simp)
              have : (i + 1) * n ≤ len * n := Nat.mul_le_mul_right n h1
              rw [Nat.succ_mul] at this
              omega
            cases he : eqTy P d e ((xs.drop (i * n)).take n) ((ys.drop (i * n)).take n) with
            | none => simp [he] at h
            | some b1 =>
              simp only [he, Option.bind_some] at h
              obtain ⟨_, a, c, p1, p2, p3⟩ := run_parts (w := w) ih (D := D) (by omega) hs hi he
              simp only [List.forIn_cons, Sem.run_bind, p1, Result.andThen_ok, p2, p3, Sem.run_ite, Sem.run_pure]
              cases hr : (l.foldr (fun i r => (eqTy P d e ((xs.drop (i * n)).take n) ((ys.drop (i * n)).take n)).bind fun b => r.bind fun c => some (b && c)) (some true)) with
              | none => rw [hr] at h; simp at h
              | some b2 =>
                rw [hr] at h
                simp only [Option.bind_some, Option.some.injEq] at h
                subst h
                cases b1
                · simp
                · simp only [Bool.not_true, Bool.false_eq_true, if_false, Bool.true_and, Result.andThen_ok]
                  exact ihl b2 hr (fun j hj => hmem j (by simp [hj]))
        · cases h
    · cases h

end Go.Abs
