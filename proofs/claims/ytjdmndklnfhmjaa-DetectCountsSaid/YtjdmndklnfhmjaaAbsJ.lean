/- Entering and leaving a function; another abstract memory for the same world; loops. -/
import Derived.Test.YtjdmndklnfhmjaaAbsI
import Derived.RangeFuncRecord
set_option linter.unusedVariables false
set_option linter.unusedSimpArgs false
set_option linter.unusedSectionVars false
namespace Go.Abs
open Go.RowKit

/-! ### renaming blocks -/
mutual
def ren (ρ : Nat → Nat) : Value → Value
  | .pointer (some a) => .pointer (some { a with block := ρ a.block })
  | .slice (some a) n c => .slice (some { a with block := ρ a.block }) n c
  | .func fn f c => .func fn (renA ρ f) (renA ρ c)
  | .agg cs => .agg (renA ρ cs)
  | .tuple cs => .tuple (renA ρ cs)
  | .iface t v => .iface t (ren ρ v)
  | v => v
def renA (ρ : Nat → Nat) : Array Value → Array Value
  | ⟨l⟩ => ⟨renL ρ l⟩
def renL (ρ : Nat → Nat) : List Value → List Value
  | [] => []
  | v :: l => ren ρ v :: renL ρ l
end
mutual
/-- Every block that it names is below n. -/
def refs (n : Nat) : Value → Bool
  | .pointer (some a) => decide (a.block < n)
  | .slice (some a) _ _ => decide (a.block < n)
  | .func _ f c => refsA n f && refsA n c
  | .agg cs => refsA n cs
  | .tuple cs => refsA n cs
  | .iface _ v => refs n v
  | _ => true
def refsA (n : Nat) : Array Value → Bool
  | ⟨l⟩ => refsL n l
def refsL (n : Nat) : List Value → Bool
  | [] => true
  | v :: l => refs n v && refsL n l
end
mutual
theorem VR_ren {μ : Mu} {ρ : Nat → Nat} : ∀ {v v' : Value}, VR μ (ren ρ v) v' → VR (fun b => μ (ρ b)) v v'
  | .pointer (some a), v', h => by simpa only [ren, VR] using h
  | .slice (some a) n c, v', h => by simpa only [ren, VR] using h
  | .slice none n c, v', h => by simpa only [ren, VR] using h
  | .func fn f c, v', h => by
    simp only [ren, VR] at h ⊢
    obtain ⟨f', c', e, h1, h2⟩ := h
    exact ⟨f', c', e, VRa_ren h1, VRa_ren h2⟩
  | .agg cs, v', h => by
    simp only [ren, VR] at h ⊢
    obtain ⟨c', e, h1⟩ := h
    exact ⟨c', e, VRa_ren h1⟩
  | .tuple cs, v', h => by
    simp only [ren, VR] at h ⊢
    obtain ⟨c', e, h1⟩ := h
    exact ⟨c', e, VRa_ren h1⟩
  | .iface t v, v', h => by
    simp only [ren, VR] at h ⊢
    obtain ⟨c', e, h1⟩ := h
    exact ⟨c', e, VR_ren h1⟩
  | .chan (some _), _, h => by simpa only [ren, VR] using h
  | .map _, _, h => by simpa only [ren, VR] using h
  | .chan none, _, h => by simpa only [ren, VR] using h
  | .pointer none, _, h => by simpa only [ren, VR] using h
  | .bool _, _, h => by simpa only [ren, VR] using h
  | .int _ _, _, h => by simpa only [ren, VR] using h
  | .float _ _, _, h => by simpa only [ren, VR] using h
  | .complex _ _ _, _, h => by simpa only [ren, VR] using h
  | .string _, _, h => by simpa only [ren, VR] using h
  | .nilFunc, _, h => by simpa only [ren, VR] using h
  | .nilIface, _, h => by simpa only [ren, VR] using h
theorem VRa_ren {μ : Mu} {ρ : Nat → Nat} : ∀ {v v' : Array Value}, VRa μ (renA ρ v) v' → VRa (fun b => μ (ρ b)) v v'
  | ⟨l⟩, l', h => by
    simp only [renA, VRa] at h ⊢
    exact VRs_ren h
theorem VRs_ren {μ : Mu} {ρ : Nat → Nat} : ∀ {v v' : List Value}, VRs μ (renL ρ v) v' → VRs (fun b => μ (ρ b)) v v'
  | [], _, h => by simpa only [renL, VRs] using h
  | v :: l, l', h => by
    simp only [renL, VRs] at h ⊢
    obtain ⟨u, r, e, h1, h2⟩ := h
    exact ⟨u, r, e, VR_ren h1, VRs_ren h2⟩
end
mutual
theorem ren_id {n : Nat} {ρ : Nat → Nat} (hρ : ∀ b, b < n → ρ b = b) : ∀ {v : Value}, refs n v = true → ren ρ v = v
  | .pointer (some a), h => by simp only [refs, decide_eq_true_eq] at h; simp only [ren, hρ _ h]
  | .slice (some a) _ _, h => by simp only [refs, decide_eq_true_eq] at h; simp only [ren, hρ _ h]
  | .slice none _ _, _ => by simp only [ren]
  | .func fn f c, h => by
    simp only [refs, Bool.and_eq_true] at h
    simp only [ren, renA_id hρ h.1, renA_id hρ h.2]
  | .agg cs, h => by simp only [refs] at h; simp only [ren, renA_id hρ h]
  | .tuple cs, h => by simp only [refs] at h; simp only [ren, renA_id hρ h]
  | .iface t v, h => by simp only [refs] at h; simp only [ren, ren_id hρ h]
  | .map _, _ => by simp only [ren]
  | .chan _, _ => by simp only [ren]
  | .pointer none, _ => by simp only [ren]
  | .bool _, _ => by simp only [ren]
  | .int _ _, _ => by simp only [ren]
  | .float _ _, _ => by simp only [ren]
  | .complex _ _ _, _ => by simp only [ren]
  | .string _, _ => by simp only [ren]
  | .nilFunc, _ => by simp only [ren]
  | .nilIface, _ => by simp only [ren]
theorem renA_id {n : Nat} {ρ : Nat → Nat} (hρ : ∀ b, b < n → ρ b = b) : ∀ {v : Array Value}, refsA n v = true → renA ρ v = v
  | ⟨l⟩, h => by
    simp only [refsA] at h
    simp only [renA, renL_id hρ h]
theorem renL_id {n : Nat} {ρ : Nat → Nat} (hρ : ∀ b, b < n → ρ b = b) : ∀ {v : List Value}, refsL n v = true → renL ρ v = v
  | [], _ => by simp only [renL]
  | v :: l, h => by
    simp only [refsL, Bool.and_eq_true] at h
    simp only [renL, ren_id hρ h.1, renL_id hρ h.2]
end
mutual
theorem VR_refs {μ : Mu} {n : Nat} (hd : ∀ b e, μ b = some e → b < n) : ∀ {v v' : Value}, VR μ v v' → refs n v = true
  | .pointer (some a), v', h => by simp only [VR] at h; obtain ⟨_, e, he, _⟩ := h; simpa [refs] using hd _ _ he
  | .slice (some a) n c, v', h => by simp only [VR] at h; obtain ⟨_, e, he, _⟩ := h; simpa [refs] using hd _ _ he
  | .func fn f c, v', h => by
    simp only [VR] at h
    obtain ⟨f', c', e, h1, h2⟩ := h
    simp only [refs, VRa_refs hd h1, VRa_refs hd h2, Bool.and_self]
  | .agg cs, v', h => by
    simp only [VR] at h
    obtain ⟨c', e, h1⟩ := h
    simp only [refs, VRa_refs hd h1]
  | .tuple cs, v', h => by
    simp only [VR] at h
    obtain ⟨c', e, h1⟩ := h
    simp only [refs, VRa_refs hd h1]
  | .iface t v, v', h => by
    simp only [VR] at h
    obtain ⟨c', e, h1⟩ := h
    simp only [refs, VR_refs hd h1]
  | .slice none _ _, _, _ => by simp only [refs]
  | .map _, _, _ => by simp only [refs]
  | .chan _, _, _ => by simp only [refs]
  | .pointer none, _, _ => by simp only [refs]
  | .bool _, _, _ => by simp only [refs]
  | .int _ _, _, _ => by simp only [refs]
  | .float _ _, _, _ => by simp only [refs]
  | .complex _ _ _, _, _ => by simp only [refs]
  | .string _, _, _ => by simp only [refs]
  | .nilFunc, _, _ => by simp only [refs]
  | .nilIface, _, _ => by simp only [refs]
theorem VRa_refs {μ : Mu} {n : Nat} (hd : ∀ b e, μ b = some e → b < n) : ∀ {v v' : Array Value}, VRa μ v v' → refsA n v = true
  | ⟨l⟩, l', h => by
    simp only [VRa] at h
    simp only [refsA, VRs_refs hd h]
theorem VRs_refs {μ : Mu} {n : Nat} (hd : ∀ b e, μ b = some e → b < n) : ∀ {v v' : List Value}, VRs μ v v' → refsL n v = true
  | [], _, _ => by simp only [refsL]
  | v :: l, l', h => by
    simp only [VRs] at h
    obtain ⟨u, r, e, h1, h2⟩ := h
    simp only [refsL, VR_refs hd h1, VRs_refs hd h2, Bool.and_self]
end
theorem one_ren {ρ : Nat → Nat} : ∀ {v : Value}, one (ren ρ v) = one v
  | .pointer (some _) => rfl
  | .pointer none => rfl
  | .slice (some _) _ _ => rfl
  | .slice none _ _ => rfl
  | .func _ _ _ => rfl
  | .agg _ => rfl
  | .tuple _ => rfl
  | .iface _ _ => rfl
  | .map _ => rfl
  | .chan _ => rfl
  | .bool _ => rfl
  | .int _ _ => rfl
  | .float _ _ => rfl
  | .complex _ _ _ => rfl
  | .string _ => rfl
  | .nilFunc => rfl
  | .nilIface => rfl
theorem all_one_ren {ρ : Nat → Nat} : ∀ {l : List Value}, (renL ρ l).all one = l.all one
  | [] => rfl
  | v :: l => by simp only [renL, List.all_cons, one_ren, all_one_ren]
theorem renL_length {ρ : Nat → Nat} : ∀ {l : List Value}, (renL ρ l).length = l.length
  | [] => rfl
  | v :: l => by simp only [renL, List.length_cons, renL_length]

/-- The memory H2 says of the same world what H says: its block b is H's block ρ b; below n nothing is renamed. -/
structure Wk (n : Nat) (ρ : Nat → Nat) (H2 H : Hp) : Prop where
  fix : ∀ b, b < n → ρ b = b
  out : ∀ b, H2.next ≤ b → H.next ≤ ρ b
  row : ∀ b cs own k, H2.get b = .row cs own k → H.get (ρ b) = .row (renL ρ cs) own k
  inj : ∀ b b' cs cs' k k', b ≠ b' → H2.get b = .row cs true k → H2.get b' = .row cs' true k' → ρ b ≠ ρ b'
  ob : ∀ r o, H2.ob r = some o → H.ob r = some o

theorem Sim.weak {base n : Nat} {μ : Mu} {H H2 : Hp} {w : World} {ρ : Nat → Nat} (h : Sim base μ H w) (hw : Wk n ρ H2 H) : Sim base (fun b => μ (ρ b)) H2 w := by
  refine ⟨h.hb, fun b e he => ?_, fun b cs own k hg => ?_, fun b b' cs cs' k k' e e' hne g1 g2 m1 m2 => ?_, fun r o ho => h.ob r o (hw.ob r o ho)⟩
  · rcases Nat.lt_or_ge b H2.next with hb | hb
    · exact hb
    · have := hw.out b hb
      have := h.dom _ _ he
      omega
  · obtain ⟨e, arr, T, fz, he, hr, h1, h2, h3, h4, h5⟩ := h.row _ _ _ _ (hw.row _ _ _ _ hg)
    rw [renL_length] at h2 h3
    exact ⟨e, arr, T, fz, he, hr, by rw [all_one_ren] at h1; exact h1, h2, VRs_ren h3, h4, h5⟩
  · exact h.inj _ _ _ _ _ _ _ _ (hw.inj _ _ _ _ _ _ hne g1 g2) (hw.row _ _ _ _ g1) (hw.row _ _ _ _ g2) m1 m2

/-- Frame and memory told anew. -/
def Weak (n : Nat) (env2 : Env) (H2 : Hp) (env : Env) (H : Hp) : Prop := ∃ ρ, Wk n ρ H2 H ∧ ∀ t v, env2.get t = some v → env.get t = some (ren ρ v)

theorem St.weak {base N n0 : Nat} {μ0 μ : Mu} {w0 w : World} {env env2 : Env} {H H2 : Hp} {a : Act} (hdom : ∀ b e, μ0 b = some e → b < n0) (h : St base μ0 w0 N μ env H a w) (hw : Weak n0 env2 H2 env H) : ∃ ν, St base μ0 w0 N ν env2 H2 a w := by
  obtain ⟨ρ, h1, h2⟩ := hw
  refine ⟨fun b => μ (ρ b), fun b e he => ?_, h.sim.weak h1, fun t v hv => ?_, h.size, h.marks, h.ext⟩
  · show μ (ρ b) = some e
    rw [h1.fix b (hdom _ _ he)]
    exact h.le _ _ he
  · obtain ⟨v', h3, h4⟩ := h.env t _ (h2 t v hv)
    exact ⟨v', h3, VR_ren h4⟩

section
variable {P : Program} {N n0 : Nat} {r : Option Nat} {Q : Exit → Env → Hp → Prop} {env env2 : Env} {H H2 : Hp}

theorem AWP_weak {c : Code} (hw : Weak n0 env2 H2 env H) (h : AWP P N n0 r c Q env2 H2) : AWP P N n0 r c Q env H := by
  intro hok base μ0 w0 hdom μ a w hst
  obtain ⟨ν, hst2⟩ := hst.weak hdom hw
  exact h hok base μ0 w0 hdom ν a w hst2

/-- A loop, by a relation and a measure. -/
theorem wpIn_loop_ghost {F : Fence} {n : Nat} {Q : Exit → Act → World → Prop} {c : Code} (I : Nat → Act → World → Prop) {m : Nat} {a : Act} {w : World} (h₀ : I m a w)
    (round : ∀ m a w, I m a w → c.wpIn F n P (Exit.then (fun a' w' => ∃ m', m' < m ∧ I m' a' w') Q) a w) : (Code.loop c).wpIn F n P Q a w := by
  intro b k cs hro hb hr
  have key : ∀ j a w, I j a w →
      ∃ e a' w', Q e a' w' ∧ ArrivesIn (Machine.fenced P F) P (lone (b.atR a (.code c :: .inLoop c :: k)) cs w) b k cs e a' w' := by
    intro j
    induction j using Nat.strongRecOn with
    | _ j ih =>
      intro a w hI
      obtain ⟨e, a₁, w₁, hq, harr⟩ := round j a w hI b (.inLoop c :: k) cs hro hb hr
      cases e with
      | normal =>
        obtain ⟨m', hlt, hI₁⟩ := hq
        obtain ⟨e₂, a₂, w₂, hq₂, harr₂⟩ := ih m' hlt a₁ w₁ hI₁
        exact ⟨e₂, a₂, w₂, hq₂, .of_steps (StepsIn.trans harr (.one (fenced_calm hb hr rfl) stepR_inLoop)) harr₂⟩
      | exit id => exact ⟨_, a₁, w₁, hq, .pass (x := .inLoop c) rfl (fun _ _ => .inl (by simp)) harr⟩
      | goto l => exact ⟨_, a₁, w₁, hq, .pass (x := .inLoop c) rfl (fun _ _ => .inl (by simp)) harr⟩
      | ret => exact ⟨_, a₁, w₁, hq, .pass (x := .inLoop c) rfl (fun _ _ => .inl (by simp)) harr⟩
      | panic ch => exact ⟨_, a₁, w₁, hq, .pass (x := .inLoop c) rfl (fun _ _ => .inl (by simp)) harr⟩
      | outgrown => exact ⟨_, a₁, w₁, hq, .pass (x := .inLoop c) rfl (fun _ _ => .inl (by simp)) harr⟩
  obtain ⟨e, a', w', hq, harr⟩ := key m a w h₀
  exact ⟨e, a', w', hq, .of_steps (.one (fenced_calm hb hr rfl) stepR_loop) harr⟩

theorem AWP_loop {σ : Type} (E : σ → Env) (M : σ → Hp) (I : σ → Prop) (m : σ → Nat) (s0 : σ) {c : Code} (h0 : I s0) (hw : Weak n0 (E s0) (M s0) env H)
    (round : ∀ s, I s → AWP P N n0 r c (thenQ (fun env' H' => ∃ s', I s' ∧ m s' < m s ∧ Weak n0 (E s') (M s') env' H') Q) (E s) (M s)) : AWP P N n0 r (.loop c) Q env H := by
  intro hok base μ0 w0 hdom μ a w hst
  obtain ⟨ν, hst0⟩ := hst.weak hdom hw
  refine wpIn_loop_ghost (fun j a w => ∃ s μ, I s ∧ m s = j ∧ St base μ0 w0 N μ (E s) (M s) a w) ⟨s0, ν, h0, rfl, hst0⟩ ?_
  rintro j a1 w1 ⟨s, μ1, hI, rfl, hst1⟩
  refine wpIn_mono (round s hI hok base μ0 w0 hdom μ1 a1 w1 hst1) ?_
  rintro e a2 w2 ⟨h1, env', H', μ', h2, h3⟩
  cases e with
  | normal =>
    obtain ⟨s', hI', hlt, hw'⟩ := h2
    obtain ⟨ν', hst'⟩ := h3.weak hdom hw'
    exact ⟨m s', hlt, s', ν', hI', rfl, hst'⟩
  | _ => exact ⟨h1, env', H', μ', h2, h3⟩

/-! ### entering and leaving a function -/
def params : Nat → List Value → Env
  | _, [] => []
  | i, v :: l => (i, v) :: params (i + 1) l
theorem params_get : ∀ {l : List Value} {i t : Nat} {v : Value}, (params i l).get t = some v → i ≤ t ∧ l[t - i]? = some v
  | [], i, t, v, h => by simp [params, Env.get] at h
  | x :: l, i, t, v, h => by
    simp only [params, Env.get] at h
    split at h
    · rename_i hit; subst hit; injection h with h; subst h; exact ⟨Nat.le_refl _, by simp⟩
    · rename_i hit
      obtain ⟨h1, h2⟩ := params_get h
      refine ⟨by omega, ?_⟩
      have : t - i = (t - (i + 1)) + 1 := by omega
      rw [this]
      simpa using h2

def WfH (H : Hp) : Prop := ∀ b cs own k, H.get b = .row cs own k → b < H.next ∧ refsL H.next cs = true
theorem Sim.wf {base : Nat} {μ : Mu} {w : World} (h : Sim base μ H w) : WfH H := fun b cs own k hg => by
  obtain ⟨e, arr, T, fz, he, hr, h1, h2, h3, _⟩ := h.row _ _ _ _ hg
  exact ⟨h.dom _ _ he, VRs_refs h.dom h3⟩

def ares (P : Program) (fn : Func) (env : Env) (H : Hp) : Option Value :=
  (fn.results.toList.mapM fun (x : ResultVar) => match x with
    | .tmp t => env.get t
    | .cell a t => (env.get a).bind fun p => aloadT P H t p).map fun vs => match vs with | [v] => v | vs => .tuple vs.toArray

/-- At the end of a function: its results, and a memory told anew. -/
def retQ (P : Program) (fn : Func) (n0 : Nat) (Q : Value → Hp → Prop) (e : Exit) (env : Env) (H : Hp) : Prop :=
  match e with
  | .normal => ∃ v, ares P fn env H = some v ∧ ∃ ρ v2 H2, Wk n0 ρ H2 H ∧ ren ρ v2 = v ∧ Q v2 H2
  | .ret => ∃ v, ares P fn env H = some v ∧ ∃ ρ v2 H2, Wk n0 ρ H2 H ∧ ren ρ v2 = v ∧ Q v2 H2
  | _ => False

theorem run_mapM_rel {α : Type} {f : α → Sem Value} {g : α → Option Value} {μ : Mu} {w : World} (hf : ∀ a b, g a = some b → ∃ b', (f a).run P w = .ok b' w ∧ VR μ b b') : ∀ {l : List α} {vs : List Value}, l.mapM g = some vs → ∃ vs', (l.mapM f).run P w = .ok vs' w ∧ VRs μ vs vs'
  | [], vs, h => by
    simp only [List.mapM_nil, Option.pure_def, Option.some.injEq] at h
    subst h
    exact ⟨[], by simp, by simp [VRs]⟩
  | a :: l, vs, h => by
    simp only [List.mapM_cons, Option.pure_def, Option.bind_eq_bind] at h
    cases ha : g a with
    | none => simp [ha] at h
    | some b =>
      cases hl : l.mapM g with
      | none => simp [ha, hl] at h
      | some r' =>
        simp only [ha, hl, Option.bind_some, Option.some.injEq] at h
        subst h
        obtain ⟨b', h1, h2⟩ := hf a b ha
        obtain ⟨r2, h3, h4⟩ := run_mapM_rel hf hl
        exact ⟨b' :: r2, by simp [List.mapM_cons, h1, h3], by simp only [VRs]; exact ⟨_, _, rfl, h2, h4⟩⟩

theorem ares_sound {fn : Func} {base : Nat} {μ : Mu} {w : World} {tmps : Array Value} {v : Value} (hs : Sim base μ H w) (he : ERel μ env tmps) (h : ares P fn env H = some v) : ∃ v', (results fn tmps).run P w = .ok v' w ∧ VR μ v v' := by
  unfold ares at h
  cases hm : (fn.results.toList.mapM fun (x : ResultVar) => match x with
    | .tmp t => env.get t
    | .cell a t => (env.get a).bind fun p => aloadT P H t p) with
  | none => rw [hm] at h; simp at h
  | some vs =>
    rw [hm] at h
    simp only [Option.map_some, Option.some.injEq] at h
    obtain ⟨vs', h1, h2⟩ := run_mapM_rel (P := P) (w := w) (μ := μ) (f := fun (x : ResultVar) => match x with
      | .tmp t => pure (tmps.getD t undef)
      | .cell a t => do loadVar t (← asAddr (tmps.getD a undef))) (fun x b hb => by
        cases x with
        | tmp t =>
          obtain ⟨b', h1, h2⟩ := he t b hb
          exact ⟨b', by simp [Array.getD_eq_getD_getElem?, h1], h2⟩
        | cell a t =>
          simp only at hb
          cases hp : env.get a with
          | none => simp [hp] at hb
          | some p =>
            simp only [hp, Option.bind_some] at hb
            obtain ⟨p', h1, h2⟩ := he a p hp
            obtain ⟨b', h3, h4⟩ := aloadT_sound (P := P) hs hb h2
            refine ⟨b', ?_, h4⟩
            have hpa : ∃ ad, p' = .pointer (some ad) := by
              unfold aloadT at hb
              split at hb
              · simp only [VR] at h2; obtain ⟨_, e, _, rfl⟩ := h2; exact ⟨_, rfl⟩
              · cases hb
            obtain ⟨ad, rfl⟩ := hpa
            simp only [Array.getD_eq_getD_getElem?, h1, Option.getD_some]
            simpa [Instr.loadAt, Instr.sureAddr, asAddr] using h3) hm
    have hrun : (results fn tmps).run P w = .ok (if h : vs'.toArray.size = 1 then vs'.toArray[0] else .tuple vs'.toArray) w := by
      unfold results
      rw [Array.mapM_eq_mapM_toList]
      simp only [Sem.run_bind, Sem.run_map]
      erw [h1]
      rfl
    refine ⟨_, hrun, ?_⟩
    cases vs with
    | nil =>
      simp only [VRs] at h2
      subst h2; subst h
      simp [VR, VRa, VRs]
    | cons x l =>
      simp only [VRs] at h2
      obtain ⟨u, r, rfl, h3, h4⟩ := h2
      cases l with
      | nil =>
        simp only [VRs] at h4
        subst h4; subst h
        simpa using h3
      | cons y l =>
        simp only at h
        subst h
        have : r.length ≠ 0 := by rw [h4.length]; simp
        rw [dif_neg (by simp; exact fun e => this (by rw [e]; rfl))]
        simp only [VR]
        exact ⟨_, rfl, by rw [VRa_iff]; simp only [VRs]; exact ⟨u, r, rfl, h3, by simpa only [VRs] using h4⟩⟩

theorem heap_putObj_ne (w : World) (r k : Nat) (o : Obj) (h : k ≠ r) : (w.putObj r o).heap[k]? = w.heap[k]? := by
  simp only [World.putObj]
  rw [Array.getElem?_setIfInBounds_ne (Ne.symm h)]
theorem Sim.putObj {base : Nat} {μ : Mu} {w : World} (h : Sim base μ H w) {k : Nat} {o o' : Obj} (hk : w.heap[k]? = some o) (ho : ∀ c t f, o ≠ .cells c t f) (hm : held o = true) : Sim base μ H (w.putObj k o') := by
  refine ⟨by simpa [World.putObj] using h.hb, h.dom, fun b cs own k' hg => ?_, h.inj, fun r x hx => ?_⟩
  rotate_left
  · obtain ⟨q1, q2, q3⟩ := h.ob r x hx
    exact ⟨q1, by rw [heap_putObj_ne _ _ _ _ (fun e => by subst e; rw [hk] at q2; cases q2; cases x <;> cases hm)]; exact q2, q3⟩
  obtain ⟨e, arr, T, fz, he, hr, rest⟩ := h.row _ _ _ _ hg
  exact ⟨e, arr, T, fz, he, by rw [heap_putObj_ne _ _ _ _ (fun hek => by rw [hek] at hr; rw [hk] at hr; injection hr with hr; exact ho _ _ _ hr)]; exact hr, rest⟩
theorem Ext.putObj {base : Nat} {w0 w : World} (h : Ext base w0 w) {k : Nat} {o' : Obj} (hb : base ≤ k) (hk : w0.heap.size ≤ k) : Ext base w0 (w.putObj k o') := by
  refine ⟨⟨h.below.os, h.below.tape, h.below.output, by simpa [World.putObj] using h.below.size, fun i hi => ?_⟩, fun i o hi ho => ?_, h.drawn⟩
  · rw [heap_putObj_ne _ _ _ _ (by omega)]; exact h.below.block i hi
  · have := (Array.getElem?_eq_some_iff.1 hi).1
    rw [heap_putObj_ne _ _ _ _ (by omega)]
    exact h.keep i o hi ho

theorem leaves_marks {fn : Func} {tmps : Array Value} {R : Ending → World → Prop} {base m : Nat} {μ : Mu} {w0 : World} (hm : base ≤ m) (hw0 : w0.heap.size = m) :
    ∀ (rs : List Nat) (w : World), Sim base μ H w → Ext base w0 w → rs.Nodup → (∀ r ∈ rs, m ≤ r ∧ w.heap[r]? = some (.deferred (some []))) →
    (∀ w', Sim base μ H w' → Ext base w0 w' → ∃ v, (results fn tmps).run P w' = .ok v w' ∧ R (.returned v) w') →
    LeavesInM (FW none) 0 P fn tmps R (rs.map fun r => ({ target := .collected r, args := #[] } : Deferred)) .returning w
  | [], w, hs, he, _, _, hR => hR w hs he
  | r :: rs, w, hs, he, hn, hr, hR => by
    simp only [List.map_cons, LeavesInM]
    refine ⟨by simp, .inl ⟨r, w.putObj r (.deferred none), rfl, ?_, ?_⟩⟩
    · have := (hr r (by simp)).2
      simp [Instr.takeDeferred, getObj, setObj, Sem.run, this, World.putObj, bind, Sem.bind, pure]
    · simp only [List.nodup_cons] at hn
      refine leaves_marks hm hw0 rs _ (hs.putObj (hr r (by simp)).2 (by simp) rfl) (he.putObj (by have := (hr r (by simp)).1; omega) (by rw [hw0]; exact (hr r (by simp)).1)) hn.2 (fun r' hr' => ?_) hR
      obtain ⟨h1, h2⟩ := hr r' (by simp [hr'])
      refine ⟨h1, ?_⟩
      rw [heap_putObj_ne _ _ _ _ (fun e => hn.1 (by rw [← e]; exact hr'))]
      exact h2

theorem ACalls_enter {f : FuncId} {fn : Func} {c : Code} {args : List Value} {Q : Value → Hp → Prop} (hf : P.funcs[f]? = some fn) (hn : (fn.name == "runtime.NumGoroutine") = false) (hb : fn.body = some c)
    (hok : codeOk fn.ntmps c = true) (ha : args.length ≤ fn.ntmps)
    (h : WfH H → refsL H.next args = true → AWP P fn.ntmps H.next none c (retQ P fn H.next Q) (params 0 args) H) : ACalls P f args H Q := by
  refine ⟨⟨fn, hf, hn, by rw [hb]; rfl⟩, fun base μ w args' hs hv => ?_⟩
  have hlen := hv.length
  rw [Array.length_toList] at hlen
  refine calls_fw (r := none) (n := 0) (callsIn_of_wp_marks hf hb trivial ?_)
  have hst : St base μ w fn.ntmps μ (params 0 args) H { tmps := args' ++ Array.replicate (fn.ntmps - args'.size) undef, defers := [] } w := by
    refine ⟨Mu.le_refl μ, hs, fun t v hv' => ?_, by simp; omega, ⟨[], List.nodup_nil, rfl, by simp⟩, Ext.refl _ _⟩
    obtain ⟨_, h2⟩ := params_get hv'
    obtain ⟨u, h3, h4⟩ := hv.get t v (by simpa using h2)
    refine ⟨u, ?_, h4⟩
    have hlt : t < args'.size := by have := (List.getElem?_eq_some_iff.1 h3).1; simpa using this
    rw [Array.getElem?_append_left hlt]
    simpa using h3
  refine wpIn_mono (h hs.wf (VRs_refs hs.dom hv) hok base μ w hs.dom μ _ w hst) ?_
  have fin : ∀ {a : Act} {w' : World} {env : Env} {H' : Hp} {μ' : Mu}, St base μ w fn.ntmps μ' env H' a w' → (∃ v, ares P fn env H' = some v ∧ ∃ ρ v2 H2, Wk H.next ρ H2 H' ∧ ren ρ v2 = v ∧ Q v2 H2) →
      LeavesInM (FW none) 0 P fn a.tmps (fun e w'' => ∃ v v' H', e = .returned v' ∧ Q v H' ∧ Done base μ w v H' v' w'') a.defers .returning w' := by
    intro a w' env H' μ' hst' ⟨v, h1, ρ, v2, H2, h2, h3, h4⟩
    obtain ⟨rs, r1, r2, r3⟩ := hst'.marks
    rw [r2]
    refine leaves_marks hs.hb rfl rs w' hst'.sim hst'.ext r1 r3 (fun w'' hs'' he'' => ?_)
    obtain ⟨v', h5, h6⟩ := ares_sound hs'' hst'.env h1
    refine ⟨v', h5, v2, v', H2, rfl, h4, fun b => μ' (ρ b), fun b e he => ?_, ?_, hs''.weak h2, he''⟩
    · show μ' (ρ b) = some e
      rw [h2.fix b (hs.dom _ _ he)]
      exact hst'.le _ _ he
    · subst h3; exact VR_ren h6
  rintro e a w' ⟨h1, env, H', μ', h2, h3⟩
  cases e with
  | normal => exact fin h3 h2
  | ret => exact fin h3 h2
  | exit id => exact h2.elim
  | goto l => exact h2.elim
  | panic c => exact h1.elim
  | outgrown => exact h1.elim

end
end Go.Abs
