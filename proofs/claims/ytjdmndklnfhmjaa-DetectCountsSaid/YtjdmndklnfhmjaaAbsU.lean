/- Regions that draw their order and make memory: a tree of orders. -/
import Derived.Test.YtjdmndklnfhmjaaAbsT
set_option linter.unusedVariables false
set_option linter.unusedSimpArgs false
set_option linter.unusedSectionVars false
namespace Go.Abs
open Go.RowKit

mutual
inductive Tree where
  | done
  | list (i : Nat) (t : Tree)
  | fork (ts : Trees)
inductive Trees where
  | nil
  | cons (i : Nat) (t : Tree) (ts : Trees)
end
def Trees.roots : Trees → List Nat
  | .nil => []
  | .cons i _ ts => i :: ts.roots

section
variable (P : Program) (ops : Array Oper) (K : Env → Hp → Prop)
mutual
def awpT : Tree → Env → Hp → Prop
  | .done, env, H => K env H
  | .list i t, env, H => match ops[i]? with
    | some o => astepD P ops o (awpT t) env H
    | none => False
  | .fork ts, env, H => awpTs ts env H
def awpTs : Trees → Env → Hp → Prop
  | .nil, _, _ => True
  | .cons i t ts, env, H => (match ops[i]? with
    | some o => astepD P ops o (awpT t) env H
    | none => False) ∧ awpTs ts env H
end
end
section
variable (ops : Array Oper)
mutual
def treeB : Nat → Array Bool → Tree → Bool
  | _, listed, .done => (Region.ready .any ops listed).isEmpty
  | 0, _, _ => false
  | f + 1, listed, .list i t =>
    (match ops[i]? with
     | some oi => (Region.ready .any ops listed).contains i && ((Region.ready .any ops listed == [i]) || (quiet oi.op && freeB ops listed i oi))
     | none => false) && treeB f (listed.setIfInBounds i true) t
  | f + 1, listed, .fork ts => (ts.roots == Region.ready .any ops listed) && !(Region.ready .any ops listed).isEmpty && treesB f listed ts
def treesB : Nat → Array Bool → Trees → Bool
  | _, _, .nil => true
  | f, listed, .cons i t ts => (Region.ready .any ops listed).contains i && treeB f (listed.setIfInBounds i true) t && treesB f listed ts
end
end

section
variable {P : Program} {ops : Array Oper} {env : Env} {H : Hp}
mutual
theorem awpT_mono {K K' : Env → Hp → Prop} (hk : ∀ e H, K e H → K' e H) : ∀ (t : Tree) (env : Env) (H : Hp), awpT P ops K t env H → awpT P ops K' t env H
  | .done, _, _, h => hk _ _ h
  | .list i t, env, H, h => by
    simp only [awpT] at h ⊢
    cases hi : ops[i]? with
    | none => simp [hi] at h
    | some o => rw [hi] at h; exact astepD_mono (fun e H h => awpT_mono hk t e H h) h
  | .fork ts, env, H, h => by simp only [awpT] at h ⊢; exact awpTs_mono hk ts env H h
theorem awpTs_mono {K K' : Env → Hp → Prop} (hk : ∀ e H, K e H → K' e H) : ∀ (ts : Trees) (env : Env) (H : Hp), awpTs P ops K ts env H → awpTs P ops K' ts env H
  | .nil, _, _, _ => trivial
  | .cons i t ts, env, H, h => by
    simp only [awpTs] at h ⊢
    refine ⟨?_, awpTs_mono hk ts env H h.2⟩
    cases hi : ops[i]? with
    | none => simp [hi] at h
    | some o => have h1 := h.1; rw [hi] at h1; exact astepD_mono (fun e H h => awpT_mono hk t e H h) h1
end

mutual
theorem tree_sound {K : Env → Hp → Prop} (hK : Resp K) : ∀ (f : Nat) (t : Tree) (listed : Array Bool) (env : Env) (H : Hp), Closed ops listed → treeB ops f listed t = true → awpT P ops K t env H → aAny P ops K f listed env H
  | 0, .done, listed, env, H, hc, hB, h => fun _ => ⟨by simpa [treeB] using hB, h⟩
  | f + 1, .done, listed, env, H, hc, hB, h => fun _ => by
    have h0 : Region.ready .any ops listed = [] := by simpa [treeB] using hB
    exact ⟨fun _ => h, fun i hi => by rw [h0] at hi; cases hi⟩
  | 0, .list i t, _, _, _, _, hB, _ => by simp [treeB] at hB
  | 0, .fork ts, _, _, _, _, hB, _ => by simp [treeB] at hB
  | f + 1, .list i t, listed, env, H, hc, hB, h => by
    simp only [treeB, Bool.and_eq_true] at hB
    obtain ⟨hB1, hB2⟩ := hB
    cases hi : ops[i]? with
    | none => simp [hi] at hB1
    | some oi =>
      simp only [hi, Bool.and_eq_true, Bool.or_eq_true] at hB1
      obtain ⟨hr, hB1⟩ := hB1
      have hr' : i ∈ Region.ready .any ops listed := by simpa using hr
      simp only [awpT, hi] at h
      rcases hB1 with hB1 | ⟨hq, hf⟩
      · have hone : Region.ready .any ops listed = [i] := by simpa using hB1
        intro hw
        refine ⟨(fun h0 => by rw [hone] at h0; cases h0), fun j hj => ?_⟩
        rw [hone] at hj
        obtain rfl : j = i := by simpa using hj
        exact ⟨oi, hi, astepD_mono (fun e' H' h' => tree_sound hK f t _ e' H' (hc.set hr') hB2 h') h⟩
      · intro hw
        have hq' : opPure oi.op = true ∨ opRead oi.op = true := by simpa [quiet] using hq
        obtain ⟨v, hy, hk⟩ := yieldsA_of_step hw hq' h
        exact aAny_first hK hi hq' f listed env H hc (freeB_spec hf) hr' hy (tree_sound hK f t _ _ H (hc.set hr') hB2 hk) hw
  | f + 1, .fork ts, listed, env, H, hc, hB, h => by
    simp only [treeB, Bool.and_eq_true] at hB
    obtain ⟨⟨hB1, hB2⟩, hB3⟩ := hB
    have hroots : ts.roots = Region.ready .any ops listed := by simpa using hB1
    simp only [awpT] at h
    intro hw
    refine ⟨fun h0 => by rw [h0] at hB2; simp at hB2, fun i hi => ?_⟩
    rw [← hroots] at hi
    exact trees_sound hK f ts listed env H hc hB3 h i hi
theorem trees_sound {K : Env → Hp → Prop} (hK : Resp K) : ∀ (f : Nat) (ts : Trees) (listed : Array Bool) (env : Env) (H : Hp), Closed ops listed → treesB ops f listed ts = true → awpTs P ops K ts env H → ∀ i ∈ ts.roots, ∃ o, ops[i]? = some o ∧ astepD P ops o (aAny P ops K f (listed.setIfInBounds i true)) env H
  | f, .nil, listed, env, H, hc, hB, h, i, hi => by simp [Trees.roots] at hi
  | f, .cons j t ts, listed, env, H, hc, hB, h, i, hi => by
    simp only [treesB, Bool.and_eq_true] at hB
    simp only [awpTs] at h
    simp only [Trees.roots, List.mem_cons] at hi
    rcases hi with rfl | hi
    · cases ho : ops[i]? with
      | none => have h1 := h.1; simp [ho] at h1
      | some o =>
        have h1 := h.1
        rw [ho] at h1
        have hr' : i ∈ Region.ready .any ops listed := by simpa using hB.1.1
        exact ⟨o, rfl, astepD_mono (fun e' H' h' => tree_sound hK f t _ e' H' (hc.set hr') hB.1.2 h') h1⟩
    · exact trees_sound hK f ts listed env H hc hB.2 h.2 i hi
end

theorem AWP_draw_tree {N n0 : Nat} {r : Option Nat} {Q : Exit → Env → Hp → Prop} {id : Nat} (t : Tree) (hm : P.follows .mixedOrders = true) (hB : treeB ops ops.size (Array.replicate ops.size false) t = true)
    (h : awpT P ops (Q .normal) t env H) : AWP P N n0 r (.region id ops true) Q env H := by
  intro hok base μ0 w0 hdom μ a w hst
  refine wpIn_region_any hm ?_
  have hst' : St base μ0 w0 N μ env H a { w with drawn := w.drawn + 1 } := ⟨hst.le, hst.sim.heap rfl, hst.env, hst.size, hst.marks.ext (Ext.drew base w), hst.ext.trans (Ext.drew base w)⟩
  have hclosed : Closed ops (Array.replicate ops.size false) := fun j oj hj hl => by
    have : (Array.replicate ops.size false).getD j false = false := by
      rcases Nat.lt_or_ge j ops.size with h | h
      · simp [h]
      · simp [h]
    rw [this] at hl
    cases hl
  have := tree_sound (P := P) (eqvK_resp (Q .normal)) _ t _ env H hclosed hB (awpT_mono (fun e H h => ⟨e, Env.eqv.refl e, h⟩) _ _ _ h)
  refine aAny_sound hok (fun env' H' ν a' w' hk hs => ?_) _ _ env H μ a _ this hst'
  obtain ⟨e, he, hq⟩ := hk
  exact ⟨trivial, e, H', ν, hq, ⟨hs.le, hs.sim, fun t v hv => hs.env t v (by rw [← he t]; exact hv), hs.size, hs.marks, hs.ext⟩⟩

def pickO (l : List Oper) (i : Nat) (K : Oper → Prop) : Prop := match l[i]? with | some o => K o | none => False
theorem awpT_done {K : Env → Hp → Prop} : awpT P ops K .done env H = K env H := by simp only [awpT]
theorem awpT_list {K : Env → Hp → Prop} (l : List Oper) (i : Nat) (t : Tree) : awpT P l.toArray K (.list i t) env H = pickO l i fun o => astepD P l.toArray o (awpT P l.toArray K t) env H := by
  simp only [awpT, pickO, List.getElem?_toArray]
theorem awpT_fork {K : Env → Hp → Prop} (ts : Trees) : awpT P ops K (.fork ts) env H = awpTs P ops K ts env H := by simp only [awpT]
theorem awpTs_nil {K : Env → Hp → Prop} : awpTs P ops K .nil env H = True := by simp only [awpTs]
theorem awpTs_cons {K : Env → Hp → Prop} (l : List Oper) (i : Nat) (t : Tree) (ts : Trees) : awpTs P l.toArray K (.cons i t ts) env H = ((pickO l i fun o => astepD P l.toArray o (awpT P l.toArray K t) env H) ∧ awpTs P l.toArray K ts env H) := by
  simp only [awpTs, pickO, List.getElem?_toArray]
theorem pickO_zero (o : Oper) (l : List Oper) (K : Oper → Prop) : pickO (o :: l) 0 K = K o := rfl
theorem pickO_succ (o : Oper) (l : List Oper) (i : Nat) (K : Oper → Prop) : pickO (o :: l) (i + 1) K = pickO l i K := by simp only [pickO, List.getElem?_cons_succ]
end
attribute [go_sem ↓] awpT_done awpT_list awpT_fork awpTs_nil awpTs_cons pickO_zero pickO_succ
end Go.Abs
