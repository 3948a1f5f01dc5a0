/- A quicker test of a tree of orders (by masks). -/
import Derived.Test.YtjdmndklnfhmjaaAbsU
import Derived.Test.YtjdmndklnfhmjaaAbsW
set_option linter.unusedVariables false
set_option linter.unusedSimpArgs false
set_option linter.unusedSectionVars false
namespace Go.Abs
open Go.RowKit
theorem sub_bits {l : List Nat} {L : Nat} : (bitsOf l &&& L == bitsOf l) = l.all fun n => L.testBit n := by
  rw [Bool.eq_iff_iff, beq_iff_eq, List.all_eq_true]
  constructor
  · intro h n hn
    have h1 := congrArg (fun x => x.testBit n) h
    simp only [Nat.testBit_and, bitsOf_mem.2 hn, Bool.true_and] at h1
    exact h1
  · intro h
    apply Nat.eq_of_testBit_eq
    intro n
    rw [Nat.testBit_and]
    cases hb : (bitsOf l).testBit n with
    | false => rfl
    | true => rw [h n (bitsOf_mem.1 hb)]; rfl
def edgM (ops : List Oper) : List Nat := ops.map fun o => bitsOf (edges o)
def readyN (E : List Nat) (L : Nat) : List Nat := (List.range E.length).filter fun j => !L.testBit j && (E.getD j 0 &&& L == E.getD j 0)
def freeN (I : List Inf) (L i : Nat) (x : Inf) : Bool :=
  (List.range I.length).all fun j => j == i || L.testBit j || match I[j]? with
    | some y => y.ms.testBit i || ((x.dm &&& (y.lm ||| y.dm) == 0) && (y.dm &&& x.lm == 0) && (x.pu || y.gr))
    | none => true
section
variable (E : List Nat) (I : List Inf)
mutual
def treeN : Nat → Nat → Tree → Bool
  | _, L, .done => (readyN E L).isEmpty
  | 0, _, _ => false
  | f + 1, L, .list i t =>
    (match I[i]? with
     | some x => (readyN E L).contains i && ((readyN E L == [i]) || (x.q && freeN I L i x))
     | none => false) && treeN f (L ||| 1 <<< i) t
  | f + 1, L, .fork ts => (ts.roots == readyN E L) && !(readyN E L).isEmpty && treesN f L ts
def treesN : Nat → Nat → Trees → Bool
  | _, _, .nil => true
  | f, L, .cons i t ts => (readyN E L).contains i && treeN f (L ||| 1 <<< i) t && treesN f L ts
end
end
section
variable {ops : Array Oper}
structure Corr (ops : Array Oper) (listed : Array Bool) (L : Nat) : Prop where
  size : listed.size = ops.size
  bit : ∀ j, listed.getD j false = L.testBit j
theorem Corr.set {listed : Array Bool} {L i : Nat} (h : Corr ops listed L) (hi : i < ops.size) : Corr ops (listed.setIfInBounds i true) (L ||| 1 <<< i) := by
  refine ⟨by rw [Array.size_setIfInBounds]; exact h.size, fun j => ?_⟩
  rw [Nat.testBit_or, ← h.bit j, Nat.testBit_shiftLeft]
  by_cases hij : i = j
  · subst hij
    have e : (listed.setIfInBounds i true).getD i false = true := by simp [h.size, hi]
    rw [e]
    simp
  · have e : (listed.setIfInBounds i true).getD j false = listed.getD j false := by
      simp only [Array.getD_eq_getD_getElem?, Array.getElem?_setIfInBounds_ne hij]
    rw [e]
    have e2 : (decide (j ≥ i) && Nat.testBit 1 (j - i)) = false := by
      rw [Bool.and_eq_false_iff]
      by_cases h2 : j ≥ i
      · right
        rw [Bool.eq_false_iff]
        intro h3
        rw [Nat.testBit_one_eq_true_iff_self_eq_zero] at h3
        omega
      · left; exact decide_eq_false h2
    rw [e2, Bool.or_false]
theorem Corr.bit' {listed : Array Bool} {L j : Nat} (h : Corr ops listed L) (hj : j < ops.size) (d : Bool) : listed.getD j d = L.testBit j := by
  rw [← h.bit j]
  simp [h.size, hj]
theorem ready_eq {listed : Array Bool} {L : Nat} (h : Corr ops listed L) : Region.ready .any ops listed = readyN (edgM ops.toList) L := by
  unfold Region.ready readyN
  have hn : (edgM ops.toList).length = ops.size := by simp [edgM]
  rw [hn]
  apply List.filter_congr
  intro j hj
  have hj := List.mem_range.1 hj
  rw [h.bit' hj]
  congr 1
  have e : (edgM ops.toList).getD j 0 = bitsOf (edges ops[j]) := by
    simp [edgM, List.getD_eq_getElem?_getD, hj]
  rw [e, sub_bits, Array.getElem?_eq_getElem hj, Option.map_some, Option.getD_some, Bool.eq_iff_iff, Array.all_eq_true', List.all_eq_true]
  constructor
  · intro h1 n hn
    obtain ⟨x, h2, h3, h4⟩ := edges_mem.1 hn
    have := h1 x h2
    rw [h3, h4, h.bit] at this
    simpa using this
  · intro h1 x hx
    cases hb : Region.binds .any x with
    | false => rfl
    | true =>
      have := h1 x.on (edges_mem.2 ⟨x, hx, hb, rfl⟩)
      rw [h.bit, this]; rfl
theorem freeN_sound {I : List Inf} (hI : I.length = ops.size) (hok : ∀ k x, I[k]? = some x → ∃ o, InfOk ops k o x) {listed : Array Bool} {L i : Nat} {x : Inf} {oi : Oper} (h : Corr ops listed L) (hx : InfOk ops i oi x) (hf : freeN I L i x = true) : freeB ops listed i oi = true := by
  refine List.all_eq_true.2 fun j hj => ?_
  have hj := List.mem_range.1 hj
  have h1 := List.all_eq_true.1 hf j (List.mem_range.2 (by omega))
  rw [h.bit' hj]
  rw [Array.getElem?_eq_getElem hj]
  have hjI : j < I.length := by omega
  rw [List.getElem?_eq_getElem hjI] at h1
  simp only [Bool.or_eq_true, Bool.and_eq_true] at h1 ⊢
  rcases h1 with h1 | h1
  · exact .inl h1
  · right
    obtain ⟨oj, hy⟩ := hok j I[j] (List.getElem?_eq_getElem hjI)
    have hoj : oj = ops[j] := Option.some.inj (hy.op.symm.trans (Array.getElem?_eq_getElem hj))
    subst hoj
    rcases h1 with h1 | ⟨⟨h1, h2⟩, h3⟩
    · exact .inl (dep_mono (by omega) (hy.ms i h1))
    · refine .inr ⟨apart_of hx hy h1 h2, ?_⟩
      rw [← hx.pu, ← hy.gr]
      exact h3
variable {I : List Inf} (hI : I.length = ops.size) (hok : ∀ k x, I[k]? = some x → ∃ o, InfOk ops k o x)
include hI hok
mutual
theorem treeN_sound : ∀ (f : Nat) (t : Tree) (listed : Array Bool) (L : Nat), Corr ops listed L → treeN (edgM ops.toList) I f L t = true → treeB ops f listed t = true
  | 0, .done, listed, L, h, ht => by simp only [treeN, treeB] at ht ⊢; rw [ready_eq h]; exact ht
  | f + 1, .done, listed, L, h, ht => by simp only [treeN, treeB] at ht ⊢; rw [ready_eq h]; exact ht
  | 0, .list i t, _, _, _, ht => by simp [treeN] at ht
  | 0, .fork ts, _, _, _, ht => by simp [treeN] at ht
  | f + 1, .list i t, listed, L, h, ht => by
    simp only [treeN, Bool.and_eq_true] at ht
    obtain ⟨h1, h2⟩ := ht
    cases hi : I[i]? with
    | none => simp [hi] at h1
    | some x =>
      rw [hi] at h1
      simp only [Bool.and_eq_true, Bool.or_eq_true] at h1
      obtain ⟨o, ho⟩ := hok i x hi
      have hlt : i < ops.size := (Array.getElem?_eq_some_iff.1 ho.op).1
      simp only [treeB, ho.op, Bool.and_eq_true, Bool.or_eq_true]
      rw [ready_eq h]
      refine ⟨⟨h1.1, ?_⟩, treeN_sound f t _ _ (h.set hlt) h2⟩
      rcases h1.2 with h3 | ⟨h3, h4⟩
      · exact .inl h3
      · exact .inr ⟨by rw [← ho.q]; exact h3, freeN_sound hI hok h ho h4⟩
  | f + 1, .fork ts, listed, L, h, ht => by
    simp only [treeN, Bool.and_eq_true] at ht
    simp only [treeB, Bool.and_eq_true]
    rw [ready_eq h]
    exact ⟨ht.1, treesN_sound f ts listed L h ht.2⟩
theorem treesN_sound : ∀ (f : Nat) (ts : Trees) (listed : Array Bool) (L : Nat), Corr ops listed L → treesN (edgM ops.toList) I f L ts = true → treesB ops f listed ts = true
  | _, .nil, _, _, _, _ => by simp [treesB]
  | f, .cons i t ts, listed, L, h, ht => by
    simp only [treesN, Bool.and_eq_true] at ht
    simp only [treesB, Bool.and_eq_true]
    obtain ⟨⟨h1, h2⟩, h3⟩ := ht
    have hlt : i < ops.size := by
      have hm : i ∈ Region.ready .any ops listed := by rw [ready_eq h]; simpa using h1
      obtain ⟨_, o, ho, _⟩ := mem_ready.1 hm
      exact (Array.getElem?_eq_some_iff.1 ho).1
    rw [ready_eq h]
    exact ⟨⟨h1, treeN_sound f t _ _ (h.set hlt) h2⟩, treesN_sound f ts listed L h h3⟩
end
end
theorem AWP_draw_treeN {P : Program} {env : Env} {H : Hp} {N n0 : Nat} {r : Option Nat} {Q : Exit → Env → Hp → Prop} {id : Nat} {l : List Oper} (t : Tree) (hm : P.follows .mixedOrders = true)
    (hB : treeN (edgM l) (infs l.toArray 0 [] l) l.length 0 t = true) (h : awpT P l.toArray (Q .normal) t env H) : AWP P N n0 r (.region id l.toArray true) Q env H := by
  obtain ⟨h1, h2⟩ := infs_ok (ops := l.toArray) l 0 [] rfl (fun j i hb => by simp at hb) (fun k => by simp)
  refine AWP_draw_tree t hm ?_ h
  refine treeN_sound (I := infs l.toArray 0 [] l) (by rw [h1]; simp) (fun k x hx => by obtain ⟨o, ho⟩ := h2 k x hx; exact ⟨o, by rw [Nat.zero_add] at ho; exact ho⟩) _ t _ 0 ⟨by simp, fun j => ?_⟩ ?_
  · rw [Nat.zero_testBit]
    rcases Nat.lt_or_ge j l.length with hj | hj
    · simp [hj]
    · simp [Nat.not_lt.2 hj]
  · have e : l.toArray.size = l.length := rfl
    rw [e]
    exact hB
end Go.Abs
