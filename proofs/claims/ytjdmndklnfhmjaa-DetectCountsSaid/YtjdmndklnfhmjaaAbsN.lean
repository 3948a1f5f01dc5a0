/- Words for the walks: loads and stores that are reckoned, frames and memories told anew, rows that came in. -/
import Derived.Test.YtjdmndklnfhmjaaAbsM
set_option linter.unusedVariables false
set_option linter.unusedSimpArgs false
set_option linter.unusedSectionVars false
namespace Go.Abs
open Go.RowKit

section
variable {P : Program} {H : Hp}

/-! ### indices -/
def idxC (a : Addr) (n : Int) (i : Int) (s : Nat) : Option Value := if 0 ≤ i ∧ i < n then some (.pointer (some ⟨a.block, a.off + i.toNat * s, none⟩)) else none
theorem idxC_in {a : Addr} {n i : Int} {s : Nat} (h0 : 0 ≤ i) (h1 : i < n) : idxC a n i s = some (.pointer (some ⟨a.block, a.off + i.toNat * s, none⟩)) := if_pos ⟨h0, h1⟩
theorem ia_slice (t : TypeId) (a : Addr) (n c : Nat) (k : IntKind) (i : Int) : aindexAddr P t (.slice (some a) n c) (.int k i) = (match P.underlying t with
    | some (.slice e) => (tsz P e).bind fun s => idxC a n i s
    | _ => none) := rfl
theorem ia_ptr (t : TypeId) (a : Addr) (k : IntKind) (i : Int) : aindexAddr P t (.pointer (some a)) (.int k i) = (match P.underlying t with
    | some (.array n e) => (tsz P e).bind fun s => idxC a n i s
    | _ => none) := rfl
theorem fa_ptr (s : TypeId) (a : Addr) (f : Nat) : afieldAddr P s (.pointer (some a)) f = (tfield P s f).bind fun p => (tsz P p.2).bind fun n => if n = 0 then none else some (.pointer (some ⟨a.block, a.off + p.1, none⟩)) := rfl

/-! ### loads -/
def load1 (H : Hp) (a : Addr) : Option Value := (aload H a 1).bind fun cs => cs.head?
theorem lt_ptr (t : TypeId) (a : Addr) : aloadT P H t (.pointer (some a)) = (tag P t).bind fun ag => bif ag then (tsz P t).bind fun n => (aload H a n).map fun cs => .agg cs.toArray else load1 H a := by
  simp only [aloadT, load1]
  cases tag P t with
  | none => rfl
  | some ag => cases ag <;> rfl
theorem ld_new_old (b : Blk) (i o n : Nat) (h : i ≠ H.next) : aload (H.new b) ⟨i, o, none⟩ n = aload H ⟨i, o, none⟩ n := by simp only [aload]; rw [Hp.get_new_ne _ _ _ h]
theorem ld_set_old (b : Blk) (j i o n : Nat) (h : i ≠ j) : aload (H.set j b) ⟨i, o, none⟩ n = aload H ⟨i, o, none⟩ n := by simp only [aload]; rw [Hp.get_set_ne _ _ _ _ h]
theorem ld_new (cs : List Value) (own : Bool) (k i o n : Nat) (h : i = H.next) (hl : o + n ≤ cs.length) : aload (H.new (.row cs own k)) ⟨i, o, none⟩ n = some ((cs.drop o).take n) := by
  simp only [aload]; rw [Hp.get_new_same _ _ _ h]; exact if_pos hl
theorem ld_set (cs : List Value) (own : Bool) (k j i o n : Nat) (h : i = j) (hl : o + n ≤ cs.length) : aload (H.set j (.row cs own k)) ⟨i, o, none⟩ n = some ((cs.drop o).take n) := by
  simp only [aload]; rw [Hp.get_set_same _ _ _ _ h]; exact if_pos hl
theorem l1_new_old (b : Blk) (i o : Nat) (h : i ≠ H.next) : load1 (H.new b) ⟨i, o, none⟩ = load1 H ⟨i, o, none⟩ := by simp only [load1]; rw [ld_new_old b i o 1 h]
theorem l1_set_old (b : Blk) (j i o : Nat) (h : i ≠ j) : load1 (H.set j b) ⟨i, o, none⟩ = load1 H ⟨i, o, none⟩ := by simp only [load1]; rw [ld_set_old b j i o 1 h]
theorem head_take1 (cs : List Value) (o : Nat) : ((cs.drop o).take 1).head? = cs[o]? := by
  cases h : cs.drop o with
  | nil => simp only [List.take_nil, List.head?_nil]; exact (List.getElem?_eq_none (by simpa using h)).symm
  | cons x r =>
    have : cs[o]? = (cs.drop o)[0]? := by simp
    rw [this, h]; rfl
theorem l1_row (cs : List Value) (own : Bool) (k i o : Nat) (hg : H.get i = .row cs own k) : load1 H ⟨i, o, none⟩ = cs[o]? := by
  simp only [load1, aload, hg]
  by_cases hl : o + 1 ≤ cs.length
  · rw [if_pos hl]; exact head_take1 cs o
  · rw [if_neg hl]; exact (List.getElem?_eq_none (by omega)).symm
theorem l1_new (cs : List Value) (own : Bool) (k i o : Nat) (h : i = H.next) : load1 (H.new (.row cs own k)) ⟨i, o, none⟩ = cs[o]? := l1_row cs own k i o (Hp.get_new_same _ _ _ h)
theorem l1_set (cs : List Value) (own : Bool) (k j i o : Nat) (h : i = j) : load1 (H.set j (.row cs own k)) ⟨i, o, none⟩ = cs[o]? := l1_row cs own k i o (Hp.get_set_same _ _ _ _ h)

/-! ### stores -/
theorem as_ptr (t : TypeId) (a : Addr) (v : Value) : astoreT P H t (.pointer (some a)) v = (tsz P t).bind fun n => if v.cells.size = n then astore H a v.cells.toList else none := rfl
def spl (cs : List Value) (o : Nat) (vs : List Value) : List Value := match vs with | [v] => cs.set o v | _ => splice cs o vs
theorem spl_eq (cs : List Value) (o : Nat) (vs : List Value) (h : o + vs.length ≤ cs.length) : splice cs o vs = spl cs o vs := by
  unfold spl
  split
  · rename_i v
    simp only [splice, List.length_singleton] at h ⊢
    rw [List.set_eq_take_append_cons_drop, if_pos (by omega)]
    simp
  · rfl
theorem st_row (cs : List Value) (k i o : Nat) (vs : List Value) (hg : H.get i = .row cs true k) (hl : o + vs.length ≤ cs.length) (h1 : vs.all one = true) : astore H ⟨i, o, none⟩ vs = some (H.set i (.row (spl cs o vs) true k)) := by
  simp only [astore, hg]
  rw [if_pos ⟨hl, h1⟩, spl_eq _ _ _ hl]

/-! ### frames told anew -/
def Sub : Env → Env → Prop
  | [], _ => True
  | (t, v) :: r, e => e.get t = some v ∧ Sub r e
theorem Sub.get : ∀ {e2 e : Env}, Sub e2 e → ∀ t v, e2.get t = some v → e.get t = some v
  | [], _, _, t, v, h => by simp [Env.get] at h
  | (s, u) :: r, e, hs, t, v, h => by
    simp only [Env.get] at h
    split at h
    · rename_i hst; subst hst; injection h with h; subst h; exact hs.1
    · exact hs.2.get t v h
mutual
theorem ren_self : ∀ {v : Value}, ren (fun b => b) v = v
  | .pointer (some _) => by simp only [ren]
  | .pointer none => by simp only [ren]
  | .slice (some _) _ _ => by simp only [ren]
  | .slice none _ _ => by simp only [ren]
  | .func _ _ _ => by simp only [ren, renA_self]
  | .agg _ => by simp only [ren, renA_self]
  | .tuple _ => by simp only [ren, renA_self]
  | .iface _ _ => by simp only [ren, ren_self]
  | .map _ => by simp only [ren]
  | .chan _ => by simp only [ren]
  | .bool _ => by simp only [ren]
  | .int _ _ => by simp only [ren]
  | .float _ _ => by simp only [ren]
  | .complex _ _ _ => by simp only [ren]
  | .string _ => by simp only [ren]
  | .nilFunc => by simp only [ren]
  | .nilIface => by simp only [ren]
theorem renA_self : ∀ {v : Array Value}, renA (fun b => b) v = v
  | ⟨l⟩ => by simp only [renA, renL_self]
theorem renL_self : ∀ {v : List Value}, renL (fun b => b) v = v
  | [] => by simp only [renL]
  | v :: l => by simp only [renL, ren_self, renL_self]
end
theorem Wk.refl (n : Nat) (H : Hp) : Wk n (fun b => b) H H :=
  ⟨fun _ _ => rfl, fun _ h => h, fun b cs own k hg => by rw [renL_self]; exact hg, fun _ _ _ _ _ _ h _ _ => h, fun _ _ h => h⟩
theorem Weak.sub {n : Nat} {e2 e : Env} (h : Sub e2 e) : Weak n e2 H e H := ⟨fun b => b, Wk.refl n H, fun t v hv => by rw [ren_self]; exact h.get t v hv⟩

/-- n: the blocks below it stay; l: where those behind it lie now; m: beyond every block. -/
def rho (n : Nat) (l : List Nat) (m b : Nat) : Nat := if b < n then b else (l[b - n]?).getD (b + m)
def news : Hp → List Blk → Hp
  | G, [] => G
  | G, b :: l => news (G.new b) l
theorem news_next : ∀ {l : List Blk} {G : Hp}, (news G l).next = G.next + l.length
  | [], G => rfl
  | b :: l, G => by simp only [news, news_next, Hp.next_new, List.length_cons]; omega
theorem news_ob : ∀ {l : List Blk} {G : Hp}, (news G l).ob = G.ob
  | [], G => rfl
  | b :: l, G => by simp only [news, news_ob, Hp.ob_new]
theorem news_out : ∀ {l : List Blk} {G : Hp} {i : Nat}, (i < G.next ∨ G.next + l.length ≤ i) → (news G l).get i = G.get i
  | [], G, i, _ => rfl
  | b :: l, G, i, h => by
    simp only [List.length_cons] at h
    have e := Hp.next_new G b
    exact (news_out (l := l) (G := G.new b) (i := i) (by omega)).trans (Hp.get_new_ne _ _ _ (by omega))
theorem news_in : ∀ {l : List Blk} {G : Hp} {k : Nat}, k < l.length → (news G l).get (G.next + k) = (l[k]?).getD .dead
  | [], G, k, h => by simp at h
  | b :: l, G, 0, h => by
    have e := Hp.next_new G b
    exact (news_out (l := l) (G := G.new b) (i := G.next + 0) (by omega)).trans (Hp.get_new_same _ _ _ rfl)
  | b :: l, G, k + 1, h => by
    simp only [List.length_cons] at h
    have e := Hp.next_new G b
    have := news_in (l := l) (G := G.new b) (k := k) (by omega)
    rw [e] at this
    rw [List.getElem?_cons_succ, ← this]
    show (news (G.new b) l).get _ = _
    congr 1
    omega
theorem news_get {l : List Blk} {G : Hp} {i : Nat} : (news G l).get i = if G.next ≤ i ∧ i < G.next + l.length then (l[i - G.next]?).getD .dead else G.get i := by
  by_cases h : G.next ≤ i ∧ i < G.next + l.length
  · rw [if_pos h, ← news_in (by omega)]
    congr 1
    omega
  · rw [if_neg h, news_out (by omega)]

def BlkRen (ρ : Nat → Nat) (b b' : Blk) : Prop :=
  match b with
  | .dead => True
  | .row cs own k => b' = .row (renL ρ cs) own k
def TailOk (ρ : Nat → Nat) (H : Hp) : List Blk → List Nat → Prop
  | [], [] => True
  | b :: l, j :: s => BlkRen ρ b (H.get j) ∧ TailOk ρ H l s
  | _, _ => False
theorem TailOk.length {ρ : Nat → Nat} : ∀ {l : List Blk} {s : List Nat}, TailOk ρ H l s → s.length = l.length
  | [], [], _ => rfl
  | b :: l, j :: s, h => by simp only [TailOk] at h; simp only [List.length_cons, TailOk.length h.2]
  | [], _ :: _, h => by simp only [TailOk] at h
  | _ :: _, [], h => by simp only [TailOk] at h
theorem TailOk.get {ρ : Nat → Nat} : ∀ {l : List Blk} {s : List Nat}, TailOk ρ H l s → ∀ (i : Nat) (b : Blk), l[i]? = some b → ∃ j, s[i]? = some j ∧ BlkRen ρ b (H.get j)
  | [], _, _, i, b, hb => by simp at hb
  | x :: l, [], h, _, _, _ => by simp only [TailOk] at h
  | x :: l, j :: s, h, i, b, hb => by
    simp only [TailOk] at h
    cases i with
    | zero => simp only [List.getElem?_cons_zero, Option.some.injEq] at hb; subst hb; exact ⟨j, rfl, h.1⟩
    | succ i => simpa using h.2.get i b (by simpa using hb)

/-- The memory told anew: what G holds, and behind it some blocks that lie in H where s says. -/
theorem Wk.news {n : Nat} {G : Hp} (hw : WfH G) (hn : n ≤ G.next) (l : List Blk) (s : List Nat) (hH : ∀ b, b < G.next → H.get b = G.get b) (ht : TailOk (rho G.next s H.next) H l s) (hs : s.Nodup) (hlt : s.all fun j => decide (G.next ≤ j)) (hob : ∀ r o, G.ob r = some o → H.ob r = some o) :
    Wk n (rho G.next s H.next) (Abs.news G l) H := by
  have hlen := ht.length
  refine ⟨fun b hb => by unfold rho; rw [if_pos (by omega)], fun b hb => ?_, fun b cs own k hg => ?_, fun b b' cs cs' k k' hne g1 g2 => ?_, by rw [news_ob]; exact hob⟩
  · rw [news_next] at hb
    unfold rho
    rw [if_neg (by omega), List.getElem?_eq_none (by omega)]
    simp
  · rw [news_get] at hg
    by_cases hb : b < G.next
    · rw [if_neg (by omega)] at hg
      have : rho G.next s H.next b = b := by unfold rho; rw [if_pos hb]
      rw [this, hH b hb, hg, renL_id (n := G.next) (fun b hb => by unfold rho; rw [if_pos hb]) (hw _ _ _ _ hg).2]
    · by_cases hb2 : b < G.next + l.length
      · rw [if_pos (by omega)] at hg
        cases hl : l[b - G.next]? with
        | none => rw [hl] at hg; cases hg
        | some x =>
          rw [hl] at hg
          simp only [Option.getD_some] at hg
          subst hg
          obtain ⟨j, h1, h2⟩ := ht.get _ _ hl
          have : rho G.next s H.next b = j := by unfold rho; rw [if_neg hb, h1]; rfl
          rw [this]
          exact h2
      · rw [if_neg (by omega)] at hg
        exact absurd (hw _ _ _ _ hg).1 hb
  · have key : ∀ {b : Nat} {cs : List Value} {k : Nat}, (Abs.news G l).get b = .row cs true k → (b < G.next ∧ rho G.next s H.next b = b) ∨ (G.next ≤ b ∧ ∃ j, s[b - G.next]? = some j ∧ rho G.next s H.next b = j) := by
      intro b cs k hg
      by_cases hb : b < G.next
      · exact .inl ⟨hb, by unfold rho; rw [if_pos hb]⟩
      · right
        refine ⟨by omega, ?_⟩
        by_cases hb2 : b < G.next + l.length
        · have hsb : b - G.next < s.length := by omega
          exact ⟨s[b - G.next], List.getElem?_eq_getElem hsb, by unfold rho; rw [if_neg hb, List.getElem?_eq_getElem hsb]; rfl⟩
        · rw [news_get, if_neg (by omega)] at hg
          exact absurd (hw _ _ _ _ hg).1 hb
    have hge : ∀ {i j : Nat}, s[i]? = some j → G.next ≤ j := fun {i j} h => by
      have := List.all_eq_true.1 hlt j (List.mem_of_getElem? h)
      simpa using this
    rcases key g1 with ⟨h1, e1⟩ | ⟨h1, j1, s1, e1⟩ <;> rcases key g2 with ⟨h2, e2⟩ | ⟨h2, j2, s2, e2⟩
    · rw [e1, e2]; exact hne
    · rw [e1, e2]; have := hge s2; omega
    · rw [e1, e2]; have := hge s1; omega
    · rw [e1, e2]
      intro hj
      subst hj
      have := (List.getElem?_inj (List.getElem?_eq_some_iff.1 s1).1 hs).1 (s1.trans s2.symm)
      omega

def SubR (ρ : Nat → Nat) : Env → Env → Prop
  | [], _ => True
  | (t, v) :: r, e => e.get t = some (ren ρ v) ∧ SubR ρ r e
theorem SubR.get {ρ : Nat → Nat} : ∀ {e2 e : Env}, SubR ρ e2 e → ∀ t v, e2.get t = some v → e.get t = some (ren ρ v)
  | [], _, _, t, v, h => by simp [Env.get] at h
  | (s, u) :: r, e, hs, t, v, h => by
    simp only [Env.get] at h
    split at h
    · rename_i hst; subst hst; injection h with h; subst h; exact hs.1
    · exact hs.2.get t v h
theorem Weak.news {n : Nat} {G : Hp} {e2 e : Env} (hw : WfH G) (hn : n ≤ G.next) (l : List Blk) (s : List Nat) (hH : ∀ b, b < G.next → H.get b = G.get b) (ht : TailOk (rho G.next s H.next) H l s) (hs : s.Nodup) (hlt : s.all fun j => decide (G.next ≤ j)) (hob : ∀ r o, G.ob r = some o → H.ob r = some o)
    (he : SubR (rho G.next s H.next) e2 e) : Weak n e2 (Abs.news G l) e H := ⟨_, Wk.news hw hn l s hH ht hs hlt hob, he.get⟩

/-! ### leaving -/
theorem ret_n {fn : Func} {n0 : Nat} {Q : Value → Hp → Prop} {env : Env} {v : Value} (h : ares P fn env H = some v) (hq : Q v H) : retQ P fn n0 Q .normal env H := ⟨v, h, fun b => b, v, H, Wk.refl _ _, ren_self, hq⟩
theorem ret_r {fn : Func} {n0 : Nat} {Q : Value → Hp → Prop} {env : Env} {v : Value} (h : ares P fn env H = some v) (hq : Q v H) : retQ P fn n0 Q .ret env H := ⟨v, h, fun b => b, v, H, Wk.refl _ _, ren_self, hq⟩
/-- Leaving with a memory told anew. -/
theorem ret_news {fn : Func} {n0 : Nat} {Q : Value → Hp → Prop} {env : Env} {G : Hp} {v : Value} (e : Exit) (he : e = .normal ∨ e = .ret) (hw : WfH G) (hn : n0 ≤ G.next) (l : List Blk) (s : List Nat) (v2 : Value) (h : ares P fn env H = some v) (hH : ∀ b, b < G.next → H.get b = G.get b)
    (ht : TailOk (rho G.next s H.next) H l s) (hs : s.Nodup) (hlt : s.all fun j => decide (G.next ≤ j)) (hob : ∀ r o, G.ob r = some o → H.ob r = some o) (hv : ren (rho G.next s H.next) v2 = v) (hq : Q v2 (Abs.news G l)) : retQ P fn n0 Q e env H := by
  rcases he with rfl | rfl <;> exact ⟨v, h, _, v2, _, Wk.news hw hn l s hH ht hs hlt hob, hv, hq⟩
/-- Leaving with the memory as it was when the function was entered. -/
theorem ret_same {fn : Func} {n0 : Nat} {Q : Value → Hp → Prop} {env : Env} {G : Hp} {v : Value} (e : Exit) (he : e = .normal ∨ e = .ret) (hw : WfH G) (hn : n0 ≤ G.next) (h : ares P fn env H = some v) (hf : refs G.next v = true) (hH : ∀ b, b < G.next → H.get b = G.get b) (hob : ∀ r o, G.ob r = some o → H.ob r = some o)
    (hq : Q v G) : retQ P fn n0 Q e env H :=
  ret_news e he hw hn [] [] v h hH trivial List.nodup_nil rfl hob (ren_id (n := G.next) (fun b hb => by unfold rho; rw [if_pos hb]) hf) hq

/-! ### rows that came in -/
/-- The slice (its address a) holds elements of s cells each. -/
def Elems (H : Hp) (a : Option Addr) (s : Nat) (xs : List (List Value)) : Prop := ∀ (i : Nat) (h : i < xs.length), ∃ b o, a = some ⟨b, o, none⟩ ∧ b < H.next ∧ aload H ⟨b, o + i * s, none⟩ s = some xs[i]
theorem aload_grows' {H H' : Hp} (h : Grows H H') {b o n : Nat} {cs : List Value} (hb : b < H.next) (hl : aload H ⟨b, o, none⟩ n = some cs) : aload H' ⟨b, o, none⟩ n = some cs := by
  unfold aload at hl ⊢
  cases hg : H.get b with
  | dead => simp [hg] at hl
  | row c own k => simp only; rw [h.2 _ _ _ _ hb hg]; simpa [hg] using hl
theorem Elems.grows {H H' : Hp} (h : Grows H H') {a : Option Addr} {s : Nat} {xs : List (List Value)} (he : Elems H a s xs) : Elems H' a s xs := fun i hi => by
  obtain ⟨b, o, h1, h2, h3⟩ := he i hi
  exact ⟨b, o, h1, Nat.lt_of_lt_of_le h2 h.1, aload_grows' h h2 h3⟩
end
end Go.Abs
