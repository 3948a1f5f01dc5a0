/- MasterKnows. -/
import Derived.Test.YtejpfdhlpcgfkaaVl
import Derived.Test.YtejpfdhlpcgfkaaAbsZ
import Derived.Test.YtejpfdhlpcgfkaaAbsU
set_option linter.unusedVariables false
set_option linter.unusedSimpArgs false
set_option linter.unusedSectionVars false
namespace Go.Proofs.Ytejpfdhlpcgfkaa
open Go.Abs Go.Sm
set_option maxHeartbeats 8000000
set_option maxRecDepth 100000
def insAt (l : List Cal) (k : Nat) (c : Cal) : List Cal := l.take k ++ [c] ++ l.drop k
theorem ins_okAll {l : List Cal} {k : Nat} {c : Cal} {w : Want} (hc : c.ok = true) : okAll (insAt l k c) w = okAll l w := by
  have e : (insAt l k c).any (fun c => !c.ok) = l.any (fun c => !c.ok) := by
    conv => rhs; rw [← List.take_append_drop k l]
    simp only [insAt, List.any_append, List.any_cons, List.any_nil, hc, Bool.not_true, Bool.or_false]
  rw [okAll, okAll, e]
theorem ins_used {l : List Cal} {k : Nat} {c : Cal} {w : Want} (hn : w.app c = false) : usedL (insAt l k c) w = usedL l w := by
  rw [usedL, usedL]
  conv => rhs; rw [← List.take_append_drop k l]
  simp only [insAt, List.reverse_append, List.filter_append, List.reverse_singleton, List.filter_cons, hn, List.filter_nil, List.nil_append, Bool.false_eq_true, if_false]
theorem masterR_form {l : List Cal} {w : Want} {v : Value} (h : MasterR l w v) : ∃ a b c d e : Int, v = .tuple #[pxs a b c d, .int .i64 e] := by
  rcases h with ⟨_, rfl⟩ | ⟨_, _, rfl⟩ | ⟨_, _, Y, _, rfl⟩ <;> exact ⟨_, _, _, _, _, rfl⟩
theorem masterR_unique {l : List Cal} {w : Want} {v v' : Value} (h : MasterR l w v) (h' : MasterR l w v') : v = v' := by
  rcases h with ⟨h1, rfl⟩ | ⟨h1, h2, rfl⟩ | ⟨h1, h2, Y, hY, rfl⟩ <;> rcases h' with ⟨g1, rfl⟩ | ⟨g1, g2, rfl⟩ | ⟨g1, g2, Y', hY', rfl⟩
  · rfl
  · rw [h1] at g1; cases g1
  · rw [h1] at g1; cases g1
  · rw [h1] at g1; cases g1
  · rfl
  · exact absurd h2 g2
  · rw [h1] at g1; cases g1
  · exact absurd g2 h2
  · rw [order_unique hY hY']
theorem masterR_knows {l : List Cal} {k : Nat} {c : Cal} {w : Want} (hc : c.ok = true) (hn : w.app c = false) {v : Value} (h : MasterR (insAt l k c) w v) : MasterR l w v := by
  rw [MasterR, ins_okAll hc, ins_used hn] at h
  exact h

/-! ### slices of the list, and lists behind lists -/
def cutA (a : Option Addr) (j : Nat) : Option Addr := a.map fun x => ⟨x.block, x.off + j * 9, none⟩
theorem cal_one : ∀ l : List Cal, ((l.map Cal.cells).flatten).all Abs.one = true
  | [] => rfl
  | a :: l => by simp only [List.map_cons, List.flatten_cons, List.all_append, cal_one l, Bool.and_true]; rfl
theorem spot_of {G : Hp} {a : Addr} {s : Nat} {xs : List (List Value)} (h : Elems G (some a) s xs) (h0 : xs.length ≠ 0) : ∃ b o, a = ⟨b, o, none⟩ := by
  obtain ⟨b, o, e, _⟩ := h 0 (by omega)
  exact ⟨b, o, Option.some.inj e⟩
theorem pre_slice {G : Hp} {a : Option Addr} {l : List Cal} {k : Nat} (he : Elems G a 9 (l.map Cal.cells)) (hc : CutS G a 9 l.length) (hk : k ≤ l.length) :
    aslice Try.prog G 22 (.slice a l.length l.length) none (some (.int .i64 k)) none = some (.slice (cutA a 0) k k) ∧ Elems G (cutA a 0) 9 ((l.take k).map Cal.cells) := by
  cases a with
  | none =>
    have h0 : l.length = 0 := by
      rcases Nat.eq_zero_or_pos l.length with h | h
      · exact h
      · obtain ⟨b, o, e, _⟩ := he 0 (by simpa using h); cases e
    obtain rfl : k = 0 := by omega
    refine ⟨by simp [aslice, u22, bnd, ts42, h0, cutA], by rw [List.take_zero]; exact Elems.nil⟩
  | some a =>
    have hcut : l.length = 0 ∨ cutOk G a.block 9 = true := by
      rcases Nat.eq_zero_or_pos l.length with h | h
      · exact .inl h
      · obtain ⟨b, o, rfl⟩ := spot_of he (by rw [List.length_map]; omega)
        exact .inr (hc b o rfl (by omega))
    refine ⟨?_, fun i hi => ?_⟩
    · simp only [aslice, u22, bnd, ts42, Option.isSome_none, Bool.false_eq_true, if_false, Option.bind_some]
      rw [if_pos (show (0 : Int) ≤ (k : Int) ∧ (k : Int) ≤ (l.length : Int) from ⟨by omega, by omega⟩)]
      simp only [Option.bind_some, Int.toNat_natCast]
      rw [if_pos hcut]
      simp [cutA]
    · have hi2 : i < (l.map Cal.cells).length := by simp at hi; simp; omega
      obtain ⟨b, o, e, h1, h2⟩ := he i hi2
      cases e
      refine ⟨b, o, by simp [cutA], h1, ?_⟩
      rw [h2]
      simp
theorem post_slice {G : Hp} {a : Option Addr} {l : List Cal} {k : Nat} (he : Elems G a 9 (l.map Cal.cells)) (hc : CutS G a 9 l.length) (hk : k ≤ l.length) :
    aslice Try.prog G 22 (.slice a l.length l.length) (some (.int .i64 k)) none none = some (.slice (cutA a k) (l.length - k) (l.length - k)) ∧ Elems G (cutA a k) 9 ((l.drop k).map Cal.cells) := by
  cases a with
  | none =>
    have h0 : l.length = 0 := by
      rcases Nat.eq_zero_or_pos l.length with h | h
      · exact h
      · obtain ⟨b, o, e, _⟩ := he 0 (by simpa using h); cases e
    obtain rfl : k = 0 := by omega
    have hl : l = [] := List.eq_nil_of_length_eq_zero h0
    subst hl
    exact ⟨by simp [aslice, u22, bnd, ts42, cutA], Elems.nil⟩
  | some a =>
    have hcut : l.length = 0 ∨ cutOk G a.block 9 = true := by
      rcases Nat.eq_zero_or_pos l.length with h | h
      · exact .inl h
      · obtain ⟨b, o, rfl⟩ := spot_of he (by rw [List.length_map]; omega)
        exact .inr (hc b o rfl (by omega))
    refine ⟨?_, fun i hi => ?_⟩
    · simp only [aslice, u22, bnd, ts42, Option.isSome_none, Bool.false_eq_true, if_false, Option.bind_some]
      rw [if_pos (show (0 : Int) ≤ (k : Int) ∧ (k : Int) ≤ (l.length : Int) from ⟨by omega, by omega⟩)]
      simp only [Option.bind_some, Int.toNat_natCast]
      rw [if_pos hcut]
      simp [cutA]
    · simp only [List.length_map, List.length_drop] at hi
      have hi2 : k + i < (l.map Cal.cells).length := by simp; omega
      obtain ⟨b, o, e, h1, h2⟩ := he (k + i) hi2
      cases e
      refine ⟨b, o + k * 9, by simp [cutA], h1, ?_⟩
      rw [show o + k * 9 + i * 9 = o + (k + i) * 9 by omega, h2]
      simp
theorem app_cals {G : Hp} {q n m : Nat} {c : Option Addr} {la lb : List Cal} (hq : G.get q = .row (la.map Cal.cells).flatten true 9) (hqn : q < G.next) (hc : Elems G c 9 (lb.map Cal.cells)) (hn : la.length = n) (hm : lb.length = m) (hb : n + m ≤ 1000000) :
    ∃ G', aappend Try.prog G [22, 22] (.slice (some ⟨q, 0, none⟩) n n) (.slice c m m) = some (.slice (some ⟨G.next, 0, none⟩) (n + m) (n + m), G') ∧ G'.next = G.next + 1 ∧
      (∀ b, b < G.next → b ≠ q → G'.get b = G.get b) ∧ G'.get G.next = .row ((la ++ lb).map Cal.cells).flatten true 9 := by
  subst hn; subst hm
  have h := asource_elems (c := lb.length) hc (cells_len lb)
  rw [List.length_map] at h
  have hg : ((G.set q .dead).new (.row ((la.map Cal.cells).flatten ++ (lb.map Cal.cells).flatten) true 9)).get G.next = .row ((la ++ lb).map Cal.cells).flatten true 9 := by
    rw [List.map_append, List.flatten_append]; exact Hp.get_new_same _ _ _ rfl
  refine ⟨_, append_elems (P := Try.prog) u22 u22 ts42 tb42 tz42 rfl (by decide) (by decide) hq h (cal_one lb) (cals_flat lb) (cals_flat la) (by omega), rfl, fun b hb hne => ?_, hg⟩
  rw [Hp.get_new_ne _ _ _ (by simp only [Hp.next_set]; omega), Hp.get_set_ne _ _ _ _ hne]
theorem one_cal (G : Hp) (c : Cal) : Elems (G.new (.row c.cells true 9)) (some ⟨G.next, 0, none⟩) 9 ([c].map Cal.cells) :=
  Elems.row (own := true) (k := 9) (Nat.lt_succ_self _) (by rw [Hp.get_new_same _ _ _ rfl]; simp) (cells_len [c])
theorem ins_len {l : List Cal} {k : Nat} {c : Cal} (hk : k ≤ l.length) : (insAt l k c).length = l.length + 1 := by
  simp only [insAt, List.length_append, List.length_take, List.length_drop, List.length_singleton]; omega
theorem app22 (G : Hp) (q n c : Nat) (a : Option Addr) (m c' : Nat) : aappend Try.prog G [22, 22] (.slice (some ⟨q, 0, none⟩) n c) (.slice a m c') = appB Try.prog 22 22 9 72 G q (G.get q) n (asource G 9 (.slice a m c')) :=
  app_eq ⟨42, 42, _, u22, u22, ts42, tb42, tz42, rfl, by decide, by decide⟩ q n c a m c'
/-- What the laws need of the two parts of the list. -/
theorem parts_of {G : Hp} {a : Option Addr} {l : List Cal} {k : Nat} (he : Elems G a 9 (l.map Cal.cells)) (hc : CutS G a 9 l.length) (hk : k ≤ l.length) : ∃ T D : List Value, T = ((l.take k).map Cal.cells).flatten ∧ D = ((l.drop k).map Cal.cells).flatten ∧ T.length = k * 9 ∧ D.length = (l.length - k) * 9 ∧ T.all Abs.one = true ∧ D.all Abs.one = true ∧
    (∀ X, Keeps G X → aslice Try.prog X 22 (.slice a l.length l.length) none (some (.int .i64 k)) none = some (.slice (cutA a 0) k k)) ∧ (∀ X, Keeps G X → aslice Try.prog X 22 (.slice a l.length l.length) (some (.int .i64 k)) none none = some (.slice (cutA a k) (l.length - k) (l.length - k))) ∧
    (∀ X, Keeps G X → asource X 9 (.slice (cutA a 0) k k) = some (k, T)) ∧ (∀ X, Keeps G X → asource X 9 (.slice (cutA a k) (l.length - k) (l.length - k)) = some (l.length - k, D)) := by
  have hcu : ∀ X, Keeps G X → CutS X a 9 l.length := fun X hX => hc.grows fun b o ha hm => by
    obtain ⟨b', o', e', hb', _⟩ := he 0 (by simpa using Nat.pos_of_ne_zero hm)
    rw [ha] at e'; cases e'
    exact hX.get _ hb'
  refine ⟨_, _, rfl, rfl, ?_, ?_, cal_one _, cal_one _, fun X hX => (pre_slice (he.grows hX.grows) (hcu X hX) hk).1, fun X hX => (post_slice (he.grows hX.grows) (hcu X hX) hk).1, fun X hX => ?_, fun X hX => ?_⟩
  · rw [cals_flat, List.length_take, Nat.min_eq_left hk]
  · rw [cals_flat, List.length_drop]
  · have := asource_elems (c := k) (pre_slice (he.grows hX.grows) (hcu X hX) hk).2 (cells_len _)
    rw [List.length_map, List.length_take, Nat.min_eq_left hk] at this
    exact this
  · have := asource_elems (c := l.length - k) (post_slice (he.grows hX.grows) (hcu X hX) hk).2 (cells_len _)
    rw [List.length_map, List.length_drop] at this
    exact this
theorem n7 : Try.f7.ntmps = 92 := rfl
theorem ret7 : Try.f7.results = #[.tmp 16] := rfl
theorem knows_law (H : Hp) (a : Option Addr) (l : List Cal) (c : Cal) (wk wt wf wa wn pl : Int) (he : Elems H a 9 (l.map Cal.cells)) (hcut : CutS H a 9 l.length) (hpl : (Lit.int .u8 pl).wf = true) :
    ACalls Try.prog 7 [.slice a l.length l.length, .agg c.cells.toArray, .int .i64 wk, .int .i64 wt, .int .i64 wf, .int .i64 wa, .int .i64 wn, .int .u8 pl] H (fun v H' => v = .bool true) := by
  have hw2 : 0 ≤ pl ∧ pl ≤ 255 := by
    simp [Lit.wf, IntKind.min, IntKind.max, IntKind.signed, IntKind.bits] at hpl; omega
  have hva := fun G => valid16_spec G c
  have hap := fun G => app15_spec G c ⟨wk, wt, wf, wa, wn⟩
  simp only [cal_agg, Cal.cells] at hva hap ⊢
  refine ACalls_enter Try.func7 (by kernel_rfl) rfl (by kernel_rfl) (by simp [n7]) fun hw hr => AWP_step ?_
  simp -implicitDefEqProofs (maxSteps := 2000000) (disch := first | omega | (simp only [nx_new, nx_set, List.length_cons, List.length_nil, List.length_map, List.length_set, ne_eq, not_true_eq_false, not_false_eq_true, Nat.succ_ne_zero]; done) | (simp only [nx_new, nx_set, List.length_cons, List.length_nil, List.length_map, List.length_set, ne_eq, not_true_eq_false, not_false_eq_true, Nat.succ_ne_zero]; omega)) only [go_sem, reduceIte, reduceCtorEq, Nat.succ_ne_zero, not_false_eq_true, decide_true, decide_false, Nat.reduceAdd, Nat.reduceMul, Nat.reduceEqDiff, Nat.reduceLeDiff]
  obtain ⟨H1, e1⟩ : ∃ X, X = H.new (.row [.int .i64 c.kind, .int .i64 c.tel, .int .i64 c.fil, .int .i64 c.at_, .int .i64 c.known, .int .i64 c.v0, .int .i64 c.v1, .int .i64 c.v2, .int .i64 c.v3] true 0) := ⟨_, rfl⟩
  rw [← e1]
  have k01 : Keeps H H1 := by rw [e1]; exact Keeps.new _ _
  have gb : H1.get H.next = .row c.cells true 0 := by rw [e1]; exact Hp.get_new_same _ _ _ rfl
  have n01 : H1.next = H.next + 1 := by rw [e1]; rfl
  clear e1
  refine AWP_step ?_
  simp -implicitDefEqProofs (maxSteps := 2000000) (disch := first | omega | (simp only [nx_new, nx_set, List.length_cons, List.length_nil, List.length_map, List.length_set, ne_eq, not_true_eq_false, not_false_eq_true, Nat.succ_ne_zero]; done) | (simp only [nx_new, nx_set, List.length_cons, List.length_nil, List.length_map, List.length_set, ne_eq, not_true_eq_false, not_false_eq_true, Nat.succ_ne_zero]; omega)) only [go_sem, reduceIte, reduceCtorEq, Nat.succ_ne_zero, not_false_eq_true, decide_true, decide_false, Nat.reduceAdd, Nat.reduceMul, Nat.reduceEqDiff, Nat.reduceLeDiff]
  refine (head_spec H1).mono ?_
  rintro _ G0 ⟨rfl, k0⟩
  simp -implicitDefEqProofs (maxSteps := 2000000) (disch := first | omega | (simp only [nx_new, nx_set, List.length_cons, List.length_nil, List.length_map, List.length_set, ne_eq, not_true_eq_false, not_false_eq_true, Nat.succ_ne_zero]; done) | (simp only [nx_new, nx_set, List.length_cons, List.length_nil, List.length_map, List.length_set, ne_eq, not_true_eq_false, not_false_eq_true, Nat.succ_ne_zero]; omega)) only [go_sem, reduceIte, reduceCtorEq, Nat.succ_ne_zero, not_false_eq_true, decide_true, decide_false, Nat.reduceAdd, Nat.reduceMul, Nat.reduceEqDiff, Nat.reduceLeDiff]
  refine AWP_step ?_
  simp -implicitDefEqProofs (maxSteps := 2000000) (disch := first | omega | (simp only [nx_new, nx_set, List.length_cons, List.length_nil, List.length_map, List.length_set, ne_eq, not_true_eq_false, not_false_eq_true, Nat.succ_ne_zero]; done) | (simp only [nx_new, nx_set, List.length_cons, List.length_nil, List.length_map, List.length_set, ne_eq, not_true_eq_false, not_false_eq_true, Nat.succ_ne_zero]; omega)) only [go_sem, reduceIte, reduceCtorEq, Nat.succ_ne_zero, not_false_eq_true, decide_true, decide_false, Nat.reduceAdd, Nat.reduceMul, Nat.reduceEqDiff, Nat.reduceLeDiff]
  refine ACalls.use_eq (few_spec _ _ _) ?_
  have hn0 := k0.next
  have gb0 : G0.get H.next = .row c.cells true 0 := by rw [k0.get _ (by omega)]; exact gb
  have lb : ∀ X, Keeps G0 X → aload X ⟨H.next, 0, none⟩ 9 = some [.int .i64 c.kind, .int .i64 c.tel, .int .i64 c.fil, .int .i64 c.at_, .int .i64 c.known, .int .i64 c.v0, .int .i64 c.v1, .int .i64 c.v2, .int .i64 c.v3] := fun X hX =>
    (aload_row ((hX.get _ (by omega)).trans gb0) (by simp [Cal.cells])).trans rfl
  cases hfew : decide ((l.length : Int) ≤ 20) with
  | false =>
    simp -implicitDefEqProofs (maxSteps := 2000000) (disch := first | omega | (simp only [nx_new, nx_set, List.length_cons, List.length_nil, List.length_map, List.length_set, ne_eq, not_true_eq_false, not_false_eq_true, Nat.succ_ne_zero]; done) | (simp only [nx_new, nx_set, List.length_cons, List.length_nil, List.length_map, List.length_set, ne_eq, not_true_eq_false, not_false_eq_true, Nat.succ_ne_zero]; omega)) only [go_sem, reduceIte, reduceCtorEq, Nat.succ_ne_zero, not_false_eq_true, decide_true, decide_false, Nat.reduceAdd, Nat.reduceMul, Nat.reduceEqDiff, Nat.reduceLeDiff]
    exact ret_r (v := .bool true) (by rw [ares_tmp ret7]; rfl) rfl
  | true =>
    have hl : l.length ≤ 20 := by have := of_decide_eq_true hfew; omega
    simp -implicitDefEqProofs (maxSteps := 2000000) (disch := first | omega | (simp only [nx_new, nx_set, List.length_cons, List.length_nil, List.length_map, List.length_set, ne_eq, not_true_eq_false, not_false_eq_true, Nat.succ_ne_zero]; done) | (simp only [nx_new, nx_set, List.length_cons, List.length_nil, List.length_map, List.length_set, ne_eq, not_true_eq_false, not_false_eq_true, Nat.succ_ne_zero]; omega)) only [go_sem, reduceIte, reduceCtorEq, Nat.succ_ne_zero, not_false_eq_true, decide_true, decide_false, Nat.reduceAdd, Nat.reduceMul, Nat.reduceEqDiff, Nat.reduceLeDiff, lb _ (Keeps.refl _)]
    refine ACalls.use_eq (hva _) ?_
    cases hok : c.ok with
    | false =>
      simp -implicitDefEqProofs (maxSteps := 2000000) (disch := first | omega | (simp only [nx_new, nx_set, List.length_cons, List.length_nil, List.length_map, List.length_set, ne_eq, not_true_eq_false, not_false_eq_true, Nat.succ_ne_zero]; done) | (simp only [nx_new, nx_set, List.length_cons, List.length_nil, List.length_map, List.length_set, ne_eq, not_true_eq_false, not_false_eq_true, Nat.succ_ne_zero]; omega)) only [go_sem, reduceIte, reduceCtorEq, Nat.succ_ne_zero, not_false_eq_true, decide_true, decide_false, Nat.reduceAdd, Nat.reduceMul, Nat.reduceEqDiff, Nat.reduceLeDiff]
      exact ret_r (v := .bool true) (by rw [ares_tmp ret7]; rfl) rfl
    | true =>
      obtain ⟨X1, e1⟩ : ∃ X, X = G0.new (.row [.int .i64 c.kind, .int .i64 c.tel, .int .i64 c.fil, .int .i64 c.at_, .int .i64 c.known, .int .i64 c.v0, .int .i64 c.v1, .int .i64 c.v2, .int .i64 c.v3] true 0) := ⟨_, rfl⟩
      rw [← e1]
      have kx1 : Keeps G0 X1 := by rw [e1]; exact Keeps.new _ _
      clear e1
      simp -implicitDefEqProofs (maxSteps := 2000000) (disch := first | omega | (simp only [nx_new, nx_set, List.length_cons, List.length_nil, List.length_map, List.length_set, ne_eq, not_true_eq_false, not_false_eq_true, Nat.succ_ne_zero]; done) | (simp only [nx_new, nx_set, List.length_cons, List.length_nil, List.length_map, List.length_set, ne_eq, not_true_eq_false, not_false_eq_true, Nat.succ_ne_zero]; omega)) only [go_sem, reduceIte, reduceCtorEq, Nat.succ_ne_zero, not_false_eq_true, decide_true, decide_false, Nat.reduceAdd, Nat.reduceMul, Nat.reduceEqDiff, Nat.reduceLeDiff, lb _ kx1]
      refine ACalls.use_eq (hap _) ?_
      cases happ : Want.app ⟨wk, wt, wf, wa, wn⟩ c with
      | true =>
        simp -implicitDefEqProofs (maxSteps := 2000000) (disch := first | omega | (simp only [nx_new, nx_set, List.length_cons, List.length_nil, List.length_map, List.length_set, ne_eq, not_true_eq_false, not_false_eq_true, Nat.succ_ne_zero]; done) | (simp only [nx_new, nx_set, List.length_cons, List.length_nil, List.length_map, List.length_set, ne_eq, not_true_eq_false, not_false_eq_true, Nat.succ_ne_zero]; omega)) only [go_sem, reduceIte, reduceCtorEq, Nat.succ_ne_zero, not_false_eq_true, decide_true, decide_false, Nat.reduceAdd, Nat.reduceMul, Nat.reduceEqDiff, Nat.reduceLeDiff]
        exact ret_r (v := .bool true) (by rw [ares_tmp ret7]; rfl) rfl
      | false =>
        obtain ⟨X2, e2⟩ : ∃ X, X = X1.new (.row [.int .i64 c.kind, .int .i64 c.tel, .int .i64 c.fil, .int .i64 c.at_, .int .i64 c.known, .int .i64 c.v0, .int .i64 c.v1, .int .i64 c.v2, .int .i64 c.v3] true 0) := ⟨_, rfl⟩
        rw [← e2]
        have kx2 : Keeps G0 X2 := by rw [e2]; exact kx1.trans (Keeps.new _ _)
        clear e2
        have cv1 : aconv Try.prog 5 3 (.int .u8 pl) = some (.int .i64 pl) := by simp [aconv, u5, u3, wrap_i64 (show -9223372036854775808 ≤ pl by omega) (show pl ≤ 9223372036854775807 by omega)]
        obtain ⟨k, hkl, hk0⟩ : ∃ k : Nat, k ≤ l.length ∧ pl.tmod ((l.length : Int) + 1) = (k : Int) := by
          have h1 := Int.tmod_nonneg ((l.length : Int) + 1) hw2.1
          have h2 := Int.tmod_lt_of_pos pl (show (0 : Int) < (l.length : Int) + 1 by omega)
          exact ⟨(pl.tmod ((l.length : Int) + 1)).toNat, by omega, by omega⟩
        have hz0 : (l.length : Int) + 1 ≠ 0 := by omega
        have K2 := (k01.trans k0).trans kx2
        have he2 := he.grows K2.grows
        have hcut2 : CutS X2 a 9 l.length := hcut.grows fun b o ha hm => by
          obtain ⟨b', o', e', hb', _⟩ := he 0 (by simpa using Nat.pos_of_ne_zero hm)
          rw [ha] at e'; cases e'
          exact K2.get _ hb'
        obtain ⟨T, D, hT, hD, lT, lD, oT, oD, hs1, hs2, ha1, ha2⟩ := parts_of he2 hcut2 hkl
        have lb2 : ∀ X, Keeps X2 X → aload X ⟨H.next, 0, none⟩ 9 = some [.int .i64 c.kind, .int .i64 c.tel, .int .i64 c.fil, .int .i64 c.at_, .int .i64 c.known, .int .i64 c.v0, .int .i64 c.v1, .int .i64 c.v2, .int .i64 c.v3] := fun X hX => lb X (kx2.trans hX)
        have eL : k + 1 + (l.length - k) = l.length + 1 := by omega
        simp -implicitDefEqProofs (maxSteps := 2000000) (disch := first | omega | (simp only [nx_new, nx_set, List.length_cons, List.length_nil, List.length_map, List.length_set, ne_eq, not_true_eq_false, not_false_eq_true, Nat.succ_ne_zero]; done) | (simp only [nx_new, nx_set, List.length_cons, List.length_nil, List.length_map, List.length_set, ne_eq, not_true_eq_false, not_false_eq_true, Nat.succ_ne_zero]; omega)) only [go_sem, reduceIte, reduceCtorEq, Nat.succ_ne_zero, not_false_eq_true, decide_true, decide_false, Nat.reduceAdd, Nat.reduceMul, Nat.reduceEqDiff, Nat.reduceLeDiff]
        refine AWP_step ?_
        simp -implicitDefEqProofs (maxSteps := 2000000) (disch := first | omega | (simp only [nx_new, nx_set, List.length_cons, List.length_nil, List.length_map, List.length_set, ne_eq, not_true_eq_false, not_false_eq_true, Nat.succ_ne_zero]; done) | (simp only [nx_new, nx_set, List.length_cons, List.length_nil, List.length_map, List.length_set, ne_eq, not_true_eq_false, not_false_eq_true, Nat.succ_ne_zero]; omega)) only [go_sem, reduceIte, reduceCtorEq, Nat.succ_ne_zero, not_false_eq_true, decide_true, decide_false, Nat.reduceAdd, Nat.reduceMul, Nat.reduceEqDiff, Nat.reduceLeDiff, cv1, hk0]
        refine AWP_cut (σ := Nat) (fun q => [(19, .slice (some ⟨q, 0, none⟩) (k + 1 + (l.length - k)) (k + 1 + (l.length - k))), (17, .bool true), (0, .slice a l.length l.length), (2, .int .i64 wk), (3, .int .i64 wt), (4, .int .i64 wf), (5, .int .i64 wa), (6, .int .i64 wn)])
          (fun q G => Keeps X2 G ∧ q < G.next ∧ G.get q = .row (T ++ [.int .i64 c.kind, .int .i64 c.tel, .int .i64 c.fil, .int .i64 c.at_, .int .i64 c.known, .int .i64 c.v0, .int .i64 c.v1, .int .i64 c.v2, .int .i64 c.v3] ++ D) true 9) ?_ ?_
        · simp -implicitDefEqProofs (maxSteps := 2000000) (disch := first | omega | (simp only [nx_new, nx_set, List.length_cons, List.length_nil, List.length_map, List.length_set, ne_eq, not_true_eq_false, not_false_eq_true, Nat.succ_ne_zero]; done) | (simp only [nx_new, nx_set, List.length_cons, List.length_nil, List.length_map, List.length_set, ne_eq, not_true_eq_false, not_false_eq_true, Nat.succ_ne_zero]; omega)) only [go_sem, reduceIte, reduceCtorEq, Nat.succ_ne_zero, not_false_eq_true, decide_true, decide_false, Nat.reduceAdd, Nat.reduceMul, Nat.reduceEqDiff, Nat.reduceLeDiff]
          refine AWP_draw_tree (.list 1 (.list 2 (.list 3 (.list 8 (.list 9 (.fork (.cons 0 (.fork (.cons 4 (.list 5 (.fork (.cons 6 (.fork (.cons 7 (.list 10 (.list 11 (.list 12 .done))) (.cons 10 (.list 7 (.list 11 (.list 12 .done))) .nil))) (.cons 10 (.list 6 (.list 7 (.list 11 (.list 12 .done)))) .nil)))) (.cons 5 (.fork (.cons 4 (.fork (.cons 6 (.fork (.cons 7 (.list 10 (.list 11 (.list 12 .done))) (.cons 10 (.list 7 (.list 11 (.list 12 .done))) .nil))) (.cons 10 (.list 6 (.list 7 (.list 11 (.list 12 .done)))) .nil))) (.cons 6 (.fork (.cons 4 (.fork (.cons 7 (.list 10 (.list 11 (.list 12 .done))) (.cons 10 (.list 7 (.list 11 (.list 12 .done))) .nil))) (.cons 10 (.list 4 (.list 7 (.list 11 (.list 12 .done)))) .nil))) (.cons 10 (.fork (.cons 4 (.list 6 (.list 7 (.list 11 (.list 12 .done)))) (.cons 6 (.list 4 (.list 7 (.list 11 (.list 12 .done)))) .nil))) .nil)))) (.cons 10 (.fork (.cons 4 (.list 5 (.list 6 (.list 7 (.list 11 (.list 12 .done))))) (.cons 5 (.fork (.cons 4 (.list 6 (.list 7 (.list 11 (.list 12 .done)))) (.cons 6 (.list 4 (.list 7 (.list 11 (.list 12 .done)))) .nil))) .nil))) .nil)))) (.cons 5 (.fork (.cons 0 (.fork (.cons 4 (.fork (.cons 6 (.fork (.cons 7 (.list 10 (.list 11 (.list 12 .done))) (.cons 10 (.list 7 (.list 11 (.list 12 .done))) .nil))) (.cons 10 (.list 6 (.list 7 (.list 11 (.list 12 .done)))) .nil))) (.cons 6 (.fork (.cons 4 (.fork (.cons 7 (.list 10 (.list 11 (.list 12 .done))) (.cons 10 (.list 7 (.list 11 (.list 12 .done))) .nil))) (.cons 10 (.list 4 (.list 7 (.list 11 (.list 12 .done)))) .nil))) (.cons 10 (.fork (.cons 4 (.list 6 (.list 7 (.list 11 (.list 12 .done)))) (.cons 6 (.list 4 (.list 7 (.list 11 (.list 12 .done)))) .nil))) .nil)))) (.cons 6 (.fork (.cons 0 (.fork (.cons 4 (.fork (.cons 7 (.list 10 (.list 11 (.list 12 .done))) (.cons 10 (.list 7 (.list 11 (.list 12 .done))) .nil))) (.cons 10 (.list 4 (.list 7 (.list 11 (.list 12 .done)))) .nil))) (.cons 10 (.list 0 (.list 4 (.list 7 (.list 11 (.list 12 .done))))) .nil))) (.cons 10 (.fork (.cons 0 (.fork (.cons 4 (.list 6 (.list 7 (.list 11 (.list 12 .done)))) (.cons 6 (.list 4 (.list 7 (.list 11 (.list 12 .done)))) .nil))) (.cons 6 (.list 0 (.list 4 (.list 7 (.list 11 (.list 12 .done))))) .nil))) .nil)))) (.cons 10 (.fork (.cons 0 (.fork (.cons 4 (.list 5 (.list 6 (.list 7 (.list 11 (.list 12 .done))))) (.cons 5 (.fork (.cons 4 (.list 6 (.list 7 (.list 11 (.list 12 .done)))) (.cons 6 (.list 4 (.list 7 (.list 11 (.list 12 .done)))) .nil))) .nil))) (.cons 5 (.fork (.cons 0 (.fork (.cons 4 (.list 6 (.list 7 (.list 11 (.list 12 .done)))) (.cons 6 (.list 4 (.list 7 (.list 11 (.list 12 .done)))) .nil))) (.cons 6 (.list 0 (.list 4 (.list 7 (.list 11 (.list 12 .done))))) .nil))) .nil))) .nil))))))))) mo (by kernel_rfl) ?_
          simp -implicitDefEqProofs (maxSteps := 4000000) (disch := first | omega | assumption | (simp only [nx_new, nx_set, List.length_cons, List.length_nil, List.length_map, List.length_set, ne_eq, not_true_eq_false, not_false_eq_true, Nat.succ_ne_zero, List.length_append, List.all_cons, List.all_nil, one_int, one_bool, Bool.and_self, Bool.and_true]; done) | (simp only [nx_new, nx_set, List.length_cons, List.length_nil, List.length_map, List.length_set, ne_eq, not_true_eq_false, not_false_eq_true, Nat.succ_ne_zero, List.length_append]; omega) | (repeat (first | exact Keeps.refl _ | assumption | refine Keeps.newR ?_ | refine Keeps.setR ?_ (by (simp only [Hp.next_new, Hp.next_set]; omega))))) only [go_sem, reduceIte, reduceCtorEq, Nat.succ_ne_zero, not_false_eq_true, decide_true, decide_false, Nat.reduceAdd, Nat.reduceMul, Nat.reduceEqDiff, Nat.reduceLeDiff, app22, appB_row, hs1, hs2, ha1, ha2, asource_pos, lb2]
          repeat' (with_reducible refine And.intro ?_ ?_)
          all_goals (refine ⟨X2.next + 1 + 1 + 1 + 1, ⟨?_, ?_, ?_⟩, ?_⟩; (focus (repeat (first | exact Keeps.refl _ | refine Keeps.newR ?_ | refine Keeps.setR ?_ (by (simp only [Hp.next_new, Hp.next_set]; omega))))); (focus ((try simp only [Hp.next_new, Hp.next_set]); omega)); (focus simp -implicitDefEqProofs (maxSteps := 4000000) (disch := first | omega | assumption | (simp only [nx_new, nx_set, List.length_cons, List.length_nil, List.length_map, List.length_set, ne_eq, not_true_eq_false, not_false_eq_true, Nat.succ_ne_zero, List.length_append, List.all_cons, List.all_nil, one_int, one_bool, Bool.and_self, Bool.and_true]; done) | (simp only [nx_new, nx_set, List.length_cons, List.length_nil, List.length_map, List.length_set, ne_eq, not_true_eq_false, not_false_eq_true, Nat.succ_ne_zero, List.length_append]; omega) | (repeat (first | exact Keeps.refl _ | assumption | refine Keeps.newR ?_ | refine Keeps.setR ?_ (by (simp only [Hp.next_new, Hp.next_set]; omega))))) only [go_sem, reduceIte, reduceCtorEq, Nat.succ_ne_zero, not_false_eq_true, decide_true, decide_false, Nat.reduceAdd, Nat.reduceMul, Nat.reduceEqDiff, Nat.reduceLeDiff]); (focus simp -implicitDefEqProofs (disch := omega) only [Abs.Sub, get_cons_eq, get_cons_ne, and_self, Int.natCast_zero, Int.natCast_add, Int.natCast_one]))
        · rintro q G ⟨kG, hqG, gq⟩
          have heq : T ++ [.int .i64 c.kind, .int .i64 c.tel, .int .i64 c.fil, .int .i64 c.at_, .int .i64 c.known, .int .i64 c.v0, .int .i64 c.v1, .int .i64 c.v2, .int .i64 c.v3] ++ D = ((insAt l k c).map Cal.cells).flatten := by
            rw [hT, hD, insAt, List.map_append, List.map_append, List.flatten_append, List.flatten_append]
            simp [Cal.cells]
          rw [heq] at gq
          have hem : Elems G (some ⟨q, 0, none⟩) 9 ((insAt l k c).map Cal.cells) := Elems.row hqG gq (cells_len _)
          have hml := ins_len (c := c) hkl
          rw [eL, ← hml]
          have hul : (usedL l ⟨wk, wt, wf, wa, wn⟩).length ≤ 20 := by
            refine Nat.le_trans (List.length_filter_le _ _) ?_
            rw [List.length_reverse]; exact hl
          refine AWP_step ?_
          simp -implicitDefEqProofs (maxSteps := 2000000) (disch := first | omega | (simp only [nx_new, nx_set, List.length_cons, List.length_nil, List.length_map, List.length_set, ne_eq, not_true_eq_false, not_false_eq_true, Nat.succ_ne_zero]; done) | (simp only [nx_new, nx_set, List.length_cons, List.length_nil, List.length_map, List.length_set, ne_eq, not_true_eq_false, not_false_eq_true, Nat.succ_ne_zero]; omega)) only [go_sem, reduceIte, reduceCtorEq, Nat.succ_ne_zero, not_false_eq_true, decide_true, decide_false, Nat.reduceAdd, Nat.reduceMul, Nat.reduceEqDiff, Nat.reduceLeDiff]
          refine (master_spec G a l ⟨wk, wt, wf, wa, wn⟩ (by omega) (he2.grows kG.grows)).mono ?_
          rintro v1 G1 ⟨m1, kG1⟩
          obtain ⟨p0, p1, p2, p3, er, rfl⟩ := masterR_form m1
          simp only [pxs] at m1 ⊢
          simp -implicitDefEqProofs (maxSteps := 2000000) (disch := first | omega | (simp only [nx_new, nx_set, List.length_cons, List.length_nil, List.length_map, List.length_set, ne_eq, not_true_eq_false, not_false_eq_true, Nat.succ_ne_zero]; done) | (simp only [nx_new, nx_set, List.length_cons, List.length_nil, List.length_map, List.length_set, ne_eq, not_true_eq_false, not_false_eq_true, Nat.succ_ne_zero]; omega)) only [go_sem, reduceIte, reduceCtorEq, Nat.succ_ne_zero, not_false_eq_true, decide_true, decide_false, Nat.reduceAdd, Nat.reduceMul, Nat.reduceEqDiff, Nat.reduceLeDiff]
          refine AWP_step ?_
          simp -implicitDefEqProofs (maxSteps := 2000000) (disch := first | omega | (simp only [nx_new, nx_set, List.length_cons, List.length_nil, List.length_map, List.length_set, ne_eq, not_true_eq_false, not_false_eq_true, Nat.succ_ne_zero]; done) | (simp only [nx_new, nx_set, List.length_cons, List.length_nil, List.length_map, List.length_set, ne_eq, not_true_eq_false, not_false_eq_true, Nat.succ_ne_zero]; omega)) only [go_sem, reduceIte, reduceCtorEq, Nat.succ_ne_zero, not_false_eq_true, decide_true, decide_false, Nat.reduceAdd, Nat.reduceMul, Nat.reduceEqDiff, Nat.reduceLeDiff]
          refine (master_spec _ (some ⟨q, 0, none⟩) (insAt l k c) ⟨wk, wt, wf, wa, wn⟩ (by omega) ((hem.grows kG1.grows).grows (Grows.new _ _))).mono ?_
          rintro v2 G2 ⟨m2, kG2⟩
          have hgn : G1.next + 1 ≤ G2.next := kG2.next
          have hv := masterR_unique (masterR_knows hok happ m2) m1
          subst hv
          have x2 : aload G2 ⟨G1.next, 0, none⟩ 4 = some [.int .i64 p0, .int .i64 p1, .int .i64 p2, .int .i64 p3] := (aload_row ((kG2.get _ (Nat.lt_succ_self _)).trans (Hp.get_new_same _ _ _ rfl)) (by simp)).trans rfl
          simp -implicitDefEqProofs (maxSteps := 2000000) (disch := first | omega | (simp only [nx_new, nx_set, List.length_cons, List.length_nil, List.length_map, List.length_set, ne_eq, not_true_eq_false, not_false_eq_true, Nat.succ_ne_zero]; done) | (simp only [nx_new, nx_set, List.length_cons, List.length_nil, List.length_map, List.length_set, ne_eq, not_true_eq_false, not_false_eq_true, Nat.succ_ne_zero]; omega)) only [go_sem, reduceIte, reduceCtorEq, Nat.succ_ne_zero, not_false_eq_true, decide_true, decide_false, Nat.reduceAdd, Nat.reduceMul, Nat.reduceEqDiff, Nat.reduceLeDiff, x2]
          refine AWP_of_awp ?_
          simp -implicitDefEqProofs (maxSteps := 2000000) (disch := first | omega | (simp only [nx_new, nx_set, List.length_cons, List.length_nil, List.length_map, List.length_set, ne_eq, not_true_eq_false, not_false_eq_true, Nat.succ_ne_zero]; done) | (simp only [nx_new, nx_set, List.length_cons, List.length_nil, List.length_map, List.length_set, ne_eq, not_true_eq_false, not_false_eq_true, Nat.succ_ne_zero]; omega)) only [go_sem, reduceIte, reduceCtorEq, Nat.succ_ne_zero, not_false_eq_true, decide_true, decide_false, Nat.reduceAdd, Nat.reduceMul, Nat.reduceEqDiff, Nat.reduceLeDiff, x2]
          exact ret_r (v := .bool true) (by rw [ares_tmp ret7]; rfl) rfl
end Go.Proofs.Ytejpfdhlpcgfkaa
