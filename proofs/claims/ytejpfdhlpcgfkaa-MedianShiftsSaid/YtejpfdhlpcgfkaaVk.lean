/- MedianShifts. -/
import Derived.Test.YtejpfdhlpcgfkaaVj
set_option linter.unusedVariables false
set_option linter.unusedSimpArgs false
set_option linter.unusedSectionVars false
namespace Go.Proofs.Ytejpfdhlpcgfkaa
open Go.Abs Go.Sm
set_option maxHeartbeats 8000000
set_option maxRecDepth 100000
theorem OwnSl_other {lo k : Nat} {G G' : Hp} {a : Option Addr} {cs : List Value} (h : OwnSl lo G a k cs) (hn : G.next ≤ G'.next) (hg : ∀ q, a = some q → G'.get q.block = G.get q.block) : OwnSl lo G' a k cs := by
  rcases h with h | ⟨q, h1, h2, h3, h4⟩
  · exact .inl h
  · exact .inr ⟨q, h1, h2, by omega, by rw [hg _ h1]; exact h4⟩
theorem OwnSl_lt {lo k : Nat} {G : Hp} {a : Option Addr} {cs : List Value} (h : OwnSl lo G a k cs) : ∀ q, a = some q → q.block < G.next := by
  intro q hq
  rcases h with ⟨h1, _⟩ | ⟨q', h1, _, h3, _⟩
  · rw [h1] at hq; cases hq
  · rw [h1] at hq; cases hq; exact h3
theorem ic_one : ∀ l : List Int, ((l.map ic).flatten).all Abs.one = true
  | [] => rfl
  | a :: l => by simp only [List.map_cons, List.flatten_cons, List.all_append, ic_one l, Bool.and_true]; rfl
theorem ic_flen (l : List Int) : ((l.map ic).flatten).length = l.length * 1 := by rw [flat_len (ic_len l), List.length_map]
/-- Numbers behind numbers. -/
theorem both_ints {G : Hp} {q : Nat} {c : Option Addr} {la lb : List Int} (hq : G.get q = .row (la.map ic).flatten true 1) (hqn : q < G.next) (hc : Elems G c 1 (lb.map ic)) (hla : la.length ≤ 1000000) (hlb : lb.length ≤ 1000000) :
    ∃ G', aappend Try.prog G [23, 23] (.slice (some ⟨q, 0, none⟩) la.length la.length) (.slice c lb.length lb.length) = some (.slice (some ⟨G.next, 0, none⟩) (la.length + lb.length) (la.length + lb.length), G') ∧ G'.next = G.next + 1 ∧
      (∀ b, b < G.next → b ≠ q → G'.get b = G.get b) ∧ G'.get G.next = .row ((la ++ lb).map ic).flatten true 1 ∧ Elems G' (some ⟨G.next, 0, none⟩) 1 ((la ++ lb).map ic) := by
  have h := asource_elems (c := lb.length) hc (ic_len lb)
  rw [List.length_map] at h
  have hg : ((G.set q .dead).new (.row ((la.map ic).flatten ++ (lb.map ic).flatten) true 1)).get G.next = .row ((la ++ lb).map ic).flatten true 1 := by
    rw [List.map_append, List.flatten_append]; exact Hp.get_new_same _ _ _ rfl
  refine ⟨_, append_elems (P := Try.prog) u23 u23 ts3 tb3 tz3 rfl (by decide) (by decide) hq h (ic_one lb) (ic_flen lb) (ic_flen la) (by omega), rfl, fun b hb hne => ?_, hg, Elems.row (Nat.lt_succ_self _) hg (ic_len _)⟩
  rw [Hp.get_new_ne _ _ _ (by simp only [Hp.next_set]; omega), Hp.get_set_ne _ _ _ _ hne]
theorem copy_ints {G : Hp} {a : Option Addr} {l : List Int} (he : Elems G a 1 (l.map ic)) (hl : l.length ≤ 1000000) :
    ∃ G', aappend Try.prog (G.new (.row [] true 1)) [23, 23] (.slice (some ⟨G.next, 0, none⟩) 0 0) (.slice a l.length l.length) = some (.slice (some ⟨G.next + 1, 0, none⟩) l.length l.length, G') ∧ G'.next = G.next + 1 + 1 ∧ Keeps G G' ∧ G'.get (G.next + 1) = .row (l.map ic).flatten true 1 := by
  obtain ⟨G', h1, h2, h3, h4, _⟩ := both_ints (G := G.new (.row [] true 1)) (q := G.next) (la := []) (lb := l) (Hp.get_new_same _ _ _ rfl) (Nat.lt_succ_self _) (he.grows (Grows.new _ _)) (by simp) hl
  simp only [List.length_nil, Nat.zero_add, Hp.next_new, List.nil_append] at h1 h2 h3 h4
  refine ⟨G', h1, h2, ⟨by omega, fun b hb => ?_⟩, h4⟩
  rw [h3 b (by omega) (by omega), Hp.get_new_ne _ _ _ (by omega)]
def rv (l : List Int) (k : Nat) : List Int := l.reverse.take k
theorem rv_len {l : List Int} {k : Nat} (hk : k ≤ l.length) : (rv l k).length = k := by rw [rv, List.length_take, List.length_reverse]; omega
theorem rv_succ {l : List Int} {k : Nat} (hk : k < l.length) : rv l (k + 1) = rv l k ++ [l[l.length - 1 - k]] := by
  rw [rv, List.take_succ_eq_append_getElem (by simpa using hk), List.getElem_reverse]; rfl
theorem rv_all (l : List Int) : rv l l.length = l.reverse := by rw [rv, List.take_of_length_le (by simp)]
def addD (d : Int) (l : List Int) : List Int := l.map (· + d)
theorem addD_len (d : Int) (l : List Int) : (addD d l).length = l.length := List.length_map _
theorem addD_app (d x : Int) (l : List Int) : addD d (l ++ [x]) = addD d l ++ [x + d] := by rw [addD, List.map_append]; rfl
theorem medV_ok {l : List Int} (h : l.length ≤ 1000) (h0 : l.length ≠ 0) : medV l = med l := by rw [medV, if_neg (by omega), if_neg h0]
theorem medE_ok {l : List Int} (h : l.length ≤ 1000) (h0 : l.length ≠ 0) : medE l = 0 := by rw [medE, if_neg (by omega), if_neg h0]
theorem set_ic {l : List Int} {k : Nat} (hk : k < l.length) (y : Int) : ((l.map ic).flatten).set k (.int .i64 y) = ((l.set k y).map ic).flatten := by
  rw [ic_flat, ic_flat, List.map_set]
theorem n5 : Try.f5.ntmps = 145 := rfl
theorem ret5 : Try.f5.results = #[.tmp 8] := rfl
theorem shifts_law (H : Hp) (a : Option Addr) (l : List Int) (d wh bb : Int) (he : Elems H a 1 (l.map ic)) (hwh : (Lit.int .u8 wh).wf = true) (hbb : (Lit.int .u16 bb).wf = true) :
    ACalls Try.prog 5 [.slice a l.length l.length, .int .i64 d, .int .u8 wh, .int .u16 bb] H (fun v H' => v = .bool true) := by
  have hw2 : 0 ≤ wh ∧ wh ≤ 255 := by
    simp [Lit.wf, IntKind.min, IntKind.max, IntKind.signed, IntKind.bits] at hwh; omega
  have hb2 : 0 ≤ bb ∧ bb ≤ 65535 := by
    simp [Lit.wf, IntKind.min, IntKind.max, IntKind.signed, IntKind.bits] at hbb; omega
  refine ACalls_enter Try.func5 (by kernel_rfl) rfl (by kernel_rfl) (by simp [n5]) fun hw hr => AWP_of_awp ?_
  simp -implicitDefEqProofs (maxSteps := 2000000) (disch := first | omega | (simp only [nx_new, nx_set, List.length_cons, List.length_nil, List.length_map, List.length_set, ne_eq, not_true_eq_false, not_false_eq_true, Nat.succ_ne_zero]; done) | (simp only [nx_new, nx_set, List.length_cons, List.length_nil, List.length_map, List.length_set, ne_eq, not_true_eq_false, not_false_eq_true, Nat.succ_ne_zero]; omega)) only [go_sem, reduceIte, reduceCtorEq, Nat.succ_ne_zero, not_false_eq_true, decide_true, decide_false, Nat.reduceAdd, Nat.reduceMul, Nat.reduceEqDiff, Nat.reduceLeDiff]
  refine (head_spec H).mono ?_
  rintro _ G0 ⟨rfl, k0⟩
  simp -implicitDefEqProofs (maxSteps := 2000000) (disch := first | omega | (simp only [nx_new, nx_set, List.length_cons, List.length_nil, List.length_map, List.length_set, ne_eq, not_true_eq_false, not_false_eq_true, Nat.succ_ne_zero]; done) | (simp only [nx_new, nx_set, List.length_cons, List.length_nil, List.length_map, List.length_set, ne_eq, not_true_eq_false, not_false_eq_true, Nat.succ_ne_zero]; omega)) only [go_sem, reduceIte, reduceCtorEq, Nat.succ_ne_zero, not_false_eq_true, decide_true, decide_false, Nat.reduceAdd, Nat.reduceMul, Nat.reduceEqDiff, Nat.reduceLeDiff]
  refine guardS_split (fun h1 => ?_) (fun h1 => ?_)
  · simp -implicitDefEqProofs (maxSteps := 2000000) (disch := first | omega | (simp only [nx_new, nx_set, List.length_cons, List.length_nil, List.length_map, List.length_set, ne_eq, not_true_eq_false, not_false_eq_true, Nat.succ_ne_zero]; done) | (simp only [nx_new, nx_set, List.length_cons, List.length_nil, List.length_map, List.length_set, ne_eq, not_true_eq_false, not_false_eq_true, Nat.succ_ne_zero]; omega)) only [go_sem, reduceIte, reduceCtorEq, Nat.succ_ne_zero, not_false_eq_true, decide_true, decide_false, Nat.reduceAdd, Nat.reduceMul, Nat.reduceEqDiff, Nat.reduceLeDiff, h1]
    exact ret_r (v := .bool true) (by rw [ares_tmp ret5]; rfl) rfl
  simp -implicitDefEqProofs (maxSteps := 2000000) (disch := first | omega | (simp only [nx_new, nx_set, List.length_cons, List.length_nil, List.length_map, List.length_set, ne_eq, not_true_eq_false, not_false_eq_true, Nat.succ_ne_zero]; done) | (simp only [nx_new, nx_set, List.length_cons, List.length_nil, List.length_map, List.length_set, ne_eq, not_true_eq_false, not_false_eq_true, Nat.succ_ne_zero]; omega)) only [go_sem, reduceIte, reduceCtorEq, Nat.succ_ne_zero, not_false_eq_true, decide_true, decide_false, Nat.reduceAdd, Nat.reduceMul, Nat.reduceEqDiff, Nat.reduceLeDiff, h1]
  refine guardS_split (fun h2 => ?_) (fun h2 => ?_)
  · simp -implicitDefEqProofs (maxSteps := 2000000) (disch := first | omega | (simp only [nx_new, nx_set, List.length_cons, List.length_nil, List.length_map, List.length_set, ne_eq, not_true_eq_false, not_false_eq_true, Nat.succ_ne_zero]; done) | (simp only [nx_new, nx_set, List.length_cons, List.length_nil, List.length_map, List.length_set, ne_eq, not_true_eq_false, not_false_eq_true, Nat.succ_ne_zero]; omega)) only [go_sem, reduceIte, reduceCtorEq, Nat.succ_ne_zero, not_false_eq_true, decide_true, decide_false, Nat.reduceAdd, Nat.reduceMul, Nat.reduceEqDiff, Nat.reduceLeDiff, h2]
    exact ret_r (v := .bool true) (by rw [ares_tmp ret5]; rfl) rfl
  simp -implicitDefEqProofs (maxSteps := 2000000) (disch := first | omega | (simp only [nx_new, nx_set, List.length_cons, List.length_nil, List.length_map, List.length_set, ne_eq, not_true_eq_false, not_false_eq_true, Nat.succ_ne_zero]; done) | (simp only [nx_new, nx_set, List.length_cons, List.length_nil, List.length_map, List.length_set, ne_eq, not_true_eq_false, not_false_eq_true, Nat.succ_ne_zero]; omega)) only [go_sem, reduceIte, reduceCtorEq, Nat.succ_ne_zero, not_false_eq_true, decide_true, decide_false, Nat.reduceAdd, Nat.reduceMul, Nat.reduceEqDiff, Nat.reduceLeDiff, h2]
  refine guardS_split (fun h3 => ?_) (fun h3 => ?_)
  · simp -implicitDefEqProofs (maxSteps := 2000000) (disch := first | omega | (simp only [nx_new, nx_set, List.length_cons, List.length_nil, List.length_map, List.length_set, ne_eq, not_true_eq_false, not_false_eq_true, Nat.succ_ne_zero]; done) | (simp only [nx_new, nx_set, List.length_cons, List.length_nil, List.length_map, List.length_set, ne_eq, not_true_eq_false, not_false_eq_true, Nat.succ_ne_zero]; omega)) only [go_sem, reduceIte, reduceCtorEq, Nat.succ_ne_zero, not_false_eq_true, decide_true, decide_false, Nat.reduceAdd, Nat.reduceMul, Nat.reduceEqDiff, Nat.reduceLeDiff, h3]
    exact ret_r (v := .bool true) (by rw [ares_tmp ret5]; rfl) rfl
  simp -implicitDefEqProofs (maxSteps := 2000000) (disch := first | omega | (simp only [nx_new, nx_set, List.length_cons, List.length_nil, List.length_map, List.length_set, ne_eq, not_true_eq_false, not_false_eq_true, Nat.succ_ne_zero]; done) | (simp only [nx_new, nx_set, List.length_cons, List.length_nil, List.length_map, List.length_set, ne_eq, not_true_eq_false, not_false_eq_true, Nat.succ_ne_zero]; omega)) only [go_sem, reduceIte, reduceCtorEq, Nat.succ_ne_zero, not_false_eq_true, decide_true, decide_false, Nat.reduceAdd, Nat.reduceMul, Nat.reduceEqDiff, Nat.reduceLeDiff, h3]
  refine condS_split (fun h4 => ?_) (fun h4 => ?_)
  · simp -implicitDefEqProofs (maxSteps := 2000000) (disch := first | omega | (simp only [nx_new, nx_set, List.length_cons, List.length_nil, List.length_map, List.length_set, ne_eq, not_true_eq_false, not_false_eq_true, Nat.succ_ne_zero]; done) | (simp only [nx_new, nx_set, List.length_cons, List.length_nil, List.length_map, List.length_set, ne_eq, not_true_eq_false, not_false_eq_true, Nat.succ_ne_zero]; omega)) only [go_sem, reduceIte, reduceCtorEq, Nat.succ_ne_zero, not_false_eq_true, decide_true, decide_false, Nat.reduceAdd, Nat.reduceMul, Nat.reduceEqDiff, Nat.reduceLeDiff, h4]
    exact ret_r (v := .bool true) (by rw [ares_tmp ret5]; rfl) rfl
  have hl : l.length ≤ 100 := by have := of_decide_eq_false h1; omega
  have h0 : l.length ≠ 0 := by simpa using h2
  have hd1 := of_decide_eq_false h3
  have hd2 := of_decide_eq_false h4
  have he0 := he.grows k0.grows
  simp -implicitDefEqProofs (maxSteps := 2000000) (disch := first | omega | (simp only [nx_new, nx_set, List.length_cons, List.length_nil, List.length_map, List.length_set, ne_eq, not_true_eq_false, not_false_eq_true, Nat.succ_ne_zero]; done) | (simp only [nx_new, nx_set, List.length_cons, List.length_nil, List.length_map, List.length_set, ne_eq, not_true_eq_false, not_false_eq_true, Nat.succ_ne_zero]; omega)) only [go_sem, reduceIte, reduceCtorEq, Nat.succ_ne_zero, not_false_eq_true, decide_true, decide_false, Nat.reduceAdd, Nat.reduceMul, Nat.reduceEqDiff, Nat.reduceLeDiff, h4]
  refine AWP_loop (σ := Nat × Hp × Option Addr × Option Addr) (fun s => [(12, .int .i64 ((l.length : Int) - 1 - s.1)), (11, .slice s.2.2.2 s.1 s.1), (10, .slice s.2.2.1 s.1 s.1), (9, .bool true), (0, .slice a l.length l.length), (1, .int .i64 d), (2, .int .u8 wh), (3, .int .u16 bb)])
    (fun s => s.2.1) (fun s => s.1 ≤ l.length ∧ Keeps G0 s.2.1 ∧ OwnSl G0.next s.2.1 s.2.2.1 1 ((rv l s.1).map ic).flatten ∧ OwnSl G0.next s.2.1 s.2.2.2 1 ((addD d (rv l s.1)).map ic).flatten ∧ (∀ q1 q2, s.2.2.1 = some q1 → s.2.2.2 = some q2 → q1.block ≠ q2.block) ∧ ∀ x, x ∈ rv l s.1 → -1000000000 ≤ x ∧ x ≤ 1000000000)
    (fun s => l.length - s.1) (0, G0, none, none) ⟨Nat.zero_le _, Keeps.refl _, OwnSl.none, OwnSl.none, (fun _ _ h => by cases h), (fun x hx => by simp [rv] at hx)⟩ (Weak.sub ?_) ?_
  · (simp -implicitDefEqProofs (disch := omega) only [Abs.Sub, get_cons_eq, get_cons_ne, and_self, Option.some.injEq, Value.int.injEq, Value.slice.injEq, true_and, and_true, Int.natCast_zero, Int.natCast_add, Int.natCast_one, List.length_nil]; try omega)
  · rintro ⟨k, G, c1, c2⟩ ⟨hk, hkeep, hm, ht, hne, hin⟩
    simp only at hk hkeep hm ht hne hin ⊢
    refine AWP_of_awp ?_
    have ml := rv_len hk
    have tl := addD_len d (rv l k)
    by_cases hlt : k < l.length
    · obtain ⟨b0, o, rfl, q0⟩ := elem1 (he0.grows hkeep.grows) (l.length - 1 - k) (by omega)
      have hidx : ((l.length : Int) - 1 - k).toNat = l.length - 1 - k := by omega
      have hnx := rv_succ hlt
      have hld : ∀ X, Keeps G0 X → load1 X ⟨b0, o + (l.length - 1 - k), none⟩ = some (.int .i64 (l[l.length - 1 - k]'(by omega))) := fun X hX => by
        obtain ⟨b', o', e', h'⟩ := elem1 (he0.grows hX.grows) (l.length - 1 - k) (by omega)
        cases e'; exact h'
      generalize l[l.length - 1 - k] = x at *
      simp -implicitDefEqProofs (maxSteps := 2000000) (disch := first | omega | (simp only [nx_new, nx_set, List.length_cons, List.length_nil, List.length_map, List.length_set, ne_eq, not_true_eq_false, not_false_eq_true, Nat.succ_ne_zero]; done) | (simp only [nx_new, nx_set, List.length_cons, List.length_nil, List.length_map, List.length_set, ne_eq, not_true_eq_false, not_false_eq_true, Nat.succ_ne_zero]; omega)) only [go_sem, reduceIte, reduceCtorEq, Nat.succ_ne_zero, not_false_eq_true, decide_true, decide_false, Nat.reduceAdd, Nat.reduceMul, Nat.reduceEqDiff, Nat.reduceLeDiff, q0, hidx]
      refine guardS_split (fun h5 => ?_) (fun h5 => ?_)
      · simp -implicitDefEqProofs (maxSteps := 2000000) (disch := first | omega | (simp only [nx_new, nx_set, List.length_cons, List.length_nil, List.length_map, List.length_set, ne_eq, not_true_eq_false, not_false_eq_true, Nat.succ_ne_zero]; done) | (simp only [nx_new, nx_set, List.length_cons, List.length_nil, List.length_map, List.length_set, ne_eq, not_true_eq_false, not_false_eq_true, Nat.succ_ne_zero]; omega)) only [go_sem, reduceIte, reduceCtorEq, Nat.succ_ne_zero, not_false_eq_true, decide_true, decide_false, Nat.reduceAdd, Nat.reduceMul, Nat.reduceEqDiff, Nat.reduceLeDiff, h5]
        exact ret_r (v := .bool true) (by rw [ares_tmp ret5]; rfl) rfl
      simp -implicitDefEqProofs (maxSteps := 2000000) (disch := first | omega | (simp only [nx_new, nx_set, List.length_cons, List.length_nil, List.length_map, List.length_set, ne_eq, not_true_eq_false, not_false_eq_true, Nat.succ_ne_zero]; done) | (simp only [nx_new, nx_set, List.length_cons, List.length_nil, List.length_map, List.length_set, ne_eq, not_true_eq_false, not_false_eq_true, Nat.succ_ne_zero]; omega)) only [go_sem, reduceIte, reduceCtorEq, Nat.succ_ne_zero, not_false_eq_true, decide_true, decide_false, Nat.reduceAdd, Nat.reduceMul, Nat.reduceEqDiff, Nat.reduceLeDiff, q0, hidx, h5]
      refine condS_split (fun h6 => ?_) (fun h6 => ?_)
      · simp -implicitDefEqProofs (maxSteps := 2000000) (disch := first | omega | (simp only [nx_new, nx_set, List.length_cons, List.length_nil, List.length_map, List.length_set, ne_eq, not_true_eq_false, not_false_eq_true, Nat.succ_ne_zero]; done) | (simp only [nx_new, nx_set, List.length_cons, List.length_nil, List.length_map, List.length_set, ne_eq, not_true_eq_false, not_false_eq_true, Nat.succ_ne_zero]; omega)) only [go_sem, reduceIte, reduceCtorEq, Nat.succ_ne_zero, not_false_eq_true, decide_true, decide_false, Nat.reduceAdd, Nat.reduceMul, Nat.reduceEqDiff, Nat.reduceLeDiff, h6]
        exact ret_r (v := .bool true) (by rw [ares_tmp ret5]; rfl) rfl
      have hx1 := of_decide_eq_false h5
      have hx2 := of_decide_eq_false h6
      simp -implicitDefEqProofs (maxSteps := 2000000) (disch := first | omega | (simp only [nx_new, nx_set, List.length_cons, List.length_nil, List.length_map, List.length_set, ne_eq, not_true_eq_false, not_false_eq_true, Nat.succ_ne_zero]; done) | (simp only [nx_new, nx_set, List.length_cons, List.length_nil, List.length_map, List.length_set, ne_eq, not_true_eq_false, not_false_eq_true, Nat.succ_ne_zero]; omega)) only [go_sem, reduceIte, reduceCtorEq, Nat.succ_ne_zero, not_false_eq_true, decide_true, decide_false, Nat.reduceAdd, Nat.reduceMul, Nat.reduceEqDiff, Nat.reduceLeDiff, q0, hidx, h6]
      obtain ⟨G', hap, hn, hg, hold⟩ := append_own (P := Try.prog) u23 u23 ts3 tb3 tz3 rfl (by decide) (by decide) (G := G.new (.row [.int .i64 x] true 1)) (lo := G0.next) (n := k) (c := k) (m := 1) (c' := 1) (r := G.next) (ro := 0) (xs := [.int .i64 x]) (hm.keeps (Keeps.new _ _))
        (by simp -implicitDefEqProofs (maxSteps := 2000000) (disch := first | omega | (simp only [nx_new, nx_set, List.length_cons, List.length_nil, List.length_map, List.length_set, ne_eq, not_true_eq_false, not_false_eq_true, Nat.succ_ne_zero]; done) | (simp only [nx_new, nx_set, List.length_cons, List.length_nil, List.length_map, List.length_set, ne_eq, not_true_eq_false, not_false_eq_true, Nat.succ_ne_zero]; omega)) only [go_sem, reduceIte, reduceCtorEq, Nat.succ_ne_zero, not_false_eq_true, decide_true, decide_false, Nat.reduceAdd, Nat.reduceMul, Nat.reduceEqDiff, Nat.reduceLeDiff]) rfl (by decide) (by rw [ic_flen, ml]) (by omega)
      rw [hap]
      have hnx1 : G'.next = G.next + 1 + 1 := hn
      have hg1 : G'.get (G.next + 1) = .row (((rv l k).map ic).flatten ++ [.int .i64 x]) true 1 := hg
      have hG1 := hkeep.next
      have keep' : Keeps G0 G' := ⟨by omega, fun b hb => by
        rw [hold b (by simp only [Hp.next_new]; omega) (hm.lo_ne hb), Hp.get_new_ne _ _ _ (by omega)]
        exact hkeep.get b hb⟩
      have ht' : OwnSl G0.next G' c2 1 ((addD d (rv l k)).map ic).flatten := OwnSl_other ht (by omega) fun q hq => by
        have := OwnSl_lt ht q hq
        rw [hold q.block (by simp only [Hp.next_new]; omega) (fun q1 h1 => (hne q1 q h1 hq).symm), Hp.get_new_ne _ _ _ (by omega)]
      have q2 := hld G' keep'
      have w1 : IntKind.i64.wrap (x + d) = x + d := wrap_i64 (by omega) (by omega)
      simp -implicitDefEqProofs (maxSteps := 2000000) (disch := first | omega | (simp only [nx_new, nx_set, List.length_cons, List.length_nil, List.length_map, List.length_set, ne_eq, not_true_eq_false, not_false_eq_true, Nat.succ_ne_zero]; done) | (simp only [nx_new, nx_set, List.length_cons, List.length_nil, List.length_map, List.length_set, ne_eq, not_true_eq_false, not_false_eq_true, Nat.succ_ne_zero]; omega)) only [go_sem, reduceIte, reduceCtorEq, Nat.succ_ne_zero, not_false_eq_true, decide_true, decide_false, Nat.reduceAdd, Nat.reduceMul, Nat.reduceEqDiff, Nat.reduceLeDiff, q2, hidx, w1]
      obtain ⟨G'', hap2, hn2, hg2, hold2⟩ := append_own (P := Try.prog) u23 u23 ts3 tb3 tz3 rfl (by decide) (by decide) (G := G'.new (.row [.int .i64 (x + d)] true 1)) (lo := G0.next) (n := k) (c := k) (m := 1) (c' := 1) (r := G'.next) (ro := 0) (xs := [.int .i64 (x + d)]) (ht'.keeps (Keeps.new _ _))
        (by simp -implicitDefEqProofs (maxSteps := 2000000) (disch := first | omega | (simp only [nx_new, nx_set, List.length_cons, List.length_nil, List.length_map, List.length_set, ne_eq, not_true_eq_false, not_false_eq_true, Nat.succ_ne_zero]; done) | (simp only [nx_new, nx_set, List.length_cons, List.length_nil, List.length_map, List.length_set, ne_eq, not_true_eq_false, not_false_eq_true, Nat.succ_ne_zero]; omega)) only [go_sem, reduceIte, reduceCtorEq, Nat.succ_ne_zero, not_false_eq_true, decide_true, decide_false, Nat.reduceAdd, Nat.reduceMul, Nat.reduceEqDiff, Nat.reduceLeDiff]) rfl (by decide) (by rw [ic_flen, tl, ml]) (by omega)
      rw [hap2]
      have hnx2 : G''.next = G'.next + 1 + 1 := hn2
      have hg3 : G''.get (G'.next + 1) = .row (((addD d (rv l k)).map ic).flatten ++ [.int .i64 (x + d)]) true 1 := hg2
      simp -implicitDefEqProofs (maxSteps := 2000000) (disch := first | omega | (simp only [nx_new, nx_set, List.length_cons, List.length_nil, List.length_map, List.length_set, ne_eq, not_true_eq_false, not_false_eq_true, Nat.succ_ne_zero]; done) | (simp only [nx_new, nx_set, List.length_cons, List.length_nil, List.length_map, List.length_set, ne_eq, not_true_eq_false, not_false_eq_true, Nat.succ_ne_zero]; omega)) only [go_sem, reduceIte, reduceCtorEq, Nat.succ_ne_zero, not_false_eq_true, decide_true, decide_false, Nat.reduceAdd, Nat.reduceMul, Nat.reduceEqDiff, Nat.reduceLeDiff]
      refine ⟨(k + 1, G'', some ⟨G.next + 1, 0, none⟩, some ⟨G'.next + 1, 0, none⟩), ⟨hlt, ⟨by (first | omega | (simp only; omega)), fun b hb => ?_⟩, .inr ⟨G.next + 1, rfl, by (first | omega | (simp only; omega)), by (first | omega | (simp only; omega)), ?_⟩, .inr ⟨G'.next + 1, rfl, by (first | omega | (simp only; omega)), by (first | omega | (simp only; omega)), ?_⟩, ?_, ?_⟩, by (first | omega | (simp only; omega)), Weak.sub ?_⟩
      · rw [hold2 b (by simp only [Hp.next_new]; omega) (ht'.lo_ne hb), Hp.get_new_ne _ _ _ (by omega)]
        exact keep'.get b hb
      · rw [hold2 (G.next + 1) (by simp only [Hp.next_new]; omega) (fun q hq => by have := OwnSl_lt ht q hq; omega), Hp.get_new_ne _ _ _ (by omega), hg1, hnx, List.map_append, List.flatten_append]
        rfl
      · rw [hg3, hnx, addD_app, List.map_append, List.flatten_append]
        rfl
      · intro q1 q2 h1 h2
        cases h1; cases h2; simp only; omega
      · intro y hy
        simp only at hy
        rw [hnx, List.mem_append] at hy
        rcases hy with hy | hy
        · exact hin y hy
        · rw [List.mem_singleton] at hy; subst hy; omega
      · have e2 : ((l.length : Int) - 1 - k) - 1 = (l.length : Int) - 1 - (k + 1 : Nat) := by omega
        simp only [← e2]
        simp -implicitDefEqProofs (disch := omega) only [Abs.Sub, get_cons_eq, get_cons_ne, and_self, Int.natCast_zero, Int.natCast_add, Int.natCast_one]
    · have hkl : k = l.length := by omega
      subst hkl
      rw [rv_all] at hm ht hin ml tl
      have hrl : l.reverse.length = l.length := List.length_reverse
      have hem := hm.elems (ic_len _) (by decide)
      have het := ht.elems (ic_len _) (by decide)
      have heG := he0.grows hkeep.grows
      simp -implicitDefEqProofs (maxSteps := 2000000) (disch := first | omega | (simp only [nx_new, nx_set, List.length_cons, List.length_nil, List.length_map, List.length_set, ne_eq, not_true_eq_false, not_false_eq_true, Nat.succ_ne_zero]; done) | (simp only [nx_new, nx_set, List.length_cons, List.length_nil, List.length_map, List.length_set, ne_eq, not_true_eq_false, not_false_eq_true, Nat.succ_ne_zero]; omega)) only [go_sem, reduceIte, reduceCtorEq, Nat.succ_ne_zero, not_false_eq_true, decide_true, decide_false, Nat.reduceAdd, Nat.reduceMul, Nat.reduceEqDiff, Nat.reduceLeDiff]
      obtain ⟨G1, hap, hn1, hk1, hg1⟩ := copy_ints heG (show l.length ≤ 1000000 by omega)
      rw [hap]
      have cv1 : aconv Try.prog 5 3 (.int .u8 wh) = some (.int .i64 wh) := by simp [aconv, u5, u3, wrap_i64 (show -9223372036854775808 ≤ wh by omega) (show wh ≤ 9223372036854775807 by omega)]
      have cv2 : aconv Try.prog 35 3 (.int .u16 bb) = some (.int .i64 bb) := by simp [aconv, u35, u3, wrap_i64 (show -9223372036854775808 ≤ bb by omega) (show bb ≤ 9223372036854775807 by omega)]
      obtain ⟨k, hkl, hk0⟩ : ∃ k : Nat, k < l.length ∧ wh.tmod l.length = (k : Int) := by
        have h1 := Int.tmod_nonneg (l.length : Int) hw2.1
        have h2 := Int.tmod_lt_of_pos wh (show (0 : Int) < l.length by omega)
        exact ⟨(wh.tmod l.length).toNat, by omega, by omega⟩
      have hz0 : (l.length : Int) ≠ 0 := by omega
      have hxk : -1000000000 ≤ l[k] ∧ l[k] ≤ 1000000000 := hin _ (List.mem_reverse.2 (List.getElem_mem hkl))
      have q3 : load1 G1 ⟨G.next + 1, k, none⟩ = some (.int .i64 l[k]) := by
        rw [l1_row _ _ _ _ _ hg1, ic_flat, List.getElem?_map, List.getElem?_eq_getElem hkl]; rfl
      have w2 : IntKind.i64.wrap (l[k] + bb) = l[k] + bb := wrap_i64 (by omega) (by omega)
      have hflen := ic_flen l
      simp -implicitDefEqProofs (maxSteps := 2000000) (disch := first | omega | (simp only [nx_new, nx_set, List.length_cons, List.length_nil, List.length_map, List.length_set, ne_eq, not_true_eq_false, not_false_eq_true, Nat.succ_ne_zero]; done) | (simp only [nx_new, nx_set, List.length_cons, List.length_nil, List.length_map, List.length_set, ne_eq, not_true_eq_false, not_false_eq_true, Nat.succ_ne_zero]; omega)) only [go_sem, reduceIte, reduceCtorEq, Nat.succ_ne_zero, not_false_eq_true, decide_true, decide_false, Nat.reduceAdd, Nat.reduceMul, Nat.reduceEqDiff, Nat.reduceLeDiff, cv1, cv2, hk0, q3, w2, hg1]
      rw [set_ic hkl]
      have kM : Keeps G (G1.set (G.next + 1) (.row ((l.set k (l[k] + bb)).map ic).flatten true 1)) := Keeps.setR hk1 (by omega)
      have hew : Elems (G1.set (G.next + 1) (.row ((l.set k (l[k] + bb)).map ic).flatten true 1)) (some ⟨G.next + 1, 0, none⟩) 1 ((l.set k (l[k] + bb)).map ic) := Elems.row (by rw [Hp.next_set]; omega) (Hp.get_set_same _ _ _ _ rfl) (ic_len _)
      generalize G1.set (G.next + 1) (.row ((l.set k (l[k] + bb)).map ic).flatten true 1) = M at *
      have hsl : (l.set k (l[k] + bb)).length = l.length := List.length_set
      have hmore := med_more hkl (y := l[k] + bb) (by omega)
      generalize l.set k (l[k] + bb) = m at *
      have hb1 : med l.reverse = med l := (med_perm l.reverse_perm)
      have hb2 : med (addD d l.reverse) = med l + d := by rw [addD, med_shift (by rw [hrl]; exact h0), hb1]
      have hmm := hin _ (List.mem_reverse.2 (med_mem h0))
      have m1 := median_spec M a l (by omega) (heG.grows kM.grows)
      rw [medV_ok (by omega) h0, medE_ok (by omega) h0] at m1
      refine m1.mono ?_
      rintro _ M1 ⟨rfl, k1⟩
      simp -implicitDefEqProofs (maxSteps := 2000000) (disch := first | omega | (simp only [nx_new, nx_set, List.length_cons, List.length_nil, List.length_map, List.length_set, ne_eq, not_true_eq_false, not_false_eq_true, Nat.succ_ne_zero]; done) | (simp only [nx_new, nx_set, List.length_cons, List.length_nil, List.length_map, List.length_set, ne_eq, not_true_eq_false, not_false_eq_true, Nat.succ_ne_zero]; omega)) only [go_sem, reduceIte, reduceCtorEq, Nat.succ_ne_zero, not_false_eq_true, decide_true, decide_false, Nat.reduceAdd, Nat.reduceMul, Nat.reduceEqDiff, Nat.reduceLeDiff]
      have m2 := median_spec M1 c1 l.reverse (by omega) ((hem.grows kM.grows).grows k1.grows)
      rw [medV_ok (by omega) (by omega), medE_ok (by omega) (by omega), hrl, hb1] at m2
      refine m2.mono ?_
      rintro _ M2 ⟨rfl, k2⟩
      simp -implicitDefEqProofs (maxSteps := 2000000) (disch := first | omega | (simp only [nx_new, nx_set, List.length_cons, List.length_nil, List.length_map, List.length_set, ne_eq, not_true_eq_false, not_false_eq_true, Nat.succ_ne_zero]; done) | (simp only [nx_new, nx_set, List.length_cons, List.length_nil, List.length_map, List.length_set, ne_eq, not_true_eq_false, not_false_eq_true, Nat.succ_ne_zero]; omega)) only [go_sem, reduceIte, reduceCtorEq, Nat.succ_ne_zero, not_false_eq_true, decide_true, decide_false, Nat.reduceAdd, Nat.reduceMul, Nat.reduceEqDiff, Nat.reduceLeDiff]
      have m3 := median_spec M2 c2 (addD d l.reverse) (by omega) (((het.grows kM.grows).grows k1.grows).grows k2.grows)
      rw [medV_ok (by omega) (by omega), medE_ok (by omega) (by omega), tl, hrl, hb2] at m3
      refine m3.mono ?_
      rintro _ M3 ⟨rfl, k3⟩
      simp -implicitDefEqProofs (maxSteps := 2000000) (disch := first | omega | (simp only [nx_new, nx_set, List.length_cons, List.length_nil, List.length_map, List.length_set, ne_eq, not_true_eq_false, not_false_eq_true, Nat.succ_ne_zero]; done) | (simp only [nx_new, nx_set, List.length_cons, List.length_nil, List.length_map, List.length_set, ne_eq, not_true_eq_false, not_false_eq_true, Nat.succ_ne_zero]; omega)) only [go_sem, reduceIte, reduceCtorEq, Nat.succ_ne_zero, not_false_eq_true, decide_true, decide_false, Nat.reduceAdd, Nat.reduceMul, Nat.reduceEqDiff, Nat.reduceLeDiff]
      have m4 := median_spec M3 (some ⟨G.next + 1, 0, none⟩) m (by omega) (((hew.grows k1.grows).grows k2.grows).grows k3.grows)
      rw [medV_ok (by omega) (by omega), medE_ok (by omega) (by omega), hsl] at m4
      refine m4.mono ?_
      rintro _ M4 ⟨rfl, k4⟩
      have w4 : IntKind.i64.wrap (med l + d) = med l + d := wrap_i64 (by omega) (by omega)
      simp -implicitDefEqProofs (maxSteps := 2000000) (disch := first | omega | (simp only [nx_new, nx_set, List.length_cons, List.length_nil, List.length_map, List.length_set, ne_eq, not_true_eq_false, not_false_eq_true, Nat.succ_ne_zero]; done) | (simp only [nx_new, nx_set, List.length_cons, List.length_nil, List.length_map, List.length_set, ne_eq, not_true_eq_false, not_false_eq_true, Nat.succ_ne_zero]; omega)) only [go_sem, reduceIte, reduceCtorEq, Nat.succ_ne_zero, not_false_eq_true, decide_true, decide_false, Nat.reduceAdd, Nat.reduceMul, Nat.reduceEqDiff, Nat.reduceLeDiff, w4]
      exact ret_r (v := .bool true) (by rw [ares_tmp ret5]; rfl) rfl
end Go.Proofs.Ytejpfdhlpcgfkaa
