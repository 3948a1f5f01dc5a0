/- StabSeparate. -/
import Derived.Test.YtjgdmjoafpbnaaaSq
set_option linter.unusedVariables false
set_option linter.unusedSimpArgs false
set_option linter.unusedSectionVars false
namespace Go.Proofs.Ytjgdmjoafpbnaaa
open Go.Abs Go.Sm
set_option maxHeartbeats 8000000
set_option maxRecDepth 100000
theorem n9 : Try.f9.ntmps = 165 := rfl
theorem ret9 : Try.f9.results = #[.tmp 4] := rfl
theorem take_at {l : List Sp} {k : Nat} (h : k < l.length) : (l.take (k + 1)).length = (l.take k).length + 1 := by
  rw [List.length_take, List.length_take]; omega
theorem separate_law (H : Hp) (a1 a2 : Option Addr) (la lb : List Sp) (he1 : Elems H a1 2 (la.map spc)) (he2 : Elems H a2 2 (lb.map spc)) : ACalls Try.prog 9 [.slice a1 la.length la.length, .slice a2 lb.length lb.length] H (fun v H' => v = .bool true) := by
  refine ACalls_enter Try.func9 (by kernel_rfl) rfl (by kernel_rfl) (by simp [n9]) fun hw hr => AWP_of_awp ?_
  simp -implicitDefEqProofs (maxSteps := 2000000) (disch := first | omega | (simp only [nx_new, nx_set, List.length_cons, List.length_nil, List.length_map, List.length_set, ne_eq, not_true_eq_false, not_false_eq_true, Nat.succ_ne_zero]; done) | (simp only [nx_new, nx_set, List.length_cons, List.length_nil, List.length_map, List.length_set, ne_eq, not_true_eq_false, not_false_eq_true, Nat.succ_ne_zero]; omega)) only [go_sem, reduceIte, reduceCtorEq, Nat.succ_ne_zero, not_false_eq_true, decide_true, decide_false, Nat.reduceAdd, Nat.reduceMul, Nat.reduceEqDiff, Nat.reduceLeDiff]
  refine (head_spec H).mono ?_
  rintro _ G0 ⟨rfl, k0⟩
  simp -implicitDefEqProofs (maxSteps := 2000000) (disch := first | omega | (simp only [nx_new, nx_set, List.length_cons, List.length_nil, List.length_map, List.length_set, ne_eq, not_true_eq_false, not_false_eq_true, Nat.succ_ne_zero]; done) | (simp only [nx_new, nx_set, List.length_cons, List.length_nil, List.length_map, List.length_set, ne_eq, not_true_eq_false, not_false_eq_true, Nat.succ_ne_zero]; omega)) only [go_sem, reduceIte, reduceCtorEq, Nat.succ_ne_zero, not_false_eq_true, decide_true, decide_false, Nat.reduceAdd, Nat.reduceMul, Nat.reduceEqDiff, Nat.reduceLeDiff]
  refine guardS_split (fun hc1 => ?_) (fun hc1 => ?_)
  · simp -implicitDefEqProofs (maxSteps := 2000000) (disch := first | omega | (simp only [nx_new, nx_set, List.length_cons, List.length_nil, List.length_map, List.length_set, ne_eq, not_true_eq_false, not_false_eq_true, Nat.succ_ne_zero]; done) | (simp only [nx_new, nx_set, List.length_cons, List.length_nil, List.length_map, List.length_set, ne_eq, not_true_eq_false, not_false_eq_true, Nat.succ_ne_zero]; omega)) only [go_sem, reduceIte, reduceCtorEq, Nat.succ_ne_zero, not_false_eq_true, decide_true, decide_false, Nat.reduceAdd, Nat.reduceMul, Nat.reduceEqDiff, Nat.reduceLeDiff, hc1]
    exact ret_r (v := .bool true) (by rw [ares_tmp ret9]; rfl) rfl
  simp -implicitDefEqProofs (maxSteps := 2000000) (disch := first | omega | (simp only [nx_new, nx_set, List.length_cons, List.length_nil, List.length_map, List.length_set, ne_eq, not_true_eq_false, not_false_eq_true, Nat.succ_ne_zero]; done) | (simp only [nx_new, nx_set, List.length_cons, List.length_nil, List.length_map, List.length_set, ne_eq, not_true_eq_false, not_false_eq_true, Nat.succ_ne_zero]; omega)) only [go_sem, reduceIte, reduceCtorEq, Nat.succ_ne_zero, not_false_eq_true, decide_true, decide_false, Nat.reduceAdd, Nat.reduceMul, Nat.reduceEqDiff, Nat.reduceLeDiff, hc1]
  refine condS_split (fun hc2 => ?_) (fun hc2 => ?_)
  · simp -implicitDefEqProofs (maxSteps := 2000000) (disch := first | omega | (simp only [nx_new, nx_set, List.length_cons, List.length_nil, List.length_map, List.length_set, ne_eq, not_true_eq_false, not_false_eq_true, Nat.succ_ne_zero]; done) | (simp only [nx_new, nx_set, List.length_cons, List.length_nil, List.length_map, List.length_set, ne_eq, not_true_eq_false, not_false_eq_true, Nat.succ_ne_zero]; omega)) only [go_sem, reduceIte, reduceCtorEq, Nat.succ_ne_zero, not_false_eq_true, decide_true, decide_false, Nat.reduceAdd, Nat.reduceMul, Nat.reduceEqDiff, Nat.reduceLeDiff, hc2]
    exact ret_r (v := .bool true) (by rw [ares_tmp ret9]; rfl) rfl
  · have hla : la.length ≤ 30 := by have := of_decide_eq_false hc1; omega
    have hlb : lb.length ≤ 30 := by have := of_decide_eq_false hc2; omega
    simp -implicitDefEqProofs (maxSteps := 2000000) (disch := first | omega | (simp only [nx_new, nx_set, List.length_cons, List.length_nil, List.length_map, List.length_set, ne_eq, not_true_eq_false, not_false_eq_true, Nat.succ_ne_zero]; done) | (simp only [nx_new, nx_set, List.length_cons, List.length_nil, List.length_map, List.length_set, ne_eq, not_true_eq_false, not_false_eq_true, Nat.succ_ne_zero]; omega)) only [go_sem, reduceIte, reduceCtorEq, Nat.succ_ne_zero, not_false_eq_true, decide_true, decide_false, Nat.reduceAdd, Nat.reduceMul, Nat.reduceEqDiff, Nat.reduceLeDiff, hc1, hc2]
    obtain ⟨Gb, hap0, hbn, kb, hbg⟩ := copy_spans (he1.grows k0.grows) (show la.length ≤ 1000 by omega)
    rw [hap0]
    have hea := (he1.grows k0.grows).grows kb.grows
    have heb := (he2.grows k0.grows).grows kb.grows
    simp -implicitDefEqProofs (maxSteps := 2000000) (disch := first | omega | (simp only [nx_new, nx_set, List.length_cons, List.length_nil, List.length_map, List.length_set, ne_eq, not_true_eq_false, not_false_eq_true, Nat.succ_ne_zero]; done) | (simp only [nx_new, nx_set, List.length_cons, List.length_nil, List.length_map, List.length_set, ne_eq, not_true_eq_false, not_false_eq_true, Nat.succ_ne_zero]; omega)) only [go_sem, reduceIte, reduceCtorEq, Nat.succ_ne_zero, not_false_eq_true, decide_true, decide_false, Nat.reduceAdd, Nat.reduceMul, Nat.reduceEqDiff, Nat.reduceLeDiff]
    refine AWP_loop (σ := Nat × Hp × Option Addr) (fun s => [(8, .int .i64 s.1), (7, .slice s.2.2 (lb.take s.1).length (lb.take s.1).length), (6, .slice (some ⟨G0.next + 1, 0, none⟩) la.length la.length), (5, .bool true), (0, .slice a1 la.length la.length), (1, .slice a2 lb.length lb.length)])
      (fun s => s.2.1) (fun s => s.1 ≤ la.length + lb.length ∧ Keeps Gb s.2.1 ∧ OwnSl Gb.next s.2.1 s.2.2 2 ((mv 300 (lb.take s.1)).map spc).flatten ∧ (∀ j (h : j < la.length), j < s.1 → -100 ≤ la[j].1 ∧ la[j].2 ≤ 100) ∧ (∀ j (h : j < lb.length), j < s.1 → (-100 ≤ lb[j].1 ∧ lb[j].2 ≤ 100) ∧ lb[j].1 ≤ lb[j].2))
      (fun s => la.length + lb.length - s.1) (0, Gb, none) ⟨Nat.zero_le _, Keeps.refl _, OwnSl.none, fun _ _ h => absurd h (Nat.not_lt_zero _), fun _ _ h => absurd h (Nat.not_lt_zero _)⟩ (Weak.sub ?_) ?_
    · simp only [List.take_zero, List.length_nil]
      (simp -implicitDefEqProofs (disch := omega) only [Abs.Sub, get_cons_eq, get_cons_ne, and_self, Option.some.injEq, Value.int.injEq, Value.slice.injEq, true_and, and_true, Int.natCast_zero, Int.natCast_add, Int.natCast_one, List.length_nil]; try omega)
    · rintro ⟨k, G, c⟩ ⟨hk, hkeep, hown, hna, hnb⟩
      simp only at hk hkeep hown hna hnb ⊢
      refine AWP_of_awp ?_
      by_cases h2 : k < lb.length
      · have tl : (lb.take k).length = k := by rw [List.length_take]; omega
        have tl2 : (lb.take (k + 1)).length = k + 1 := by rw [List.length_take]; omega
        obtain ⟨b2, o2, rfl, hb2, hl2⟩ := (heb.grows hkeep.grows) k (by rw [List.length_map]; omega)
        simp only [List.getElem_map] at hl2
        have hnx := mv_succ (d := 300) h2
        have hnb2 : (-100 ≤ lb[k].1 ∧ lb[k].2 ≤ 100) ∧ lb[k].1 ≤ lb[k].2 → ∀ j (h : j < lb.length), j < k + 1 → (-100 ≤ lb[j].1 ∧ lb[j].2 ≤ 100) ∧ lb[j].1 ≤ lb[j].2 := fun hh j h hj => by
          rcases Nat.lt_succ_iff_lt_or_eq.1 hj with h' | rfl
          · exact hnb j h h'
          · exact hh
        have q2 : load1 G ⟨b2, o2 + k * 2, none⟩ = some (.int .i64 lb[k].1) := (load1_part hl2 (i := 0) (by decide)).trans rfl
        have q3 : load1 G ⟨b2, o2 + k * 2 + 1, none⟩ = some (.int .i64 lb[k].2) := (load1_part hl2 (i := 1) (by decide)).trans rfl
        have key : ∀ hh : (-100 ≤ lb[k].1 ∧ lb[k].2 ≤ 100) ∧ lb[k].1 ≤ lb[k].2, (IntKind.i64.wrap (lb[k].1 + 300) = lb[k].1 + 300 ∧ IntKind.i64.wrap (lb[k].2 + 300) = lb[k].2 + 300) ∧
            ∃ G', aappend Try.prog (G.new (.row [.int .i64 (lb[k].1 + 300), .int .i64 (lb[k].2 + 300)] true 2)) [22, 22] (.slice c k k) (.slice (some ⟨G.next, 0, none⟩) 1 1) = some (.slice (some ⟨G.next + 1, 0, none⟩) (k + 1) (k + 1), G') ∧ Keeps Gb G' ∧ OwnSl Gb.next G' (some ⟨G.next + 1, 0, none⟩) 2 ((mv 300 (lb.take (k + 1))).map spc).flatten := fun hh => by
          obtain ⟨G', hap, hn, hg, hold⟩ := append_own (P := Try.prog) u22 u22 ts34 tb34 tz34 rfl (by decide) (by decide) (G := G.new (.row [.int .i64 (lb[k].1 + 300), .int .i64 (lb[k].2 + 300)] true 2)) (lo := Gb.next) (n := k) (c := k) (m := 1) (c' := 1) (r := G.next) (ro := 0) (xs := [.int .i64 (lb[k].1 + 300), .int .i64 (lb[k].2 + 300)]) (hown.keeps (Keeps.new _ _))
            (by simp -implicitDefEqProofs (maxSteps := 2000000) (disch := first | omega | (simp only [nx_new, nx_set, List.length_cons, List.length_nil, List.length_map, List.length_set, ne_eq, not_true_eq_false, not_false_eq_true, Nat.succ_ne_zero]; done) | (simp only [nx_new, nx_set, List.length_cons, List.length_nil, List.length_map, List.length_set, ne_eq, not_true_eq_false, not_false_eq_true, Nat.succ_ne_zero]; omega)) only [go_sem, reduceIte, reduceCtorEq, Nat.succ_ne_zero, not_false_eq_true, decide_true, decide_false, Nat.reduceAdd, Nat.reduceMul, Nat.reduceEqDiff, Nat.reduceLeDiff]) rfl (by decide) (by rw [spc_flat, mv_len, tl]) (by omega)
          have hnx1 : G'.next = G.next + 1 + 1 := hn
          have hg1 : G'.get (G.next + 1) = .row (((mv 300 (lb.take k)).map spc).flatten ++ [.int .i64 (lb[k].1 + 300), .int .i64 (lb[k].2 + 300)]) true 2 := hg
          have hG1 := hkeep.next
          refine ⟨⟨wrap_i64 (by omega) (by omega), wrap_i64 (by omega) (by omega)⟩, G', hap, ⟨by omega, fun b hb => ?_⟩, .inr ⟨G.next + 1, rfl, by omega, by omega, ?_⟩⟩
          · rw [hold b (by simp only [Hp.next_new]; omega) (hown.lo_ne hb), Hp.get_new_ne _ _ _ (by omega)]
            exact hkeep.get b hb
          · rw [hg1, hnx]
            simp [spc]
        generalize lb[k] = t at *
        obtain ⟨g, w⟩ := t
        simp only at q2 q3 key hnb2
        rw [tl]
        have hlb1 : (-100 ≤ g ∧ w ≤ 100) ∧ g ≤ w → IntKind.i64.wrap (g + 300) = g + 300 ∧ IntKind.i64.wrap (w + 300) = w + 300 := fun hh => (key hh).1
        by_cases h1 : k < la.length
        · obtain ⟨b1, o1, rfl, hb1, hl1⟩ := (hea.grows hkeep.grows) k (by rw [List.length_map]; omega)
          simp only [List.getElem_map] at hl1
          have hna2 : (-100 ≤ la[k].1 ∧ la[k].2 ≤ 100) → ∀ j (h : j < la.length), j < k + 1 → -100 ≤ la[j].1 ∧ la[j].2 ≤ 100 := fun hh j h hj => by
            rcases Nat.lt_succ_iff_lt_or_eq.1 hj with h' | rfl
            · exact hna j h h'
            · exact hh
          have q0 : load1 G ⟨b1, o1 + k * 2, none⟩ = some (.int .i64 la[k].1) := (load1_part hl1 (i := 0) (by decide)).trans rfl
          have q1 : load1 G ⟨b1, o1 + k * 2 + 1, none⟩ = some (.int .i64 la[k].2) := (load1_part hl1 (i := 1) (by decide)).trans rfl
          generalize la[k] = s at *
          obtain ⟨f, u⟩ := s
          simp only at q0 q1 hna2
          simp -implicitDefEqProofs (maxSteps := 2000000) (disch := first | omega | (simp only [nx_new, nx_set, List.length_cons, List.length_nil, List.length_map, List.length_set, ne_eq, not_true_eq_false, not_false_eq_true, Nat.succ_ne_zero]; done) | (simp only [nx_new, nx_set, List.length_cons, List.length_nil, List.length_map, List.length_set, ne_eq, not_true_eq_false, not_false_eq_true, Nat.succ_ne_zero]; omega)) only [go_sem, reduceIte, reduceCtorEq, Nat.succ_ne_zero, not_false_eq_true, decide_true, decide_false, Nat.reduceAdd, Nat.reduceMul, Nat.reduceEqDiff, Nat.reduceLeDiff]
          refine AWP_draw_fast mo (by kernel_rfl) ?_
          simp -implicitDefEqProofs (maxSteps := 2000000) (disch := first | omega | (simp only [nx_new, nx_set, List.length_cons, List.length_nil, List.length_map, List.length_set, ne_eq, not_true_eq_false, not_false_eq_true, Nat.succ_ne_zero]; done) | (simp only [nx_new, nx_set, List.length_cons, List.length_nil, List.length_map, List.length_set, ne_eq, not_true_eq_false, not_false_eq_true, Nat.succ_ne_zero]; omega)) only [go_sem, reduceIte, reduceCtorEq, Nat.succ_ne_zero, not_false_eq_true, decide_true, decide_false, Nat.reduceAdd, Nat.reduceMul, Nat.reduceEqDiff, Nat.reduceLeDiff, q0, q1, q2, q3]
          refine guardS_split (fun d1 => ?_) (fun d1 => ?_)
          · simp -implicitDefEqProofs (maxSteps := 2000000) (disch := first | omega | (simp only [nx_new, nx_set, List.length_cons, List.length_nil, List.length_map, List.length_set, ne_eq, not_true_eq_false, not_false_eq_true, Nat.succ_ne_zero]; done) | (simp only [nx_new, nx_set, List.length_cons, List.length_nil, List.length_map, List.length_set, ne_eq, not_true_eq_false, not_false_eq_true, Nat.succ_ne_zero]; omega)) only [go_sem, reduceIte, reduceCtorEq, Nat.succ_ne_zero, not_false_eq_true, decide_true, decide_false, Nat.reduceAdd, Nat.reduceMul, Nat.reduceEqDiff, Nat.reduceLeDiff, d1, q0, q1, q2, q3]
            exact ret_r (v := .bool true) (by rw [ares_tmp ret9]; rfl) rfl
          simp -implicitDefEqProofs (maxSteps := 2000000) (disch := first | omega | (simp only [nx_new, nx_set, List.length_cons, List.length_nil, List.length_map, List.length_set, ne_eq, not_true_eq_false, not_false_eq_true, Nat.succ_ne_zero]; done) | (simp only [nx_new, nx_set, List.length_cons, List.length_nil, List.length_map, List.length_set, ne_eq, not_true_eq_false, not_false_eq_true, Nat.succ_ne_zero]; omega)) only [go_sem, reduceIte, reduceCtorEq, Nat.succ_ne_zero, not_false_eq_true, decide_true, decide_false, Nat.reduceAdd, Nat.reduceMul, Nat.reduceEqDiff, Nat.reduceLeDiff, d1, q0, q1, q2, q3]
          refine guardS_split (fun d2 => ?_) (fun d2 => ?_)
          · simp -implicitDefEqProofs (maxSteps := 2000000) (disch := first | omega | (simp only [nx_new, nx_set, List.length_cons, List.length_nil, List.length_map, List.length_set, ne_eq, not_true_eq_false, not_false_eq_true, Nat.succ_ne_zero]; done) | (simp only [nx_new, nx_set, List.length_cons, List.length_nil, List.length_map, List.length_set, ne_eq, not_true_eq_false, not_false_eq_true, Nat.succ_ne_zero]; omega)) only [go_sem, reduceIte, reduceCtorEq, Nat.succ_ne_zero, not_false_eq_true, decide_true, decide_false, Nat.reduceAdd, Nat.reduceMul, Nat.reduceEqDiff, Nat.reduceLeDiff, d2, q0, q1, q2, q3]
            exact ret_r (v := .bool true) (by rw [ares_tmp ret9]; rfl) rfl
          simp -implicitDefEqProofs (maxSteps := 2000000) (disch := first | omega | (simp only [nx_new, nx_set, List.length_cons, List.length_nil, List.length_map, List.length_set, ne_eq, not_true_eq_false, not_false_eq_true, Nat.succ_ne_zero]; done) | (simp only [nx_new, nx_set, List.length_cons, List.length_nil, List.length_map, List.length_set, ne_eq, not_true_eq_false, not_false_eq_true, Nat.succ_ne_zero]; omega)) only [go_sem, reduceIte, reduceCtorEq, Nat.succ_ne_zero, not_false_eq_true, decide_true, decide_false, Nat.reduceAdd, Nat.reduceMul, Nat.reduceEqDiff, Nat.reduceLeDiff, d2, q0, q1, q2, q3]
          refine guardS_split (fun d3 => ?_) (fun d3 => ?_)
          · simp -implicitDefEqProofs (maxSteps := 2000000) (disch := first | omega | (simp only [nx_new, nx_set, List.length_cons, List.length_nil, List.length_map, List.length_set, ne_eq, not_true_eq_false, not_false_eq_true, Nat.succ_ne_zero]; done) | (simp only [nx_new, nx_set, List.length_cons, List.length_nil, List.length_map, List.length_set, ne_eq, not_true_eq_false, not_false_eq_true, Nat.succ_ne_zero]; omega)) only [go_sem, reduceIte, reduceCtorEq, Nat.succ_ne_zero, not_false_eq_true, decide_true, decide_false, Nat.reduceAdd, Nat.reduceMul, Nat.reduceEqDiff, Nat.reduceLeDiff, d3, q0, q1, q2, q3]
            exact ret_r (v := .bool true) (by rw [ares_tmp ret9]; rfl) rfl
          simp -implicitDefEqProofs (maxSteps := 2000000) (disch := first | omega | (simp only [nx_new, nx_set, List.length_cons, List.length_nil, List.length_map, List.length_set, ne_eq, not_true_eq_false, not_false_eq_true, Nat.succ_ne_zero]; done) | (simp only [nx_new, nx_set, List.length_cons, List.length_nil, List.length_map, List.length_set, ne_eq, not_true_eq_false, not_false_eq_true, Nat.succ_ne_zero]; omega)) only [go_sem, reduceIte, reduceCtorEq, Nat.succ_ne_zero, not_false_eq_true, decide_true, decide_false, Nat.reduceAdd, Nat.reduceMul, Nat.reduceEqDiff, Nat.reduceLeDiff, d3, q0, q1, q2, q3]
          refine guardS_split (fun d4 => ?_) (fun d4 => ?_)
          · simp -implicitDefEqProofs (maxSteps := 2000000) (disch := first | omega | (simp only [nx_new, nx_set, List.length_cons, List.length_nil, List.length_map, List.length_set, ne_eq, not_true_eq_false, not_false_eq_true, Nat.succ_ne_zero]; done) | (simp only [nx_new, nx_set, List.length_cons, List.length_nil, List.length_map, List.length_set, ne_eq, not_true_eq_false, not_false_eq_true, Nat.succ_ne_zero]; omega)) only [go_sem, reduceIte, reduceCtorEq, Nat.succ_ne_zero, not_false_eq_true, decide_true, decide_false, Nat.reduceAdd, Nat.reduceMul, Nat.reduceEqDiff, Nat.reduceLeDiff, d4, q0, q1, q2, q3]
            exact ret_r (v := .bool true) (by rw [ares_tmp ret9]; rfl) rfl
          simp -implicitDefEqProofs (maxSteps := 2000000) (disch := first | omega | (simp only [nx_new, nx_set, List.length_cons, List.length_nil, List.length_map, List.length_set, ne_eq, not_true_eq_false, not_false_eq_true, Nat.succ_ne_zero]; done) | (simp only [nx_new, nx_set, List.length_cons, List.length_nil, List.length_map, List.length_set, ne_eq, not_true_eq_false, not_false_eq_true, Nat.succ_ne_zero]; omega)) only [go_sem, reduceIte, reduceCtorEq, Nat.succ_ne_zero, not_false_eq_true, decide_true, decide_false, Nat.reduceAdd, Nat.reduceMul, Nat.reduceEqDiff, Nat.reduceLeDiff, d4, q0, q1, q2, q3]
          refine condS_split (fun d5 => ?_) (fun d5 => ?_)
          · simp -implicitDefEqProofs (maxSteps := 2000000) (disch := first | omega | (simp only [nx_new, nx_set, List.length_cons, List.length_nil, List.length_map, List.length_set, ne_eq, not_true_eq_false, not_false_eq_true, Nat.succ_ne_zero]; done) | (simp only [nx_new, nx_set, List.length_cons, List.length_nil, List.length_map, List.length_set, ne_eq, not_true_eq_false, not_false_eq_true, Nat.succ_ne_zero]; omega)) only [go_sem, reduceIte, reduceCtorEq, Nat.succ_ne_zero, not_false_eq_true, decide_true, decide_false, Nat.reduceAdd, Nat.reduceMul, Nat.reduceEqDiff, Nat.reduceLeDiff, d5, q0, q1, q2, q3]
            exact ret_r (v := .bool true) (by rw [ares_tmp ret9]; rfl) rfl
          have e1 := of_decide_eq_false d1
          have e2 := of_decide_eq_false d2
          have e3 := of_decide_eq_false d3
          have e4 := of_decide_eq_false d4
          have e5 := of_decide_eq_false d5
          obtain ⟨⟨w1, w2⟩, G', hap, hk', ho'⟩ := key ⟨⟨by omega, by omega⟩, by omega⟩
          simp -implicitDefEqProofs (maxSteps := 2000000) (disch := first | omega | (simp only [nx_new, nx_set, List.length_cons, List.length_nil, List.length_map, List.length_set, ne_eq, not_true_eq_false, not_false_eq_true, Nat.succ_ne_zero]; done) | (simp only [nx_new, nx_set, List.length_cons, List.length_nil, List.length_map, List.length_set, ne_eq, not_true_eq_false, not_false_eq_true, Nat.succ_ne_zero]; omega)) only [go_sem, reduceIte, reduceCtorEq, Nat.succ_ne_zero, not_false_eq_true, decide_true, decide_false, Nat.reduceAdd, Nat.reduceMul, Nat.reduceEqDiff, Nat.reduceLeDiff, d5]
          refine AWP_draw_fast mo (by kernel_rfl) ?_
          simp -implicitDefEqProofs (maxSteps := 2000000) (disch := first | omega | (simp only [nx_new, nx_set, List.length_cons, List.length_nil, List.length_map, List.length_set, ne_eq, not_true_eq_false, not_false_eq_true, Nat.succ_ne_zero]; done) | (simp only [nx_new, nx_set, List.length_cons, List.length_nil, List.length_map, List.length_set, ne_eq, not_true_eq_false, not_false_eq_true, Nat.succ_ne_zero]; omega)) only [go_sem, reduceIte, reduceCtorEq, Nat.succ_ne_zero, not_false_eq_true, decide_true, decide_false, Nat.reduceAdd, Nat.reduceMul, Nat.reduceEqDiff, Nat.reduceLeDiff, q2, q3, w1, w2]
          rw [hap]
          simp -implicitDefEqProofs (maxSteps := 2000000) (disch := first | omega | (simp only [nx_new, nx_set, List.length_cons, List.length_nil, List.length_map, List.length_set, ne_eq, not_true_eq_false, not_false_eq_true, Nat.succ_ne_zero]; done) | (simp only [nx_new, nx_set, List.length_cons, List.length_nil, List.length_map, List.length_set, ne_eq, not_true_eq_false, not_false_eq_true, Nat.succ_ne_zero]; omega)) only [go_sem, reduceIte, reduceCtorEq, Nat.succ_ne_zero, not_false_eq_true, decide_true, decide_false, Nat.reduceAdd, Nat.reduceMul, Nat.reduceEqDiff, Nat.reduceLeDiff]
          refine ⟨(k + 1, G', some ⟨G.next + 1, 0, none⟩), ⟨by (first | omega | (simp only; omega)), hk', ho', hna2 ⟨by omega, by omega⟩, hnb2 ⟨⟨by omega, by omega⟩, by omega⟩⟩, by (first | omega | (simp only; omega)), Weak.sub ?_⟩
          simp only [tl2]
          simp -implicitDefEqProofs (disch := omega) only [Abs.Sub, get_cons_eq, get_cons_ne, and_self, Int.natCast_zero, Int.natCast_add, Int.natCast_one]
        · simp -implicitDefEqProofs (maxSteps := 2000000) (disch := first | omega | (simp only [nx_new, nx_set, List.length_cons, List.length_nil, List.length_map, List.length_set, ne_eq, not_true_eq_false, not_false_eq_true, Nat.succ_ne_zero]; done) | (simp only [nx_new, nx_set, List.length_cons, List.length_nil, List.length_map, List.length_set, ne_eq, not_true_eq_false, not_false_eq_true, Nat.succ_ne_zero]; omega)) only [go_sem, reduceIte, reduceCtorEq, Nat.succ_ne_zero, not_false_eq_true, decide_true, decide_false, Nat.reduceAdd, Nat.reduceMul, Nat.reduceEqDiff, Nat.reduceLeDiff]
          refine AWP_draw_fast mo (by kernel_rfl) ?_
          simp -implicitDefEqProofs (maxSteps := 2000000) (disch := first | omega | (simp only [nx_new, nx_set, List.length_cons, List.length_nil, List.length_map, List.length_set, ne_eq, not_true_eq_false, not_false_eq_true, Nat.succ_ne_zero]; done) | (simp only [nx_new, nx_set, List.length_cons, List.length_nil, List.length_map, List.length_set, ne_eq, not_true_eq_false, not_false_eq_true, Nat.succ_ne_zero]; omega)) only [go_sem, reduceIte, reduceCtorEq, Nat.succ_ne_zero, not_false_eq_true, decide_true, decide_false, Nat.reduceAdd, Nat.reduceMul, Nat.reduceEqDiff, Nat.reduceLeDiff, q2, q3]
          refine guardS_split (fun d3 => ?_) (fun d3 => ?_)
          · simp -implicitDefEqProofs (maxSteps := 2000000) (disch := first | omega | (simp only [nx_new, nx_set, List.length_cons, List.length_nil, List.length_map, List.length_set, ne_eq, not_true_eq_false, not_false_eq_true, Nat.succ_ne_zero]; done) | (simp only [nx_new, nx_set, List.length_cons, List.length_nil, List.length_map, List.length_set, ne_eq, not_true_eq_false, not_false_eq_true, Nat.succ_ne_zero]; omega)) only [go_sem, reduceIte, reduceCtorEq, Nat.succ_ne_zero, not_false_eq_true, decide_true, decide_false, Nat.reduceAdd, Nat.reduceMul, Nat.reduceEqDiff, Nat.reduceLeDiff, d3, q2, q3]
            exact ret_r (v := .bool true) (by rw [ares_tmp ret9]; rfl) rfl
          simp -implicitDefEqProofs (maxSteps := 2000000) (disch := first | omega | (simp only [nx_new, nx_set, List.length_cons, List.length_nil, List.length_map, List.length_set, ne_eq, not_true_eq_false, not_false_eq_true, Nat.succ_ne_zero]; done) | (simp only [nx_new, nx_set, List.length_cons, List.length_nil, List.length_map, List.length_set, ne_eq, not_true_eq_false, not_false_eq_true, Nat.succ_ne_zero]; omega)) only [go_sem, reduceIte, reduceCtorEq, Nat.succ_ne_zero, not_false_eq_true, decide_true, decide_false, Nat.reduceAdd, Nat.reduceMul, Nat.reduceEqDiff, Nat.reduceLeDiff, d3, q2, q3]
          refine guardS_split (fun d4 => ?_) (fun d4 => ?_)
          · simp -implicitDefEqProofs (maxSteps := 2000000) (disch := first | omega | (simp only [nx_new, nx_set, List.length_cons, List.length_nil, List.length_map, List.length_set, ne_eq, not_true_eq_false, not_false_eq_true, Nat.succ_ne_zero]; done) | (simp only [nx_new, nx_set, List.length_cons, List.length_nil, List.length_map, List.length_set, ne_eq, not_true_eq_false, not_false_eq_true, Nat.succ_ne_zero]; omega)) only [go_sem, reduceIte, reduceCtorEq, Nat.succ_ne_zero, not_false_eq_true, decide_true, decide_false, Nat.reduceAdd, Nat.reduceMul, Nat.reduceEqDiff, Nat.reduceLeDiff, d4, q2, q3]
            exact ret_r (v := .bool true) (by rw [ares_tmp ret9]; rfl) rfl
          simp -implicitDefEqProofs (maxSteps := 2000000) (disch := first | omega | (simp only [nx_new, nx_set, List.length_cons, List.length_nil, List.length_map, List.length_set, ne_eq, not_true_eq_false, not_false_eq_true, Nat.succ_ne_zero]; done) | (simp only [nx_new, nx_set, List.length_cons, List.length_nil, List.length_map, List.length_set, ne_eq, not_true_eq_false, not_false_eq_true, Nat.succ_ne_zero]; omega)) only [go_sem, reduceIte, reduceCtorEq, Nat.succ_ne_zero, not_false_eq_true, decide_true, decide_false, Nat.reduceAdd, Nat.reduceMul, Nat.reduceEqDiff, Nat.reduceLeDiff, d4, q2, q3]
          refine condS_split (fun d5 => ?_) (fun d5 => ?_)
          · simp -implicitDefEqProofs (maxSteps := 2000000) (disch := first | omega | (simp only [nx_new, nx_set, List.length_cons, List.length_nil, List.length_map, List.length_set, ne_eq, not_true_eq_false, not_false_eq_true, Nat.succ_ne_zero]; done) | (simp only [nx_new, nx_set, List.length_cons, List.length_nil, List.length_map, List.length_set, ne_eq, not_true_eq_false, not_false_eq_true, Nat.succ_ne_zero]; omega)) only [go_sem, reduceIte, reduceCtorEq, Nat.succ_ne_zero, not_false_eq_true, decide_true, decide_false, Nat.reduceAdd, Nat.reduceMul, Nat.reduceEqDiff, Nat.reduceLeDiff, d5, q2, q3]
            exact ret_r (v := .bool true) (by rw [ares_tmp ret9]; rfl) rfl
          have e3 := of_decide_eq_false d3
          have e4 := of_decide_eq_false d4
          have e5 := of_decide_eq_false d5
          obtain ⟨⟨w1, w2⟩, G', hap, hk', ho'⟩ := key ⟨⟨by omega, by omega⟩, by omega⟩
          simp -implicitDefEqProofs (maxSteps := 2000000) (disch := first | omega | (simp only [nx_new, nx_set, List.length_cons, List.length_nil, List.length_map, List.length_set, ne_eq, not_true_eq_false, not_false_eq_true, Nat.succ_ne_zero]; done) | (simp only [nx_new, nx_set, List.length_cons, List.length_nil, List.length_map, List.length_set, ne_eq, not_true_eq_false, not_false_eq_true, Nat.succ_ne_zero]; omega)) only [go_sem, reduceIte, reduceCtorEq, Nat.succ_ne_zero, not_false_eq_true, decide_true, decide_false, Nat.reduceAdd, Nat.reduceMul, Nat.reduceEqDiff, Nat.reduceLeDiff, d5]
          refine AWP_draw_fast mo (by kernel_rfl) ?_
          simp -implicitDefEqProofs (maxSteps := 2000000) (disch := first | omega | (simp only [nx_new, nx_set, List.length_cons, List.length_nil, List.length_map, List.length_set, ne_eq, not_true_eq_false, not_false_eq_true, Nat.succ_ne_zero]; done) | (simp only [nx_new, nx_set, List.length_cons, List.length_nil, List.length_map, List.length_set, ne_eq, not_true_eq_false, not_false_eq_true, Nat.succ_ne_zero]; omega)) only [go_sem, reduceIte, reduceCtorEq, Nat.succ_ne_zero, not_false_eq_true, decide_true, decide_false, Nat.reduceAdd, Nat.reduceMul, Nat.reduceEqDiff, Nat.reduceLeDiff, q2, q3, w1, w2]
          rw [hap]
          simp -implicitDefEqProofs (maxSteps := 2000000) (disch := first | omega | (simp only [nx_new, nx_set, List.length_cons, List.length_nil, List.length_map, List.length_set, ne_eq, not_true_eq_false, not_false_eq_true, Nat.succ_ne_zero]; done) | (simp only [nx_new, nx_set, List.length_cons, List.length_nil, List.length_map, List.length_set, ne_eq, not_true_eq_false, not_false_eq_true, Nat.succ_ne_zero]; omega)) only [go_sem, reduceIte, reduceCtorEq, Nat.succ_ne_zero, not_false_eq_true, decide_true, decide_false, Nat.reduceAdd, Nat.reduceMul, Nat.reduceEqDiff, Nat.reduceLeDiff]
          refine ⟨(k + 1, G', some ⟨G.next + 1, 0, none⟩), ⟨by (first | omega | (simp only; omega)), hk', ho', fun j h _ => hna j h (by omega), hnb2 ⟨⟨by omega, by omega⟩, by omega⟩⟩, by (first | omega | (simp only; omega)), Weak.sub ?_⟩
          simp only [tl2]
          simp -implicitDefEqProofs (disch := omega) only [Abs.Sub, get_cons_eq, get_cons_ne, and_self, Int.natCast_zero, Int.natCast_add, Int.natCast_one]
      · have tk : lb.take k = lb := List.take_of_length_le (by omega)
        have tk2 : lb.take (k + 1) = lb := List.take_of_length_le (by omega)
        rw [tk] at hown ⊢
        by_cases h1 : k < la.length
        · obtain ⟨b1, o1, rfl, hb1, hl1⟩ := (hea.grows hkeep.grows) k (by rw [List.length_map]; omega)
          simp only [List.getElem_map] at hl1
          have hna2 : (-100 ≤ la[k].1 ∧ la[k].2 ≤ 100) → ∀ j (h : j < la.length), j < k + 1 → -100 ≤ la[j].1 ∧ la[j].2 ≤ 100 := fun hh j h hj => by
            rcases Nat.lt_succ_iff_lt_or_eq.1 hj with h' | rfl
            · exact hna j h h'
            · exact hh
          have q0 : load1 G ⟨b1, o1 + k * 2, none⟩ = some (.int .i64 la[k].1) := (load1_part hl1 (i := 0) (by decide)).trans rfl
          have q1 : load1 G ⟨b1, o1 + k * 2 + 1, none⟩ = some (.int .i64 la[k].2) := (load1_part hl1 (i := 1) (by decide)).trans rfl
          generalize la[k] = s at *
          obtain ⟨f, u⟩ := s
          simp only at q0 q1 hna2
          simp -implicitDefEqProofs (maxSteps := 2000000) (disch := first | omega | (simp only [nx_new, nx_set, List.length_cons, List.length_nil, List.length_map, List.length_set, ne_eq, not_true_eq_false, not_false_eq_true, Nat.succ_ne_zero]; done) | (simp only [nx_new, nx_set, List.length_cons, List.length_nil, List.length_map, List.length_set, ne_eq, not_true_eq_false, not_false_eq_true, Nat.succ_ne_zero]; omega)) only [go_sem, reduceIte, reduceCtorEq, Nat.succ_ne_zero, not_false_eq_true, decide_true, decide_false, Nat.reduceAdd, Nat.reduceMul, Nat.reduceEqDiff, Nat.reduceLeDiff]
          refine AWP_draw_fast mo (by kernel_rfl) ?_
          simp -implicitDefEqProofs (maxSteps := 2000000) (disch := first | omega | (simp only [nx_new, nx_set, List.length_cons, List.length_nil, List.length_map, List.length_set, ne_eq, not_true_eq_false, not_false_eq_true, Nat.succ_ne_zero]; done) | (simp only [nx_new, nx_set, List.length_cons, List.length_nil, List.length_map, List.length_set, ne_eq, not_true_eq_false, not_false_eq_true, Nat.succ_ne_zero]; omega)) only [go_sem, reduceIte, reduceCtorEq, Nat.succ_ne_zero, not_false_eq_true, decide_true, decide_false, Nat.reduceAdd, Nat.reduceMul, Nat.reduceEqDiff, Nat.reduceLeDiff, q0, q1]
          refine guardS_split (fun d1 => ?_) (fun d1 => ?_)
          · simp -implicitDefEqProofs (maxSteps := 2000000) (disch := first | omega | (simp only [nx_new, nx_set, List.length_cons, List.length_nil, List.length_map, List.length_set, ne_eq, not_true_eq_false, not_false_eq_true, Nat.succ_ne_zero]; done) | (simp only [nx_new, nx_set, List.length_cons, List.length_nil, List.length_map, List.length_set, ne_eq, not_true_eq_false, not_false_eq_true, Nat.succ_ne_zero]; omega)) only [go_sem, reduceIte, reduceCtorEq, Nat.succ_ne_zero, not_false_eq_true, decide_true, decide_false, Nat.reduceAdd, Nat.reduceMul, Nat.reduceEqDiff, Nat.reduceLeDiff, d1, q0, q1]
            exact ret_r (v := .bool true) (by rw [ares_tmp ret9]; rfl) rfl
          simp -implicitDefEqProofs (maxSteps := 2000000) (disch := first | omega | (simp only [nx_new, nx_set, List.length_cons, List.length_nil, List.length_map, List.length_set, ne_eq, not_true_eq_false, not_false_eq_true, Nat.succ_ne_zero]; done) | (simp only [nx_new, nx_set, List.length_cons, List.length_nil, List.length_map, List.length_set, ne_eq, not_true_eq_false, not_false_eq_true, Nat.succ_ne_zero]; omega)) only [go_sem, reduceIte, reduceCtorEq, Nat.succ_ne_zero, not_false_eq_true, decide_true, decide_false, Nat.reduceAdd, Nat.reduceMul, Nat.reduceEqDiff, Nat.reduceLeDiff, d1, q0, q1]
          refine guardS_split (fun d2 => ?_) (fun d2 => ?_)
          · simp -implicitDefEqProofs (maxSteps := 2000000) (disch := first | omega | (simp only [nx_new, nx_set, List.length_cons, List.length_nil, List.length_map, List.length_set, ne_eq, not_true_eq_false, not_false_eq_true, Nat.succ_ne_zero]; done) | (simp only [nx_new, nx_set, List.length_cons, List.length_nil, List.length_map, List.length_set, ne_eq, not_true_eq_false, not_false_eq_true, Nat.succ_ne_zero]; omega)) only [go_sem, reduceIte, reduceCtorEq, Nat.succ_ne_zero, not_false_eq_true, decide_true, decide_false, Nat.reduceAdd, Nat.reduceMul, Nat.reduceEqDiff, Nat.reduceLeDiff, d2, q0, q1]
            exact ret_r (v := .bool true) (by rw [ares_tmp ret9]; rfl) rfl
          have e1 := of_decide_eq_false d1
          have e2 := of_decide_eq_false d2
          simp -implicitDefEqProofs (maxSteps := 2000000) (disch := first | omega | (simp only [nx_new, nx_set, List.length_cons, List.length_nil, List.length_map, List.length_set, ne_eq, not_true_eq_false, not_false_eq_true, Nat.succ_ne_zero]; done) | (simp only [nx_new, nx_set, List.length_cons, List.length_nil, List.length_map, List.length_set, ne_eq, not_true_eq_false, not_false_eq_true, Nat.succ_ne_zero]; omega)) only [go_sem, reduceIte, reduceCtorEq, Nat.succ_ne_zero, not_false_eq_true, decide_true, decide_false, Nat.reduceAdd, Nat.reduceMul, Nat.reduceEqDiff, Nat.reduceLeDiff, d2, q0, q1]
          refine ⟨(k + 1, G, c), ⟨by (first | omega | (simp only; omega)), hkeep, by simp only [tk2]; exact hown, hna2 ⟨by omega, by omega⟩, fun j h _ => hnb j h (by omega)⟩, by (first | omega | (simp only; omega)), Weak.sub ?_⟩
          simp only [tk2]
          simp -implicitDefEqProofs (disch := omega) only [Abs.Sub, get_cons_eq, get_cons_ne, and_self, Int.natCast_zero, Int.natCast_add, Int.natCast_one]
        · simp -implicitDefEqProofs (maxSteps := 2000000) (disch := first | omega | (simp only [nx_new, nx_set, List.length_cons, List.length_nil, List.length_map, List.length_set, ne_eq, not_true_eq_false, not_false_eq_true, Nat.succ_ne_zero]; done) | (simp only [nx_new, nx_set, List.length_cons, List.length_nil, List.length_map, List.length_set, ne_eq, not_true_eq_false, not_false_eq_true, Nat.succ_ne_zero]; omega)) only [go_sem, reduceIte, reduceCtorEq, Nat.succ_ne_zero, not_false_eq_true, decide_true, decide_false, Nat.reduceAdd, Nat.reduceMul, Nat.reduceEqDiff, Nat.reduceLeDiff]
          have hga : ∀ s, s ∈ la → -100 ≤ s.1 ∧ s.2 ≤ 100 := fun s hs => by
            obtain ⟨j, hj, rfl⟩ := List.getElem_of_mem hs
            exact hna j hj (by omega)
          have hgb : ∀ s, s ∈ lb → (-100 ≤ s.1 ∧ s.2 ≤ 100) ∧ s.1 ≤ s.2 := fun s hs => by
            obtain ⟨j, hj, rfl⟩ := List.getElem_of_mem hs
            exact hnb j hj (by omega)
          have hmb : ∀ s, s ∈ mv 300 lb → (200 ≤ s.1 ∧ s.2 ≤ 400) ∧ s.1 ≤ s.2 := fun s hs => by
            obtain ⟨t, ht, rfl⟩ := List.mem_map.1 hs
            have := hgb t ht
            simp only; omega
          have hvr : validB (mv 300 lb) = true := valid_mk (by rw [mv_len]; omega) fun s hs => by
            have := hmb s hs
            simp only [okS, Bool.and_eq_true, decide_eq_true_eq]
            omega
          have hem := hown.elems (spc_len _) (by decide)
          have hkn := hkeep.next
          refine (Plan_own G a1 la (by omega) (hea.grows hkeep.grows)).mono ?_
          rintro _ G1 ⟨k1, h1'⟩
          have k1n := k1.next
          have p2 := Plan_own G1 c (mv 300 lb) (by rw [mv_len]; omega) (hem.grows k1.grows)
          rw [mv_len] at p2
          have hB1 : G1.get (G0.next + 1) = .row (la.map spc).flatten true 2 := by
            rw [k1.get _ (by omega), hkeep.get _ (by omega)]; exact hbg
          rcases h1' with ⟨hv, rfl⟩ | ⟨hv, ca, o1, o2, hch, rfl, ho1⟩
          · simp -implicitDefEqProofs (maxSteps := 2000000) (disch := first | omega | (simp only [nx_new, nx_set, List.length_cons, List.length_nil, List.length_map, List.length_set, ne_eq, not_true_eq_false, not_false_eq_true, Nat.succ_ne_zero]; done) | (simp only [nx_new, nx_set, List.length_cons, List.length_nil, List.length_map, List.length_set, ne_eq, not_true_eq_false, not_false_eq_true, Nat.succ_ne_zero]; omega)) only [go_sem, reduceIte, reduceCtorEq, Nat.succ_ne_zero, not_false_eq_true, decide_true, decide_false, Nat.reduceAdd, Nat.reduceMul, Nat.reduceEqDiff, Nat.reduceLeDiff]
            refine p2.mono ?_
            rintro _ G2 ⟨k2, ⟨h, _⟩ | ⟨_, cb, o3, o4, hchb, rfl, ho3⟩⟩
            · rw [hvr] at h; cases h
            have k2n := k2.next
            obtain ⟨G3, hap, h3n, h3g, _, h3e⟩ := both_app (G := G2) (q := G0.next + 1) (c := c) (la := la) (lb := mv 300 lb) (by rw [k2.get _ (by omega)]; exact hB1) (by omega) ((hem.grows k1.grows).grows k2.grows) (by omega) (by rw [mv_len]; omega)
            rw [mv_len] at hap
            simp -implicitDefEqProofs (maxSteps := 2000000) (disch := first | omega | (simp only [nx_new, nx_set, List.length_cons, List.length_nil, List.length_map, List.length_set, ne_eq, not_true_eq_false, not_false_eq_true, Nat.succ_ne_zero]; done) | (simp only [nx_new, nx_set, List.length_cons, List.length_nil, List.length_map, List.length_set, ne_eq, not_true_eq_false, not_false_eq_true, Nat.succ_ne_zero]; omega)) only [go_sem, reduceIte, reduceCtorEq, Nat.succ_ne_zero, not_false_eq_true, decide_true, decide_false, Nat.reduceAdd, Nat.reduceMul, Nat.reduceEqDiff, Nat.reduceLeDiff]
            rw [hap]
            simp -implicitDefEqProofs (maxSteps := 2000000) (disch := first | omega | (simp only [nx_new, nx_set, List.length_cons, List.length_nil, List.length_map, List.length_set, ne_eq, not_true_eq_false, not_false_eq_true, Nat.succ_ne_zero]; done) | (simp only [nx_new, nx_set, List.length_cons, List.length_nil, List.length_map, List.length_set, ne_eq, not_true_eq_false, not_false_eq_true, Nat.succ_ne_zero]; omega)) only [go_sem, reduceIte, reduceCtorEq, Nat.succ_ne_zero, not_false_eq_true, decide_true, decide_false, Nat.reduceAdd, Nat.reduceMul, Nat.reduceEqDiff, Nat.reduceLeDiff]
            have p3 := Plan_spec G3 _ (la ++ mv 300 lb) (by simp [mv_len]; omega) h3e
            rw [List.length_append, mv_len] at p3
            refine p3.mono ?_
            rintro _ G4 ⟨k4, ⟨_, rfl⟩ | ⟨h4, _⟩⟩
            · simp -implicitDefEqProofs (maxSteps := 2000000) (disch := first | omega | (simp only [nx_new, nx_set, List.length_cons, List.length_nil, List.length_map, List.length_set, ne_eq, not_true_eq_false, not_false_eq_true, Nat.succ_ne_zero]; done) | (simp only [nx_new, nx_set, List.length_cons, List.length_nil, List.length_map, List.length_set, ne_eq, not_true_eq_false, not_false_eq_true, Nat.succ_ne_zero]; omega)) only [go_sem, reduceIte, reduceCtorEq, Nat.succ_ne_zero, not_false_eq_true, decide_true, decide_false, Nat.reduceAdd, Nat.reduceMul, Nat.reduceEqDiff, Nat.reduceLeDiff]
              exact ret_r (v := .bool true) (by rw [ares_tmp ret9]; rfl) rfl
            · have : validB la = true := valid_mk (by omega) fun s hs => by
                have := valid_in h4 s (List.mem_append_left _ hs)
                simp only [okS, Bool.and_eq_true, decide_eq_true_eq]
                omega
              rw [hv] at this; cases this
          · have hin := valid_in hv
            have hcl := chain_len hin hch
            simp -implicitDefEqProofs (maxSteps := 2000000) (disch := first | omega | (simp only [nx_new, nx_set, List.length_cons, List.length_nil, List.length_map, List.length_set, ne_eq, not_true_eq_false, not_false_eq_true, Nat.succ_ne_zero]; done) | (simp only [nx_new, nx_set, List.length_cons, List.length_nil, List.length_map, List.length_set, ne_eq, not_true_eq_false, not_false_eq_true, Nat.succ_ne_zero]; omega)) only [go_sem, reduceIte, reduceCtorEq, Nat.succ_ne_zero, not_false_eq_true, decide_true, decide_false, Nat.reduceAdd, Nat.reduceMul, Nat.reduceEqDiff, Nat.reduceLeDiff]
            refine p2.mono ?_
            rintro _ G2 ⟨k2, ⟨h, _⟩ | ⟨_, cb, o3, o4, hchb, rfl, ho3⟩⟩
            · rw [hvr] at h; cases h
            have k2n := k2.next
            have hclb := chain_len (valid_in hvr) hchb
            obtain ⟨G3, hap, h3n, h3g, _, h3e⟩ := both_app (G := G2) (q := G0.next + 1) (c := c) (la := la) (lb := mv 300 lb) (by rw [k2.get _ (by omega)]; exact hB1) (by omega) ((hem.grows k1.grows).grows k2.grows) (by omega) (by rw [mv_len]; omega)
            rw [mv_len] at hap
            have ho1' : OwnSl G.next G2 o1 1 ((ptsOf la ca).map ic).flatten := ho1.keeps k2
            have ho1'' : OwnSl G.next G3 o1 1 ((ptsOf la ca).map ic).flatten := OwnSl_other ho1' (by omega) fun q hq => h3g _ (OwnSl_lt ho1' q hq) (by have := ho1'.lo_ne (b := G0.next + 1) (by omega) q hq; omega)
            have ho3' : OwnSl G1.next G3 o3 1 ((ptsOf (mv 300 lb) cb).map ic).flatten := OwnSl_other ho3 (by omega) fun q hq => h3g _ (OwnSl_lt ho3 q hq) (by have := ho3.lo_ne (b := G0.next + 1) (by omega) q hq; omega)
            simp -implicitDefEqProofs (maxSteps := 2000000) (disch := first | omega | (simp only [nx_new, nx_set, List.length_cons, List.length_nil, List.length_map, List.length_set, ne_eq, not_true_eq_false, not_false_eq_true, Nat.succ_ne_zero]; done) | (simp only [nx_new, nx_set, List.length_cons, List.length_nil, List.length_map, List.length_set, ne_eq, not_true_eq_false, not_false_eq_true, Nat.succ_ne_zero]; omega)) only [go_sem, reduceIte, reduceCtorEq, Nat.succ_ne_zero, not_false_eq_true, decide_true, decide_false, Nat.reduceAdd, Nat.reduceMul, Nat.reduceEqDiff, Nat.reduceLeDiff]
            rw [hap]
            simp -implicitDefEqProofs (maxSteps := 2000000) (disch := first | omega | (simp only [nx_new, nx_set, List.length_cons, List.length_nil, List.length_map, List.length_set, ne_eq, not_true_eq_false, not_false_eq_true, Nat.succ_ne_zero]; done) | (simp only [nx_new, nx_set, List.length_cons, List.length_nil, List.length_map, List.length_set, ne_eq, not_true_eq_false, not_false_eq_true, Nat.succ_ne_zero]; omega)) only [go_sem, reduceIte, reduceCtorEq, Nat.succ_ne_zero, not_false_eq_true, decide_true, decide_false, Nat.reduceAdd, Nat.reduceMul, Nat.reduceEqDiff, Nat.reduceLeDiff]
            have p3 := Plan_spec G3 _ (la ++ mv 300 lb) (by simp [mv_len]; omega) h3e
            rw [List.length_append, mv_len] at p3
            refine p3.mono ?_
            have hvb : validB (la ++ mv 300 lb) = true := valid_mk (by simp [mv_len]; omega) fun s hs => by
              simp only [okS, Bool.and_eq_true, decide_eq_true_eq]
              rcases List.mem_append.1 hs with h | h
              · have := hin s h; omega
              · have := hmb s h; omega
            rintro _ G4 ⟨k4, ⟨h4, _⟩ | ⟨_, c5, o5, o6, hch5, rfl, e5, _⟩⟩
            · rw [hvb] at h4; cases h4
            have heq : ptsOf (la ++ mv 300 lb) c5 = ptsOf la ca ++ ptsOf (mv 300 lb) cb := hch5.pc.unique (PC.append (m := 100) (fun s hs => (hga s hs).2) (fun s hs => by have := hmb s hs; omega) hch.pc (by decide) (show (-40000 : Int) ≤ 100 by decide) hchb.pc)
            have l1 := ptsOf_len la ca
            have l2 := ptsOf_len (mv 300 lb) cb
            have l5 := ptsOf_len (la ++ mv 300 lb) c5
            obtain ⟨G5, hap5, h5n, k5, h5g⟩ := copy_ints (G := G4) ((ho1''.keeps k4).elems (ic_len _) (by decide)) (by omega)
            obtain ⟨G6, hap6, h6n, h6g, _, h6e⟩ := both_ints (G := G5) (q := G4.next + 1) h5g (by omega) (((ho3'.keeps k4).elems (ic_len _) (by decide)).grows k5.grows) (by omega) (by omega)
            have k6 : Keeps G4 G6 := ⟨by omega, fun b hb => by rw [h6g b (by omega) (by omega)]; exact k5.get b hb⟩
            have i1 := ints_spec G6 o5 _ (ptsOf (la ++ mv 300 lb) c5) (ptsOf la ca ++ ptsOf (mv 300 lb) cb) (by rw [heq, List.length_append]; omega) (by rw [List.length_append]; omega) (e5.grows k6.grows) h6e
            rw [decide_eq_true heq, l5, List.length_append, l1, l2] at i1
            rw [l1] at hap5
            rw [l1, l2] at hap6
            simp -implicitDefEqProofs (maxSteps := 2000000) (disch := first | omega | (simp only [nx_new, nx_set, List.length_cons, List.length_nil, List.length_map, List.length_set, ne_eq, not_true_eq_false, not_false_eq_true, Nat.succ_ne_zero]; done) | (simp only [nx_new, nx_set, List.length_cons, List.length_nil, List.length_map, List.length_set, ne_eq, not_true_eq_false, not_false_eq_true, Nat.succ_ne_zero]; omega)) only [go_sem, reduceIte, reduceCtorEq, Nat.succ_ne_zero, not_false_eq_true, decide_true, decide_false, Nat.reduceAdd, Nat.reduceMul, Nat.reduceEqDiff, Nat.reduceLeDiff]
            rw [hap5]
            simp -implicitDefEqProofs (maxSteps := 2000000) (disch := first | omega | (simp only [nx_new, nx_set, List.length_cons, List.length_nil, List.length_map, List.length_set, ne_eq, not_true_eq_false, not_false_eq_true, Nat.succ_ne_zero]; done) | (simp only [nx_new, nx_set, List.length_cons, List.length_nil, List.length_map, List.length_set, ne_eq, not_true_eq_false, not_false_eq_true, Nat.succ_ne_zero]; omega)) only [go_sem, reduceIte, reduceCtorEq, Nat.succ_ne_zero, not_false_eq_true, decide_true, decide_false, Nat.reduceAdd, Nat.reduceMul, Nat.reduceEqDiff, Nat.reduceLeDiff]
            rw [hap6]
            simp -implicitDefEqProofs (maxSteps := 2000000) (disch := first | omega | (simp only [nx_new, nx_set, List.length_cons, List.length_nil, List.length_map, List.length_set, ne_eq, not_true_eq_false, not_false_eq_true, Nat.succ_ne_zero]; done) | (simp only [nx_new, nx_set, List.length_cons, List.length_nil, List.length_map, List.length_set, ne_eq, not_true_eq_false, not_false_eq_true, Nat.succ_ne_zero]; omega)) only [go_sem, reduceIte, reduceCtorEq, Nat.succ_ne_zero, not_false_eq_true, decide_true, decide_false, Nat.reduceAdd, Nat.reduceMul, Nat.reduceEqDiff, Nat.reduceLeDiff]
            refine ACalls.use_eq i1 ?_
            simp -implicitDefEqProofs (maxSteps := 2000000) (disch := first | omega | (simp only [nx_new, nx_set, List.length_cons, List.length_nil, List.length_map, List.length_set, ne_eq, not_true_eq_false, not_false_eq_true, Nat.succ_ne_zero]; done) | (simp only [nx_new, nx_set, List.length_cons, List.length_nil, List.length_map, List.length_set, ne_eq, not_true_eq_false, not_false_eq_true, Nat.succ_ne_zero]; omega)) only [go_sem, reduceIte, reduceCtorEq, Nat.succ_ne_zero, not_false_eq_true, decide_true, decide_false, Nat.reduceAdd, Nat.reduceMul, Nat.reduceEqDiff, Nat.reduceLeDiff]
            exact ret_r (v := .bool true) (by rw [ares_tmp ret9]; rfl) rfl
end Go.Proofs.Ytjgdmjoafpbnaaa
