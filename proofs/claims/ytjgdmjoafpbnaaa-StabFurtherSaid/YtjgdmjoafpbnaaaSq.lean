/- What Plan hands back is new; append of one slice to another. -/
import Derived.Test.YtjgdmjoafpbnaaaSo
set_option linter.unusedVariables false
set_option linter.unusedSimpArgs false
set_option linter.unusedSectionVars false
namespace Go.Proofs.Ytjgdmjoafpbnaaa
open Go.Abs Go.Sm
set_option maxHeartbeats 8000000
set_option maxRecDepth 100000
theorem OwnSl_lo {lo lo' k : Nat} {G : Hp} {a : Option Addr} {cs : List Value} (hl : lo' ≤ lo) (h : OwnSl lo G a k cs) : OwnSl lo' G a k cs := by
  rcases h with h | ⟨q, h1, h2, h3, h4⟩
  · exact .inl h
  · exact .inr ⟨q, h1, by omega, h3, h4⟩
theorem spc_one : ∀ l : List Sp, ((l.map spc).flatten).all Abs.one = true
  | [] => rfl
  | a :: l => by simp only [List.map_cons, List.flatten_cons, List.all_append, spc_one l, Bool.and_true]; rfl
theorem ic_one : ∀ l : List Int, ((l.map ic).flatten).all Abs.one = true
  | [] => rfl
  | a :: l => by simp only [List.map_cons, List.flatten_cons, List.all_append, ic_one l, Bool.and_true]; rfl
theorem ic_flen (l : List Int) : ((l.map ic).flatten).length = l.length * 1 := by rw [flat_len (ic_len l), List.length_map]
/-- Spans behind spans. -/
theorem both_app {G : Hp} {q : Nat} {c : Option Addr} {la lb : List Sp} (hq : G.get q = .row (la.map spc).flatten true 2) (hqn : q < G.next) (hc : Elems G c 2 (lb.map spc)) (hla : la.length ≤ 1000) (hlb : lb.length ≤ 1000) :
    ∃ G', aappend Try.prog G [22, 22] (.slice (some ⟨q, 0, none⟩) la.length la.length) (.slice c lb.length lb.length) = some (.slice (some ⟨G.next, 0, none⟩) (la.length + lb.length) (la.length + lb.length), G') ∧ G'.next = G.next + 1 ∧
      (∀ b, b < G.next → b ≠ q → G'.get b = G.get b) ∧ G'.get G.next = .row ((la ++ lb).map spc).flatten true 2 ∧ Elems G' (some ⟨G.next, 0, none⟩) 2 ((la ++ lb).map spc) := by
  have h := asource_elems (c := lb.length) hc (spc_len lb)
  rw [List.length_map] at h
  have hg : ((G.set q .dead).new (.row ((la.map spc).flatten ++ (lb.map spc).flatten) true 2)).get G.next = .row ((la ++ lb).map spc).flatten true 2 := by
    rw [List.map_append, List.flatten_append]; exact Hp.get_new_same _ _ _ rfl
  refine ⟨_, append_elems (P := Try.prog) u22 u22 ts34 tb34 tz34 rfl (by decide) (by decide) hq h (spc_one lb) (spc_flat lb) (spc_flat la) (by omega), rfl, fun b hb hne => ?_, hg, Elems.row (Nat.lt_succ_self _) hg (spc_len _)⟩
  rw [Hp.get_new_ne _ _ _ (by simp only [Hp.next_set]; omega), Hp.get_set_ne _ _ _ _ hne]
/-- Numbers behind numbers. -/
theorem both_ints {G : Hp} {q : Nat} {c : Option Addr} {la lb : List Int} (hq : G.get q = .row (la.map ic).flatten true 1) (hqn : q < G.next) (hc : Elems G c 1 (lb.map ic)) (hla : la.length ≤ 1000000) (hlb : lb.length ≤ 1000000) :
    ∃ G', aappend Try.prog G [23, 23] (.slice (some ⟨q, 0, none⟩) la.length la.length) (.slice c lb.length lb.length) = some (.slice (some ⟨G.next, 0, none⟩) (la.length + lb.length) (la.length + lb.length), G') ∧ G'.next = G.next + 1 ∧
      (∀ b, b < G.next → b ≠ q → G'.get b = G.get b) ∧ G'.get G.next = .row ((la ++ lb).map ic).flatten true 1 ∧ Elems G' (some ⟨G.next, 0, none⟩) 1 ((la ++ lb).map ic) := by
  have h := asource_elems (c := lb.length) hc (ic_len lb)
  rw [List.length_map] at h
  have hg : ((G.set q .dead).new (.row ((la.map ic).flatten ++ (lb.map ic).flatten) true 1)).get G.next = .row ((la ++ lb).map ic).flatten true 1 := by
    rw [List.map_append, List.flatten_append]; exact Hp.get_new_same _ _ _ rfl
  refine ⟨_, append_elems (P := Try.prog) u23 u23 ts3 tb3 tz3 rfl (by decide) (by decide) hq h (ic_one lb) (ic_flen lb) (ic_flen la) (by omega), rfl, fun b hb hne => ?_, hg, Elems.row (Nat.lt_succ_self _) hg (ic_len _)⟩
  rw [Hp.get_new_ne _ _ _ (by simp only [Hp.next_set]; omega), Hp.get_set_ne _ _ _ _ hne]
/-- A copy: append to an empty new one. -/
theorem copy_spans {G : Hp} {a : Option Addr} {l : List Sp} (he : Elems G a 2 (l.map spc)) (hl : l.length ≤ 1000) :
    ∃ G', aappend Try.prog (G.new (.row [] true 2)) [22, 22] (.slice (some ⟨G.next, 0, none⟩) 0 0) (.slice a l.length l.length) = some (.slice (some ⟨G.next + 1, 0, none⟩) l.length l.length, G') ∧ G'.next = G.next + 1 + 1 ∧ Keeps G G' ∧ G'.get (G.next + 1) = .row (l.map spc).flatten true 2 := by
  obtain ⟨G', h1, h2, h3, h4, _⟩ := both_app (G := G.new (.row [] true 2)) (q := G.next) (la := []) (lb := l) (Hp.get_new_same _ _ _ rfl) (Nat.lt_succ_self _) (he.grows (Grows.new _ _)) (by simp) hl
  simp only [List.length_nil, Nat.zero_add, Hp.next_new, List.nil_append] at h1 h2 h3 h4
  refine ⟨G', h1, h2, ⟨by omega, fun b hb => ?_⟩, h4⟩
  rw [h3 b (by omega) (by omega), Hp.get_new_ne _ _ _ (by omega)]
theorem copy_ints {G : Hp} {a : Option Addr} {l : List Int} (he : Elems G a 1 (l.map ic)) (hl : l.length ≤ 1000000) :
    ∃ G', aappend Try.prog (G.new (.row [] true 1)) [23, 23] (.slice (some ⟨G.next, 0, none⟩) 0 0) (.slice a l.length l.length) = some (.slice (some ⟨G.next + 1, 0, none⟩) l.length l.length, G') ∧ G'.next = G.next + 1 + 1 ∧ Keeps G G' ∧ G'.get (G.next + 1) = .row (l.map ic).flatten true 1 := by
  obtain ⟨G', h1, h2, h3, h4, _⟩ := both_ints (G := G.new (.row [] true 1)) (q := G.next) (la := []) (lb := l) (Hp.get_new_same _ _ _ rfl) (Nat.lt_succ_self _) (he.grows (Grows.new _ _)) (by simp) hl
  simp only [List.length_nil, Nat.zero_add, Hp.next_new, List.nil_append] at h1 h2 h3 h4
  refine ⟨G', h1, h2, ⟨by omega, fun b hb => ?_⟩, h4⟩
  rw [h3 b (by omega) (by omega), Hp.get_new_ne _ _ _ (by omega)]
theorem Plan_own (H : Hp) (a : Option Addr) (l : List Sp) (hl : l.length ≤ 9223372036854775806) (he : Elems H a 2 (l.map spc)) :
    ACalls Try.prog 12 [.slice a l.length l.length] H (fun v H' => Keeps H H' ∧ ((validB l = false ∧ v = .tuple #[.slice none 0 0, .slice none 0 0, .int .i64 1]) ∨
      (validB l = true ∧ ∃ aps o1 o2, Chain l (-40000) aps ∧ v = .tuple #[.slice o1 aps.length aps.length, .slice o2 aps.length aps.length, .int .i64 0] ∧ OwnSl H.next H' o1 1 ((ptsOf l aps).map ic).flatten))) := by
  refine ACalls_enter Try.func12 (by kernel_rfl) rfl (by kernel_rfl) (by simp [n12]) fun hw hr => AWP_step ?_
  simp -implicitDefEqProofs (maxSteps := 2000000) (disch := first | omega | (simp only [nx_new, nx_set, List.length_cons, List.length_nil, List.length_map, List.length_set, ne_eq, not_true_eq_false, not_false_eq_true, Nat.succ_ne_zero]; done) | (simp only [nx_new, nx_set, List.length_cons, List.length_nil, List.length_map, List.length_set, ne_eq, not_true_eq_false, not_false_eq_true, Nat.succ_ne_zero]; omega)) only [go_sem, reduceIte, reduceCtorEq, Nat.succ_ne_zero, not_false_eq_true, decide_true, decide_false, Nat.reduceAdd, Nat.reduceMul, Nat.reduceEqDiff, Nat.reduceLeDiff]
  refine AWP_step ?_
  simp -implicitDefEqProofs (maxSteps := 2000000) (disch := first | omega | (simp only [nx_new, nx_set, List.length_cons, List.length_nil, List.length_map, List.length_set, ne_eq, not_true_eq_false, not_false_eq_true, Nat.succ_ne_zero]; done) | (simp only [nx_new, nx_set, List.length_cons, List.length_nil, List.length_map, List.length_set, ne_eq, not_true_eq_false, not_false_eq_true, Nat.succ_ne_zero]; omega)) only [go_sem, reduceIte, reduceCtorEq, Nat.succ_ne_zero, not_false_eq_true, decide_true, decide_false, Nat.reduceAdd, Nat.reduceMul, Nat.reduceEqDiff, Nat.reduceLeDiff]
  refine ACalls.use_eq (valid_spec _ a l hl (he.grows (Grows.new _ _))) ?_
  simp -implicitDefEqProofs (maxSteps := 2000000) (disch := first | omega | (simp only [nx_new, nx_set, List.length_cons, List.length_nil, List.length_map, List.length_set, ne_eq, not_true_eq_false, not_false_eq_true, Nat.succ_ne_zero]; done) | (simp only [nx_new, nx_set, List.length_cons, List.length_nil, List.length_map, List.length_set, ne_eq, not_true_eq_false, not_false_eq_true, Nat.succ_ne_zero]; omega)) only [go_sem, reduceIte, reduceCtorEq, Nat.succ_ne_zero, not_false_eq_true, decide_true, decide_false, Nat.reduceAdd, Nat.reduceMul, Nat.reduceEqDiff, Nat.reduceLeDiff]
  refine condS_split (fun hc => ?_) (fun hc => ?_)
  · simp -implicitDefEqProofs (maxSteps := 2000000) (disch := first | omega | (simp only [nx_new, nx_set, List.length_cons, List.length_nil, List.length_map, List.length_set, ne_eq, not_true_eq_false, not_false_eq_true, Nat.succ_ne_zero]; done) | (simp only [nx_new, nx_set, List.length_cons, List.length_nil, List.length_map, List.length_set, ne_eq, not_true_eq_false, not_false_eq_true, Nat.succ_ne_zero]; omega)) only [go_sem, reduceIte, reduceCtorEq, Nat.succ_ne_zero, not_false_eq_true, decide_true, decide_false, Nat.reduceAdd, Nat.reduceMul, Nat.reduceEqDiff, Nat.reduceLeDiff, hc]
    refine ret_r (v := .tuple #[.slice none 0 0, .slice none 0 0, .int .i64 1]) (by rw [ares_tmp3 ret12]; rfl) ⟨Keeps.new _ _, .inl ⟨by simpa using hc, rfl⟩⟩
  · simp -implicitDefEqProofs (maxSteps := 2000000) (disch := first | omega | (simp only [nx_new, nx_set, List.length_cons, List.length_nil, List.length_map, List.length_set, ne_eq, not_true_eq_false, not_false_eq_true, Nat.succ_ne_zero]; done) | (simp only [nx_new, nx_set, List.length_cons, List.length_nil, List.length_map, List.length_set, ne_eq, not_true_eq_false, not_false_eq_true, Nat.succ_ne_zero]; omega)) only [go_sem, reduceIte, reduceCtorEq, Nat.succ_ne_zero, not_false_eq_true, decide_true, decide_false, Nat.reduceAdd, Nat.reduceMul, Nat.reduceEqDiff, Nat.reduceLeDiff, hc]
    simp only [Bool.not_eq_false'] at hc
    have hv := valid_in hc
    have hlen : l.length ≤ 1000 := by simp only [validB, Bool.and_eq_true, decide_eq_true_eq] at hc; exact hc.1
    refine AWP_step ?_
    simp -implicitDefEqProofs (maxSteps := 2000000) (disch := first | omega | (simp only [nx_new, nx_set, List.length_cons, List.length_nil, List.length_map, List.length_set, ne_eq, not_true_eq_false, not_false_eq_true, Nat.succ_ne_zero]; done) | (simp only [nx_new, nx_set, List.length_cons, List.length_nil, List.length_map, List.length_set, ne_eq, not_true_eq_false, not_false_eq_true, Nat.succ_ne_zero]; omega)) only [go_sem, reduceIte, reduceCtorEq, Nat.succ_ne_zero, not_false_eq_true, decide_true, decide_false, Nat.reduceAdd, Nat.reduceMul, Nat.reduceEqDiff, Nat.reduceLeDiff]
    rw [make_ints _ (by omega)]
    simp -implicitDefEqProofs (maxSteps := 2000000) (disch := first | omega | (simp only [nx_new, nx_set, List.length_cons, List.length_nil, List.length_map, List.length_set, ne_eq, not_true_eq_false, not_false_eq_true, Nat.succ_ne_zero]; done) | (simp only [nx_new, nx_set, List.length_cons, List.length_nil, List.length_map, List.length_set, ne_eq, not_true_eq_false, not_false_eq_true, Nat.succ_ne_zero]; omega)) only [go_sem, reduceIte, reduceCtorEq, Nat.succ_ne_zero, not_false_eq_true, decide_true, decide_false, Nat.reduceAdd, Nat.reduceMul, Nat.reduceEqDiff, Nat.reduceLeDiff]
    have hG0 : (H.new (.row [.slice a l.length l.length] true 0)).get H.next = .row [.slice a l.length l.length] true 0 := Hp.get_new_same _ _ _ rfl
    have he0 := he.grows (Grows.new H (.row [.slice a l.length l.length] true 0))
    have hk0 : Keeps H (H.new (.row [.slice a l.length l.length] true 0)) := Keeps.new _ _
    have hn0 : (H.new (.row [.slice a l.length l.length] true 0)).next = H.next + 1 := rfl
    generalize H.new (.row [.slice a l.length l.length] true 0) = G0 at *
    have hcmp : Cmp G0 H.next l.length (till l) := cmp20 (by omega) hG0 he0 hv
    refine AWP_join (σ := Unit) (fun _ => [(5, .slice (some ⟨H.next + 1, 0, none⟩) l.length l.length), (1, .pointer (some ⟨H.next, 0, none⟩))]) (fun _ => G0.new (.row ((List.range l.length).map iv) true 1)) (fun _ => True) ?_ ?_
    · simp -implicitDefEqProofs (maxSteps := 2000000) (disch := first | omega | (simp only [nx_new, nx_set, List.length_cons, List.length_nil, List.length_map, List.length_set, ne_eq, not_true_eq_false, not_false_eq_true, Nat.succ_ne_zero]; done) | (simp only [nx_new, nx_set, List.length_cons, List.length_nil, List.length_map, List.length_set, ne_eq, not_true_eq_false, not_false_eq_true, Nat.succ_ne_zero]; omega)) only [go_sem, reduceIte, reduceCtorEq, Nat.succ_ne_zero, not_false_eq_true, decide_true, decide_false, Nat.reduceAdd, Nat.reduceMul, Nat.reduceEqDiff, Nat.reduceLeDiff]
      refine AWP_loop (σ := Nat × Hp) (fun k => [(19, .int .i64 k.1), (18, .int .i64 l.length), (5, .slice (some ⟨H.next + 1, 0, none⟩) l.length l.length), (1, .pointer (some ⟨H.next, 0, none⟩))]) (fun k => k.2)
        (fun k => k.1 ≤ l.length ∧ k.2 = G0.new (.row ((List.range k.1 ++ List.replicate (l.length - k.1) 0).map iv) true 1)) (fun k => l.length - k.1) (0, _) ⟨Nat.zero_le _, rfl⟩ (Weak.sub ?_) ?_
      · (simp -implicitDefEqProofs (disch := omega) only [Abs.Sub, get_cons_eq, get_cons_ne, and_self, Option.some.injEq, Value.int.injEq, Value.slice.injEq, true_and, and_true, Int.natCast_zero, Int.natCast_add, Int.natCast_one, List.length_nil]; try omega)
      · rintro ⟨k, G⟩ ⟨hk, hG⟩
        simp only at hk hG ⊢
        refine AWP_of_awp ?_
        by_cases hlt : k < l.length
        · have hset := rangeRow_set hlt
          have hrl : (List.range k ++ List.replicate (l.length - k) 0).length = l.length := by simp; omega
          have hgG : G.get (H.next + 1) = .row ((List.range k ++ List.replicate (l.length - k) 0).map iv) true 1 := by rw [hG]; exact Hp.get_new_same _ _ _ (by omega)
          generalize List.range k ++ List.replicate (l.length - k) 0 = R at *
          simp -implicitDefEqProofs (maxSteps := 2000000) (disch := first | omega | (simp only [nx_new, nx_set, List.length_cons, List.length_nil, List.length_map, List.length_set, ne_eq, not_true_eq_false, not_false_eq_true, Nat.succ_ne_zero]; done) | (simp only [nx_new, nx_set, List.length_cons, List.length_nil, List.length_map, List.length_set, ne_eq, not_true_eq_false, not_false_eq_true, Nat.succ_ne_zero]; omega)) only [go_sem, reduceIte, reduceCtorEq, Nat.succ_ne_zero, not_false_eq_true, decide_true, decide_false, Nat.reduceAdd, Nat.reduceMul, Nat.reduceEqDiff, Nat.reduceLeDiff, hgG]
          have eG : G.set (H.next + 1) (.row ((R.map iv).set k (.int .i64 k)) true 1) = G0.new (.row ((List.range (k + 1) ++ List.replicate (l.length - (k + 1)) 0).map iv) true 1) := by
            rw [hG, set_new_same _ _ _ (by omega), hset]
          rw [eG]
          refine ⟨(k + 1, _), ⟨hlt, rfl⟩, by simp only; omega, Weak.sub ?_⟩
          (simp -implicitDefEqProofs (disch := omega) only [Abs.Sub, get_cons_eq, get_cons_ne, and_self, Option.some.injEq, Value.int.injEq, Value.slice.injEq, true_and, and_true, Int.natCast_zero, Int.natCast_add, Int.natCast_one, List.length_nil]; try omega)
        · have hke : k = l.length := by omega
          simp -implicitDefEqProofs (maxSteps := 2000000) (disch := first | omega | (simp only [nx_new, nx_set, List.length_cons, List.length_nil, List.length_map, List.length_set, ne_eq, not_true_eq_false, not_false_eq_true, Nat.succ_ne_zero]; done) | (simp only [nx_new, nx_set, List.length_cons, List.length_nil, List.length_map, List.length_set, ne_eq, not_true_eq_false, not_false_eq_true, Nat.succ_ne_zero]; omega)) only [go_sem, reduceIte, reduceCtorEq, Nat.succ_ne_zero, not_false_eq_true, decide_true, decide_false, Nat.reduceAdd, Nat.reduceMul, Nat.reduceEqDiff, Nat.reduceLeDiff]
          have eG : G = G0.new (.row ((List.range l.length).map iv) true 1) := by
            rw [hG, hke, Nat.sub_self]; simp
          rw [eG]
          refine ⟨(), Weak.sub ?_⟩
          (simp -implicitDefEqProofs (disch := omega) only [Abs.Sub, get_cons_eq, get_cons_ne, and_self, Option.some.injEq, Value.int.injEq, Value.slice.injEq, true_and, and_true, Int.natCast_zero, Int.natCast_add, Int.natCast_one, List.length_nil]; try omega)
    · rintro _ _
      refine AWP_step ?_
      simp -implicitDefEqProofs (maxSteps := 2000000) (disch := first | omega | (simp only [nx_new, nx_set, List.length_cons, List.length_nil, List.length_map, List.length_set, ne_eq, not_true_eq_false, not_false_eq_true, Nat.succ_ne_zero]; done) | (simp only [nx_new, nx_set, List.length_cons, List.length_nil, List.length_map, List.length_set, ne_eq, not_true_eq_false, not_false_eq_true, Nat.succ_ne_zero]; omega)) only [go_sem, reduceIte, reduceCtorEq, Nat.succ_ne_zero, not_false_eq_true, decide_true, decide_false, Nat.reduceAdd, Nat.reduceMul, Nat.reduceEqDiff, Nat.reduceLeDiff]
      have hg1 : (G0.new (.row ((List.range l.length).map iv) true 1)).get (H.next + 1) = .row ((List.range l.length).map iv) true 1 := Hp.get_new_same _ _ _ (by omega)
      refine (sortStable_spec (N := l.length) hcmp (Keeps.new _ _) (by omega) (List.range l.length) List.pairwise_lt_range (fun x hx => List.mem_range.1 hx) (by simp) (by omega) hg1).mono ?_
      rintro _ _ ⟨rfl, Y, hY1, hY2, rfl⟩
      rw [set_new_same _ _ _ (by omega)]
      have hYl : Y.length = l.length := by rw [hY1.length_eq, List.length_range]
      have hYin : ∀ i, i ∈ Y → i < l.length := fun i hi => List.mem_range.1 (hY1.mem_iff.1 hi)
      have hch : Chain l (-40000) (scan l (-40000) Y) := scan_chain hv hY2 hYin fun j hj => .inl (hY1.mem_iff.2 (List.mem_range.2 hj))
      have hP0 : ∀ j, j < l.length → (-40000 : Int) < (at_ l j).1 := fun j hj => by
        rw [at_get hj]; have := hv _ (List.getElem_mem hj); omega
      have hk1 : Keeps H (G0.new (.row (Y.map iv) true 1)) := hk0.trans (Keeps.new _ _)
      have hgq : (G0.new (.row (Y.map iv) true 1)).get (H.next + 1) = .row (Y.map iv) true 1 := Hp.get_new_same _ _ _ (by omega)
      have hgc : (G0.new (.row (Y.map iv) true 1)).get H.next = .row [.slice a l.length l.length] true 0 := by rw [Hp.get_new_ne _ _ _ (by omega)]; exact hG0
      have hn1 : (G0.new (.row (Y.map iv) true 1)).next = H.next + 2 := by rw [Hp.next_new]; omega
      have he1 := he.grows hk1.grows
      generalize G0.new (.row (Y.map iv) true 1) = G1 at *
      simp -implicitDefEqProofs (maxSteps := 2000000) (disch := first | omega | (simp only [nx_new, nx_set, List.length_cons, List.length_nil, List.length_map, List.length_set, ne_eq, not_true_eq_false, not_false_eq_true, Nat.succ_ne_zero]; done) | (simp only [nx_new, nx_set, List.length_cons, List.length_nil, List.length_map, List.length_set, ne_eq, not_true_eq_false, not_false_eq_true, Nat.succ_ne_zero]; omega)) only [go_sem, reduceIte, reduceCtorEq, Nat.succ_ne_zero, not_false_eq_true, decide_true, decide_false, Nat.reduceAdd, Nat.reduceMul, Nat.reduceEqDiff, Nat.reduceLeDiff]
      refine AWP_step ?_
      simp -implicitDefEqProofs (maxSteps := 2000000) (disch := first | omega | (simp only [nx_new, nx_set, List.length_cons, List.length_nil, List.length_map, List.length_set, ne_eq, not_true_eq_false, not_false_eq_true, Nat.succ_ne_zero]; done) | (simp only [nx_new, nx_set, List.length_cons, List.length_nil, List.length_map, List.length_set, ne_eq, not_true_eq_false, not_false_eq_true, Nat.succ_ne_zero]; omega)) only [go_sem, reduceIte, reduceCtorEq, Nat.succ_ne_zero, not_false_eq_true, decide_true, decide_false, Nat.reduceAdd, Nat.reduceMul, Nat.reduceEqDiff, Nat.reduceLeDiff]
      refine AWP_step ?_
      simp -implicitDefEqProofs (maxSteps := 2000000) (disch := first | omega | (simp only [nx_new, nx_set, List.length_cons, List.length_nil, List.length_map, List.length_set, ne_eq, not_true_eq_false, not_false_eq_true, Nat.succ_ne_zero]; done) | (simp only [nx_new, nx_set, List.length_cons, List.length_nil, List.length_map, List.length_set, ne_eq, not_true_eq_false, not_false_eq_true, Nat.succ_ne_zero]; omega)) only [go_sem, reduceIte, reduceCtorEq, Nat.succ_ne_zero, not_false_eq_true, decide_true, decide_false, Nat.reduceAdd, Nat.reduceMul, Nat.reduceEqDiff, Nat.reduceLeDiff]
      simp only [hn1]
      refine AWP_join (σ := Hp) (fun _ => [(7, .pointer (some ⟨H.next + 2, 0, none⟩))]) (fun G => G) (fun G => Keeps H G ∧ PlanAt G (H.next + 2) (ptsOf l (scan l (-40000) Y)) (ints (scan l (-40000) Y))) ?_ ?_
      · simp -implicitDefEqProofs (maxSteps := 2000000) (disch := first | omega | (simp only [nx_new, nx_set, List.length_cons, List.length_nil, List.length_map, List.length_set, ne_eq, not_true_eq_false, not_false_eq_true, Nat.succ_ne_zero]; done) | (simp only [nx_new, nx_set, List.length_cons, List.length_nil, List.length_map, List.length_set, ne_eq, not_true_eq_false, not_false_eq_true, Nat.succ_ne_zero]; omega)) only [go_sem, reduceIte, reduceCtorEq, Nat.succ_ne_zero, not_false_eq_true, decide_true, decide_false, Nat.reduceAdd, Nat.reduceMul, Nat.reduceEqDiff, Nat.reduceLeDiff]
        refine AWP_loop (σ := Nat × Hp × List Nat × Int) (fun s => [(33, .int .i64 s.1), (32, .int .i64 l.length), (31, .slice (some ⟨H.next + 1, 0, none⟩) l.length l.length), (8, .func (.func 21) #[.pointer (some ⟨H.next + 2, 0, none⟩)] #[]), (7, .pointer (some ⟨H.next + 2, 0, none⟩)), (1, .pointer (some ⟨H.next, 0, none⟩))]) (fun s => s.2.1)
          (fun s => s.1 ≤ l.length ∧ s.2.2.1.length ≤ s.1 ∧ PlanAt s.2.1 (H.next + 2) (ptsOf l s.2.2.1) (ints s.2.2.1) ∧ (∀ b, b < H.next + 2 → s.2.1.get b = G1.get b) ∧ scan l (-40000) Y = s.2.2.1 ++ scan l s.2.2.2 (Y.drop s.1) ∧ (∀ t, (ptsOf l s.2.2.1).getLast? = some t → t = s.2.2.2) ∧ (s.2.2.1 = [] → s.2.2.2 = -40000))
          (fun s => l.length - s.1) (0, G1.new (.row [.slice none 0 0, .slice none 0 0] true 0), [], -40000) ⟨Nat.zero_le _, Nat.le_refl _, ⟨?_, none, none, ?_, OwnSl.none, OwnSl.none, fun q hq => by cases hq⟩, ?_, rfl, (fun t h => by cases h), fun _ => rfl⟩ (Weak.sub ?_) ?_
        rotate_left 3
        · (simp -implicitDefEqProofs (disch := omega) only [Abs.Sub, get_cons_eq, get_cons_ne, and_self, Option.some.injEq, Value.int.injEq, Value.slice.injEq, true_and, and_true, Int.natCast_zero, Int.natCast_add, Int.natCast_one, List.length_nil]; try omega)
        · rintro ⟨k, G, aps, P⟩ ⟨hk, hal, hpl, hold, hsc, hP, hPn⟩
          simp only at hk hal hpl hold hsc hP hPn ⊢
          refine AWP_of_awp ?_
          have hGq : G.get (H.next + 1) = .row (Y.map iv) true 1 := by rw [hold _ (by omega)]; exact hgq
          have hGc : G.get H.next = .row [.slice a l.length l.length] true 0 := by rw [hold _ (by omega)]; exact hgc
          have hGk : Keeps H G := ⟨by have := hpl.1; omega, fun b hb => by rw [hold b (by omega)]; exact hk1.get b hb⟩
          have hG2 : H.next + 2 < G.next := hpl.1
          by_cases hlt : k < l.length
          · have hkY : k < Y.length := by omega
            have hYk : Y[k]? = some Y[k] := List.getElem?_eq_getElem hkY
            have hdr : Y.drop k = Y[k] :: Y.drop (k + 1) := List.drop_eq_getElem_cons hkY
            have hik := hYin _ (List.getElem_mem hkY)
            generalize Y[k] = i at *
            have h1 : load1 G ⟨H.next + 1, k, none⟩ = some (.int .i64 i) := ld_iv hGq hYk
            have h2 : load1 G ⟨H.next, 0, none⟩ = some (.slice a l.length l.length) := (l1_row _ _ _ _ _ hGc).trans rfl
            obtain ⟨b, o, rfl, hb, hl1⟩ := (he.grows hGk.grows) i (by simpa using hik)
            simp only [List.getElem_map] at hl1
            have hai : at_ l i = l[i] := at_get hik
            have hadd := addP_scan hP (fun h j hj => by
              have h0 : aps = [] := by simpa [ptsOf] using h
              rw [hPn h0]; exact hP0 j hj) (aps := ints aps) hik
            have hsi : scan l P (i :: Y.drop (k + 1)) = if (at_ l i).1 ≤ P then scan l P (Y.drop (k + 1)) else i :: scan l (till l i) (Y.drop (k + 1)) := rfl
            rw [hdr, hsi] at hsc
            have hti : till l i = (at_ l i).2 := rfl
            rw [← hai] at hl1
            generalize at_ l i = s at *
            obtain ⟨f, u⟩ := s
            simp only [spc] at hl1
            simp -implicitDefEqProofs (maxSteps := 2000000) (disch := first | omega | (simp only [nx_new, nx_set, List.length_cons, List.length_nil, List.length_map, List.length_set, ne_eq, not_true_eq_false, not_false_eq_true, Nat.succ_ne_zero]; done) | (simp only [nx_new, nx_set, List.length_cons, List.length_nil, List.length_map, List.length_set, ne_eq, not_true_eq_false, not_false_eq_true, Nat.succ_ne_zero]; omega)) only [go_sem, reduceIte, reduceCtorEq, Nat.succ_ne_zero, not_false_eq_true, decide_true, decide_false, Nat.reduceAdd, Nat.reduceMul, Nat.reduceEqDiff, Nat.reduceLeDiff, h1, h2, hl1]
            refine (add_spec (i : Int) f u hpl (by simp [ptsOf]; omega) (by simp [ints]; omega)).mono ?_
            rintro _ G' ⟨rfl, hpl', hn', hold'⟩
            rw [hadd] at hpl'
            simp -implicitDefEqProofs (maxSteps := 2000000) (disch := first | omega | (simp only [nx_new, nx_set, List.length_cons, List.length_nil, List.length_map, List.length_set, ne_eq, not_true_eq_false, not_false_eq_true, Nat.succ_ne_zero]; done) | (simp only [nx_new, nx_set, List.length_cons, List.length_nil, List.length_map, List.length_set, ne_eq, not_true_eq_false, not_false_eq_true, Nat.succ_ne_zero]; omega)) only [go_sem, reduceIte, reduceCtorEq, Nat.succ_ne_zero, not_false_eq_true, decide_true, decide_false, Nat.reduceAdd, Nat.reduceMul, Nat.reduceEqDiff, Nat.reduceLeDiff]
            by_cases hle : f ≤ P
            · rw [if_pos hle] at hsc hpl'
              refine ⟨(k + 1, G', aps, P), ⟨hlt, by simp only; omega, hpl', fun b hb => (hold' b hb).trans (hold b hb), hsc, hP, hPn⟩, by simp only; omega, Weak.sub ?_⟩
              (simp -implicitDefEqProofs (disch := omega) only [Abs.Sub, get_cons_eq, get_cons_ne, and_self, Option.some.injEq, Value.int.injEq, Value.slice.injEq, true_and, and_true, Int.natCast_zero, Int.natCast_add, Int.natCast_one, List.length_nil]; try omega)
            · rw [if_neg hle] at hsc hpl'
              refine ⟨(k + 1, G', aps ++ [i], till l i), ⟨hlt, by simp only [List.length_append, List.length_singleton]; omega, ?_, fun b hb => (hold' b hb).trans (hold b hb), ?_, ?_, ?_⟩, by simp only; omega, Weak.sub ?_⟩
              · simpa [ptsOf, ints] using hpl'
              · rw [hsc]; simp
              · intro t ht
                simp only [ptsOf, List.map_append, List.map_cons, List.map_nil, List.getLast?_append] at ht
                simpa using ht.symm
              · intro h; simp at h
              · (simp -implicitDefEqProofs (disch := omega) only [Abs.Sub, get_cons_eq, get_cons_ne, and_self, Option.some.injEq, Value.int.injEq, Value.slice.injEq, true_and, and_true, Int.natCast_zero, Int.natCast_add, Int.natCast_one, List.length_nil]; try omega)
          · simp -implicitDefEqProofs (maxSteps := 2000000) (disch := first | omega | (simp only [nx_new, nx_set, List.length_cons, List.length_nil, List.length_map, List.length_set, ne_eq, not_true_eq_false, not_false_eq_true, Nat.succ_ne_zero]; done) | (simp only [nx_new, nx_set, List.length_cons, List.length_nil, List.length_map, List.length_set, ne_eq, not_true_eq_false, not_false_eq_true, Nat.succ_ne_zero]; omega)) only [go_sem, reduceIte, reduceCtorEq, Nat.succ_ne_zero, not_false_eq_true, decide_true, decide_false, Nat.reduceAdd, Nat.reduceMul, Nat.reduceEqDiff, Nat.reduceLeDiff]
            rw [List.drop_eq_nil_of_le (by omega)] at hsc
            have hsc' : scan l (-40000) Y = aps := by rw [hsc]; exact List.append_nil _
            rw [hsc']
            exact ⟨G, ⟨hGk, hpl⟩, Weak.sub (by simp -implicitDefEqProofs (disch := omega) only [Abs.Sub, get_cons_eq, get_cons_ne, and_self, Int.natCast_zero, Int.natCast_add, Int.natCast_one])⟩
        · simp only [Hp.next_new]; omega
        · exact Hp.get_new_same _ _ _ hn1.symm
        · intro b hb; exact Hp.get_new_ne _ _ _ (by omega)
      · rintro G ⟨hGk, hpl⟩
        refine AWP_of_awp ?_
        simp -implicitDefEqProofs (maxSteps := 2000000) (disch := first | omega | (simp only [nx_new, nx_set, List.length_cons, List.length_nil, List.length_map, List.length_set, ne_eq, not_true_eq_false, not_false_eq_true, Nat.succ_ne_zero]; done) | (simp only [nx_new, nx_set, List.length_cons, List.length_nil, List.length_map, List.length_set, ne_eq, not_true_eq_false, not_false_eq_true, Nat.succ_ne_zero]; omega)) only [go_sem, reduceIte, reduceCtorEq, Nat.succ_ne_zero, not_false_eq_true, decide_true, decide_false, Nat.reduceAdd, Nat.reduceMul, Nat.reduceEqDiff, Nat.reduceLeDiff]
        refine AWP_draw_fast mo (by kernel_rfl) ?_
        generalize scan l (-40000) Y = aps at *
        obtain ⟨hpn, a1, a2, hpg, ho1, ho2, _⟩ := hpl
        have h1 : load1 G ⟨H.next + 2, 0, none⟩ = some (.slice a1 (ptsOf l aps).length (ptsOf l aps).length) := (l1_row _ _ _ _ _ hpg).trans rfl
        have h2 : load1 G ⟨H.next + 2, 1, none⟩ = some (.slice a2 (ints aps).length (ints aps).length) := (l1_row _ _ _ _ _ hpg).trans rfl
        have e1 : (ptsOf l aps).length = aps.length := by simp [ptsOf]
        have e2 : (ints aps).length = aps.length := by simp [ints]
        rw [e1] at h1
        rw [e2] at h2
        rw [← ic_flat] at ho1 ho2
        simp -implicitDefEqProofs (maxSteps := 2000000) (disch := first | omega | (simp only [nx_new, nx_set, List.length_cons, List.length_nil, List.length_map, List.length_set, ne_eq, not_true_eq_false, not_false_eq_true, Nat.succ_ne_zero]; done) | (simp only [nx_new, nx_set, List.length_cons, List.length_nil, List.length_map, List.length_set, ne_eq, not_true_eq_false, not_false_eq_true, Nat.succ_ne_zero]; omega)) only [go_sem, reduceIte, reduceCtorEq, Nat.succ_ne_zero, not_false_eq_true, decide_true, decide_false, Nat.reduceAdd, Nat.reduceMul, Nat.reduceEqDiff, Nat.reduceLeDiff, h1, h2]
        refine ret_r (v := .tuple #[.slice a1 aps.length aps.length, .slice a2 aps.length aps.length, .int .i64 0]) (by rw [ares_tmp3 ret12]; rfl) ⟨hGk, .inr ⟨hc, aps, a1, a2, hch, rfl, OwnSl_lo (by omega) ho1⟩⟩
end Go.Proofs.Ytjgdmjoafpbnaaa
