/- MasterLatest. -/
import Derived.Test.YtejpfdhlpcgfkaaVt
set_option linter.unusedVariables false
set_option linter.unusedSimpArgs false
set_option linter.unusedSectionVars false
namespace Go.Proofs.Ytejpfdhlpcgfkaa
open Go.Abs Go.Sm
set_option maxHeartbeats 8000000
set_option maxRecDepth 100000
def later (w : Want) (c x : Cal) : Bool := w.app x && decide (c.at_ < x.at_)
theorem n8 : Try.f8.ntmps = 118 := rfl
theorem ret8 : Try.f8.results = #[.tmp 16] := rfl
theorem latest_law (H : Hp) (a : Option Addr) (l : List Cal) (c : Cal) (wk wt wf wa wn pl : Int) (he : Elems H a 9 (l.map Cal.cells)) (hcut : CutS H a 9 l.length) (hpl : (Lit.int .u8 pl).wf = true) :
    ACalls Try.prog 8 [.slice a l.length l.length, .agg c.cells.toArray, .int .i64 wk, .int .i64 wt, .int .i64 wf, .int .i64 wa, .int .i64 wn, .int .u8 pl] H (fun v H' => v = .bool true) := by
  have hw2 : 0 ≤ pl ∧ pl ≤ 255 := by
    simp [Lit.wf, IntKind.min, IntKind.max, IntKind.signed, IntKind.bits] at hpl; omega
  have hva := fun G => valid16_spec G c
  have hap := fun G x => app15_spec G x ⟨wk, wt, wf, wa, wn⟩
  simp only [cal_agg, Cal.cells] at hva hap ⊢
  refine ACalls_enter Try.func8 (by kernel_rfl) rfl (by kernel_rfl) (by simp [n8]) fun hw hr => AWP_step ?_
  simp -implicitDefEqProofs (maxSteps := 2000000) (disch := first | omega | (simp only [nx_new, nx_set, List.length_cons, List.length_nil, List.length_map, List.length_set, ne_eq, not_true_eq_false, not_false_eq_true, Nat.succ_ne_zero]; done) | (simp only [nx_new, nx_set, List.length_cons, List.length_nil, List.length_map, List.length_set, ne_eq, not_true_eq_false, not_false_eq_true, Nat.succ_ne_zero]; omega)) only [go_sem, reduceIte, reduceCtorEq, Nat.succ_ne_zero, not_false_eq_true, decide_true, decide_false, Nat.reduceAdd, Nat.reduceMul, Nat.reduceEqDiff, Nat.reduceLeDiff]
  obtain ⟨H1, e1⟩ : ∃ X, X = H.new (.row [.int .i64 c.kind, .int .i64 c.tel, .int .i64 c.fil, .int .i64 c.at_, .int .i64 c.known, .int .i64 c.v0, .int .i64 c.v1, .int .i64 c.v2, .int .i64 c.v3] true 0) := ⟨_, rfl⟩
  rw [← e1]
  have k01 : Keeps H H1 := by rw [e1]; exact Keeps.new _ _
  have gb : H1.get H.next = .row c.cells true 0 := by rw [e1]; exact Hp.get_new_same _ _ _ rfl
  have n01 : H1.next = H.next + 1 := by rw [e1]; rfl
  clear e1
  refine AWP_step ?_
  simp -implicitDefEqProofs (maxSteps := 2000000) (disch := first | omega | (simp only [nx_new, nx_set, List.length_cons, List.length_nil, List.length_map, List.length_set, ne_eq, not_true_eq_false, not_false_eq_true, Nat.succ_ne_zero]; done) | (simp only [nx_new, nx_set, List.length_cons, List.length_nil, List.length_map, List.length_set, ne_eq, not_true_eq_false, not_false_eq_true, Nat.succ_ne_zero]; omega)) only [go_sem, reduceIte, reduceCtorEq, Nat.succ_ne_zero, not_false_eq_true, decide_true, decide_false, Nat.reduceAdd, Nat.reduceMul, Nat.reduceEqDiff, Nat.reduceLeDiff]
  refine (head_spec H1).mono ?_
  rintro _ G0 ⟨rfl, k0⟩
  simp -implicitDefEqProofs (maxSteps := 2000000) (disch := first | omega | (simp only [nx_new, nx_set, List.length_cons, List.length_nil, List.length_map, List.length_set, ne_eq, not_true_eq_false, not_false_eq_true, Nat.succ_ne_zero]; done) | (simp only [nx_new, nx_set, List.length_cons, List.length_nil, List.length_map, List.length_set, ne_eq, not_true_eq_false, not_false_eq_true, Nat.succ_ne_zero]; omega)) only [go_sem, reduceIte, reduceCtorEq, Nat.succ_ne_zero, not_false_eq_true, decide_true, decide_false, Nat.reduceAdd, Nat.reduceMul, Nat.reduceEqDiff, Nat.reduceLeDiff]
  refine AWP_step ?_
  simp -implicitDefEqProofs (maxSteps := 2000000) (disch := first | omega | (simp only [nx_new, nx_set, List.length_cons, List.length_nil, List.length_map, List.length_set, ne_eq, not_true_eq_false, not_false_eq_true, Nat.succ_ne_zero]; done) | (simp only [nx_new, nx_set, List.length_cons, List.length_nil, List.length_map, List.length_set, ne_eq, not_true_eq_false, not_false_eq_true, Nat.succ_ne_zero]; omega)) only [go_sem, reduceIte, reduceCtorEq, Nat.succ_ne_zero, not_false_eq_true, decide_true, decide_false, Nat.reduceAdd, Nat.reduceMul, Nat.reduceEqDiff, Nat.reduceLeDiff]
  refine ACalls.use_eq (few_spec _ _ _) ?_
  have hn0 := k0.next
  have gb0 : G0.get H.next = .row c.cells true 0 := by rw [k0.get _ (by omega)]; exact gb
  have lb : ∀ X, Keeps G0 X → aload X ⟨H.next, 0, none⟩ 9 = some [.int .i64 c.kind, .int .i64 c.tel, .int .i64 c.fil, .int .i64 c.at_, .int .i64 c.known, .int .i64 c.v0, .int .i64 c.v1, .int .i64 c.v2, .int .i64 c.v3] := fun X hX =>
    (aload_row ((hX.get _ (by omega)).trans gb0) (by simp [Cal.cells])).trans rfl
  have lb3 : ∀ X, Keeps G0 X → load1 X ⟨H.next, 3, none⟩ = some (.int .i64 c.at_) := fun X hX =>
    (l1_row _ _ _ _ _ ((hX.get _ (by omega)).trans gb0)).trans rfl
  cases hfew : decide ((l.length : Int) ≤ 20) with
  | false =>
    simp -implicitDefEqProofs (maxSteps := 2000000) (disch := first | omega | (simp only [nx_new, nx_set, List.length_cons, List.length_nil, List.length_map, List.length_set, ne_eq, not_true_eq_false, not_false_eq_true, Nat.succ_ne_zero]; done) | (simp only [nx_new, nx_set, List.length_cons, List.length_nil, List.length_map, List.length_set, ne_eq, not_true_eq_false, not_false_eq_true, Nat.succ_ne_zero]; omega)) only [go_sem, reduceIte, reduceCtorEq, Nat.succ_ne_zero, not_false_eq_true, decide_true, decide_false, Nat.reduceAdd, Nat.reduceMul, Nat.reduceEqDiff, Nat.reduceLeDiff]
    exact ret_r (v := .bool true) (by rw [ares_tmp ret8]; rfl) rfl
  | true =>
    have hl : l.length ≤ 20 := by have := of_decide_eq_true hfew; omega
    simp -implicitDefEqProofs (maxSteps := 2000000) (disch := first | omega | (simp only [nx_new, nx_set, List.length_cons, List.length_nil, List.length_map, List.length_set, ne_eq, not_true_eq_false, not_false_eq_true, Nat.succ_ne_zero]; done) | (simp only [nx_new, nx_set, List.length_cons, List.length_nil, List.length_map, List.length_set, ne_eq, not_true_eq_false, not_false_eq_true, Nat.succ_ne_zero]; omega)) only [go_sem, reduceIte, reduceCtorEq, Nat.succ_ne_zero, not_false_eq_true, decide_true, decide_false, Nat.reduceAdd, Nat.reduceMul, Nat.reduceEqDiff, Nat.reduceLeDiff, lb _ (Keeps.refl _)]
    refine ACalls.use_eq (hva _) ?_
    cases hok : c.ok with
    | false =>
      simp -implicitDefEqProofs (maxSteps := 2000000) (disch := first | omega | (simp only [nx_new, nx_set, List.length_cons, List.length_nil, List.length_map, List.length_set, ne_eq, not_true_eq_false, not_false_eq_true, Nat.succ_ne_zero]; done) | (simp only [nx_new, nx_set, List.length_cons, List.length_nil, List.length_map, List.length_set, ne_eq, not_true_eq_false, not_false_eq_true, Nat.succ_ne_zero]; omega)) only [go_sem, reduceIte, reduceCtorEq, Nat.succ_ne_zero, not_false_eq_true, decide_true, decide_false, Nat.reduceAdd, Nat.reduceMul, Nat.reduceEqDiff, Nat.reduceLeDiff]
      exact ret_r (v := .bool true) (by rw [ares_tmp ret8]; rfl) rfl
    | true =>
      obtain ⟨X1, e1⟩ : ∃ X, X = G0.new (.row [.int .i64 c.kind, .int .i64 c.tel, .int .i64 c.fil, .int .i64 c.at_, .int .i64 c.known, .int .i64 c.v0, .int .i64 c.v1, .int .i64 c.v2, .int .i64 c.v3] true 0) := ⟨_, rfl⟩
      rw [← e1]
      have kx1 : Keeps G0 X1 := by rw [e1]; exact Keeps.new _ _
      clear e1
      have K1 := (k01.trans k0).trans kx1
      have he1 := he.grows K1.grows
      have hx1 := kx1.next
      simp -implicitDefEqProofs (maxSteps := 2000000) (disch := first | omega | (simp only [nx_new, nx_set, List.length_cons, List.length_nil, List.length_map, List.length_set, ne_eq, not_true_eq_false, not_false_eq_true, Nat.succ_ne_zero]; done) | (simp only [nx_new, nx_set, List.length_cons, List.length_nil, List.length_map, List.length_set, ne_eq, not_true_eq_false, not_false_eq_true, Nat.succ_ne_zero]; omega)) only [go_sem, reduceIte, reduceCtorEq, Nat.succ_ne_zero, not_false_eq_true, decide_true, decide_false, Nat.reduceAdd, Nat.reduceMul, Nat.reduceEqDiff, Nat.reduceLeDiff]
      refine AWP_step ?_
      simp -implicitDefEqProofs (maxSteps := 2000000) (disch := first | omega | (simp only [nx_new, nx_set, List.length_cons, List.length_nil, List.length_map, List.length_set, ne_eq, not_true_eq_false, not_false_eq_true, Nat.succ_ne_zero]; done) | (simp only [nx_new, nx_set, List.length_cons, List.length_nil, List.length_map, List.length_set, ne_eq, not_true_eq_false, not_false_eq_true, Nat.succ_ne_zero]; omega)) only [go_sem, reduceIte, reduceCtorEq, Nat.succ_ne_zero, not_false_eq_true, decide_true, decide_false, Nat.reduceAdd, Nat.reduceMul, Nat.reduceEqDiff, Nat.reduceLeDiff]
      refine AWP_join (σ := Hp) (fun _ => [(18, .int .i64 (l.countP (later ⟨wk, wt, wf, wa, wn⟩ c))), (17, .bool true), (9, .pointer (some ⟨H.next, 0, none⟩)), (0, .slice a l.length l.length), (2, .int .i64 wk), (3, .int .i64 wt), (4, .int .i64 wf), (5, .int .i64 wa), (6, .int .i64 wn), (7, .int .u8 pl)]) (fun G => G) (fun G => Keeps X1 G) ?_ ?_
      · simp -implicitDefEqProofs (maxSteps := 2000000) (disch := first | omega | (simp only [nx_new, nx_set, List.length_cons, List.length_nil, List.length_map, List.length_set, ne_eq, not_true_eq_false, not_false_eq_true, Nat.succ_ne_zero]; done) | (simp only [nx_new, nx_set, List.length_cons, List.length_nil, List.length_map, List.length_set, ne_eq, not_true_eq_false, not_false_eq_true, Nat.succ_ne_zero]; omega)) only [go_sem, reduceIte, reduceCtorEq, Nat.succ_ne_zero, not_false_eq_true, decide_true, decide_false, Nat.reduceAdd, Nat.reduceMul, Nat.reduceEqDiff, Nat.reduceLeDiff]
        refine AWP_loop (σ := Nat × Hp) (fun s => [(19, .int .i64 s.1), (18, .int .i64 ((l.take s.1).countP (later ⟨wk, wt, wf, wa, wn⟩ c))), (17, .bool true), (9, .pointer (some ⟨H.next, 0, none⟩)), (0, .slice a l.length l.length), (2, .int .i64 wk), (3, .int .i64 wt), (4, .int .i64 wf), (5, .int .i64 wa), (6, .int .i64 wn), (7, .int .u8 pl)]) (fun s => s.2)
          (fun s => s.1 ≤ l.length ∧ Keeps X1 s.2) (fun s => l.length - s.1) (0, X1) ⟨Nat.zero_le _, Keeps.refl _⟩ (Weak.sub ?_) ?_
        · simp only [List.take_zero, List.countP_nil]
          (simp -implicitDefEqProofs (disch := omega) only [Abs.Sub, get_cons_eq, get_cons_ne, and_self, Option.some.injEq, Value.int.injEq, Value.slice.injEq, true_and, and_true, Int.natCast_zero, Int.natCast_add, Int.natCast_one, List.length_nil]; try omega)
        rintro ⟨i, G⟩ ⟨hi, hk⟩
        simp only at hi hk ⊢
        refine AWP_of_awp ?_
        have hcl := List.countP_le_length (p := later ⟨wk, wt, wf, wa, wn⟩ c) (l := l.take i)
        rw [List.length_take] at hcl
        by_cases hlt : i < l.length
        · obtain ⟨b0, o0, rfl, hload⟩ := cal_at (he1.grows hk.grows) i hlt
          have hcs : (l.take (i + 1)).countP (later ⟨wk, wt, wf, wa, wn⟩ c) = (l.take i).countP (later ⟨wk, wt, wf, wa, wn⟩ c) + if later ⟨wk, wt, wf, wa, wn⟩ c l[i] then 1 else 0 := by
            rw [List.take_succ_eq_append_getElem hlt, List.countP_append]; simp [List.countP_cons]
          have hat : ∀ X, Keeps X1 X → load1 X ⟨b0, o0 + i * 9 + 3, none⟩ = some (.int .i64 l[i].at_) := fun X hX => by
            obtain ⟨b', o', e', hl'⟩ := cal_at (he1.grows hX.grows) i hlt
            cases e'
            exact (load1_part hl' (i := 3) (by decide)).trans rfl
          generalize l[i] = x at *
          have hax := hap G x
          rw [Cal.cells] at hload
          obtain ⟨M, eM⟩ : ∃ X, X = G.new (.row [.int .i64 x.kind, .int .i64 x.tel, .int .i64 x.fil, .int .i64 x.at_, .int .i64 x.known, .int .i64 x.v0, .int .i64 x.v1, .int .i64 x.v2, .int .i64 x.v3] true 0) := ⟨_, rfl⟩
          rw [← eM] at hax
          have kM : Keeps G M := by rw [eM]; exact Keeps.new _ _
          clear eM
          have kg := kM.grows
          have a1 := hat M (hk.trans kM)
          have a2 := lb3 M ((kx1.trans hk).trans kM)
          simp -implicitDefEqProofs (maxSteps := 2000000) (disch := first | omega | (simp only [nx_new, nx_set, List.length_cons, List.length_nil, List.length_map, List.length_set, ne_eq, not_true_eq_false, not_false_eq_true, Nat.succ_ne_zero]; done) | (simp only [nx_new, nx_set, List.length_cons, List.length_nil, List.length_map, List.length_set, ne_eq, not_true_eq_false, not_false_eq_true, Nat.succ_ne_zero]; omega)) only [go_sem, reduceIte, reduceCtorEq, Nat.succ_ne_zero, not_false_eq_true, decide_true, decide_false, Nat.reduceAdd, Nat.reduceMul, Nat.reduceEqDiff, Nat.reduceLeDiff]
          refine AWP_draw_fast mo (by kernel_rfl) ?_
          simp -implicitDefEqProofs (maxSteps := 2000000) (disch := first | omega | (simp only [nx_new, nx_set, List.length_cons, List.length_nil, List.length_map, List.length_set, ne_eq, not_true_eq_false, not_false_eq_true, Nat.succ_ne_zero]; done) | (simp only [nx_new, nx_set, List.length_cons, List.length_nil, List.length_map, List.length_set, ne_eq, not_true_eq_false, not_false_eq_true, Nat.succ_ne_zero]; omega)) only [go_sem, reduceIte, reduceCtorEq, Nat.succ_ne_zero, not_false_eq_true, decide_true, decide_false, Nat.reduceAdd, Nat.reduceMul, Nat.reduceEqDiff, Nat.reduceLeDiff, hload]
          refine ACalls.use_eq hax ?_
          cases hwa : Want.app ⟨wk, wt, wf, wa, wn⟩ x with
          | false =>
            rw [later, hwa, Bool.false_and, if_neg (by decide)] at hcs
            simp -implicitDefEqProofs (maxSteps := 2000000) (disch := first | omega | (simp only [nx_new, nx_set, List.length_cons, List.length_nil, List.length_map, List.length_set, ne_eq, not_true_eq_false, not_false_eq_true, Nat.succ_ne_zero]; done) | (simp only [nx_new, nx_set, List.length_cons, List.length_nil, List.length_map, List.length_set, ne_eq, not_true_eq_false, not_false_eq_true, Nat.succ_ne_zero]; omega)) only [go_sem, reduceIte, reduceCtorEq, Nat.succ_ne_zero, not_false_eq_true, decide_true, decide_false, Nat.reduceAdd, Nat.reduceMul, Nat.reduceEqDiff, Nat.reduceLeDiff, kg]
            exact ⟨(i + 1, M), ⟨hlt, hk.trans kM⟩, by simp only; omega, Weak.sub (by simp only [hcs, Nat.add_zero]; (simp -implicitDefEqProofs (disch := omega) only [Abs.Sub, get_cons_eq, get_cons_ne, and_self, Option.some.injEq, Value.int.injEq, Value.slice.injEq, true_and, and_true, Int.natCast_zero, Int.natCast_add, Int.natCast_one, List.length_nil]; try omega))⟩
          | true =>
            by_cases hgt : c.at_ < x.at_
            · have d1 : decide (c.at_ < x.at_) = true := decide_eq_true hgt
              rw [later, hwa, d1, Bool.true_and, if_pos rfl] at hcs
              simp -implicitDefEqProofs (maxSteps := 2000000) (disch := first | omega | (simp only [nx_new, nx_set, List.length_cons, List.length_nil, List.length_map, List.length_set, ne_eq, not_true_eq_false, not_false_eq_true, Nat.succ_ne_zero]; done) | (simp only [nx_new, nx_set, List.length_cons, List.length_nil, List.length_map, List.length_set, ne_eq, not_true_eq_false, not_false_eq_true, Nat.succ_ne_zero]; omega)) only [go_sem, reduceIte, reduceCtorEq, Nat.succ_ne_zero, not_false_eq_true, decide_true, decide_false, Nat.reduceAdd, Nat.reduceMul, Nat.reduceEqDiff, Nat.reduceLeDiff, kg, a1, a2, d1]
              exact ⟨(i + 1, M), ⟨hlt, hk.trans kM⟩, by simp only; omega, Weak.sub (by simp only [hcs]; (simp -implicitDefEqProofs (disch := omega) only [Abs.Sub, get_cons_eq, get_cons_ne, and_self, Option.some.injEq, Value.int.injEq, Value.slice.injEq, true_and, and_true, Int.natCast_zero, Int.natCast_add, Int.natCast_one, List.length_nil]; try omega))⟩
            · have d1 : decide (c.at_ < x.at_) = false := decide_eq_false hgt
              rw [later, hwa, d1, Bool.true_and, if_neg (by decide)] at hcs
              simp -implicitDefEqProofs (maxSteps := 2000000) (disch := first | omega | (simp only [nx_new, nx_set, List.length_cons, List.length_nil, List.length_map, List.length_set, ne_eq, not_true_eq_false, not_false_eq_true, Nat.succ_ne_zero]; done) | (simp only [nx_new, nx_set, List.length_cons, List.length_nil, List.length_map, List.length_set, ne_eq, not_true_eq_false, not_false_eq_true, Nat.succ_ne_zero]; omega)) only [go_sem, reduceIte, reduceCtorEq, Nat.succ_ne_zero, not_false_eq_true, decide_true, decide_false, Nat.reduceAdd, Nat.reduceMul, Nat.reduceEqDiff, Nat.reduceLeDiff, kg, a1, a2, d1]
              exact ⟨(i + 1, M), ⟨hlt, hk.trans kM⟩, by simp only; omega, Weak.sub (by simp only [hcs, Nat.add_zero]; (simp -implicitDefEqProofs (disch := omega) only [Abs.Sub, get_cons_eq, get_cons_ne, and_self, Option.some.injEq, Value.int.injEq, Value.slice.injEq, true_and, and_true, Int.natCast_zero, Int.natCast_add, Int.natCast_one, List.length_nil]; try omega))⟩
        · obtain rfl : i = l.length := by omega
          rw [List.take_of_length_le (Nat.le_refl _)]
          simp -implicitDefEqProofs (maxSteps := 2000000) (disch := first | omega | (simp only [nx_new, nx_set, List.length_cons, List.length_nil, List.length_map, List.length_set, ne_eq, not_true_eq_false, not_false_eq_true, Nat.succ_ne_zero]; done) | (simp only [nx_new, nx_set, List.length_cons, List.length_nil, List.length_map, List.length_set, ne_eq, not_true_eq_false, not_false_eq_true, Nat.succ_ne_zero]; omega)) only [go_sem, reduceIte, reduceCtorEq, Nat.succ_ne_zero, not_false_eq_true, decide_true, decide_false, Nat.reduceAdd, Nat.reduceMul, Nat.reduceEqDiff, Nat.reduceLeDiff]
          exact ⟨G, hk, Weak.sub (by (simp -implicitDefEqProofs (disch := omega) only [Abs.Sub, get_cons_eq, get_cons_ne, and_self, Option.some.injEq, Value.int.injEq, Value.slice.injEq, true_and, and_true, Int.natCast_zero, Int.natCast_add, Int.natCast_one, List.length_nil]; try omega))⟩
      rintro X2 k12
      have kx2 := kx1.trans k12
      have K2 := (k01.trans k0).trans kx2
      have hx2 := k12.next
      refine AWP_step ?_
      simp -implicitDefEqProofs (maxSteps := 2000000) (disch := first | omega | (simp only [nx_new, nx_set, List.length_cons, List.length_nil, List.length_map, List.length_set, ne_eq, not_true_eq_false, not_false_eq_true, Nat.succ_ne_zero]; done) | (simp only [nx_new, nx_set, List.length_cons, List.length_nil, List.length_map, List.length_set, ne_eq, not_true_eq_false, not_false_eq_true, Nat.succ_ne_zero]; omega)) only [go_sem, reduceIte, reduceCtorEq, Nat.succ_ne_zero, not_false_eq_true, decide_true, decide_false, Nat.reduceAdd, Nat.reduceMul, Nat.reduceEqDiff, Nat.reduceLeDiff]
      refine condS_split (fun hc5 => ?_) (fun hc5 => ?_)
      · simp -implicitDefEqProofs (maxSteps := 2000000) (disch := first | omega | (simp only [nx_new, nx_set, List.length_cons, List.length_nil, List.length_map, List.length_set, ne_eq, not_true_eq_false, not_false_eq_true, Nat.succ_ne_zero]; done) | (simp only [nx_new, nx_set, List.length_cons, List.length_nil, List.length_map, List.length_set, ne_eq, not_true_eq_false, not_false_eq_true, Nat.succ_ne_zero]; omega)) only [go_sem, reduceIte, reduceCtorEq, Nat.succ_ne_zero, not_false_eq_true, decide_true, decide_false, Nat.reduceAdd, Nat.reduceMul, Nat.reduceEqDiff, Nat.reduceLeDiff, hc5]
        exact ret_r (v := .bool true) (by rw [ares_tmp ret8]; rfl) rfl
      have h5 : 5 ≤ l.countP (later ⟨wk, wt, wf, wa, wn⟩ c) := by have := of_decide_eq_false hc5; omega
      have cv1 : aconv Try.prog 5 3 (.int .u8 pl) = some (.int .i64 pl) := by simp [aconv, u5, u3, wrap_i64 (show -9223372036854775808 ≤ pl by omega) (show pl ≤ 9223372036854775807 by omega)]
      obtain ⟨k, hkl, hk0⟩ : ∃ k : Nat, k ≤ l.length ∧ pl.tmod ((l.length : Int) + 1) = (k : Int) := by
        have h1 := Int.tmod_nonneg ((l.length : Int) + 1) hw2.1
        have h2 := Int.tmod_lt_of_pos pl (show (0 : Int) < (l.length : Int) + 1 by omega)
        exact ⟨(pl.tmod ((l.length : Int) + 1)).toNat, by omega, by omega⟩
      have hz0 : (l.length : Int) + 1 ≠ 0 := by omega
      have he2 := he.grows K2.grows
      have hcut2 : CutS X2 a 9 l.length := hcut.grows fun b o ha hm => by
        obtain ⟨b', o', e', hb', _⟩ := he 0 (by simpa using Nat.pos_of_ne_zero hm)
        rw [ha] at e'; cases e'
        exact K2.get _ hb'
      obtain ⟨T, D, hT, hD, lT, lD, oT, oD, hs1, hs2, ha1, ha2⟩ := parts_of he2 hcut2 hkl
      have lb2 : ∀ X, Keeps X2 X → aload X ⟨H.next, 0, none⟩ 9 = some [.int .i64 c.kind, .int .i64 c.tel, .int .i64 c.fil, .int .i64 c.at_, .int .i64 c.known, .int .i64 c.v0, .int .i64 c.v1, .int .i64 c.v2, .int .i64 c.v3] := fun X hX => lb X (kx2.trans hX)
      have eL : k + 1 + (l.length - k) = l.length + 1 := by omega
      simp -implicitDefEqProofs (maxSteps := 2000000) (disch := first | omega | (simp only [nx_new, nx_set, List.length_cons, List.length_nil, List.length_map, List.length_set, ne_eq, not_true_eq_false, not_false_eq_true, Nat.succ_ne_zero]; done) | (simp only [nx_new, nx_set, List.length_cons, List.length_nil, List.length_map, List.length_set, ne_eq, not_true_eq_false, not_false_eq_true, Nat.succ_ne_zero]; omega)) only [go_sem, reduceIte, reduceCtorEq, Nat.succ_ne_zero, not_false_eq_true, decide_true, decide_false, Nat.reduceAdd, Nat.reduceMul, Nat.reduceEqDiff, Nat.reduceLeDiff, hc5]
      refine AWP_step ?_
      simp -implicitDefEqProofs (maxSteps := 2000000) (disch := first | omega | (simp only [nx_new, nx_set, List.length_cons, List.length_nil, List.length_map, List.length_set, ne_eq, not_true_eq_false, not_false_eq_true, Nat.succ_ne_zero]; done) | (simp only [nx_new, nx_set, List.length_cons, List.length_nil, List.length_map, List.length_set, ne_eq, not_true_eq_false, not_false_eq_true, Nat.succ_ne_zero]; omega)) only [go_sem, reduceIte, reduceCtorEq, Nat.succ_ne_zero, not_false_eq_true, decide_true, decide_false, Nat.reduceAdd, Nat.reduceMul, Nat.reduceEqDiff, Nat.reduceLeDiff, cv1, hk0]
      refine AWP_cut (σ := Nat) (fun q => [(21, .slice (some ⟨q, 0, none⟩) (k + 1 + (l.length - k)) (k + 1 + (l.length - k))), (17, .bool true), (0, .slice a l.length l.length), (2, .int .i64 wk), (3, .int .i64 wt), (4, .int .i64 wf), (5, .int .i64 wa), (6, .int .i64 wn)])
        (fun q G => Keeps X2 G ∧ q < G.next ∧ G.get q = .row (T ++ [.int .i64 c.kind, .int .i64 c.tel, .int .i64 c.fil, .int .i64 c.at_, .int .i64 c.known, .int .i64 c.v0, .int .i64 c.v1, .int .i64 c.v2, .int .i64 c.v3] ++ D) true 9) ?_ ?_
      · simp -implicitDefEqProofs (maxSteps := 2000000) (disch := first | omega | (simp only [nx_new, nx_set, List.length_cons, List.length_nil, List.length_map, List.length_set, ne_eq, not_true_eq_false, not_false_eq_true, Nat.succ_ne_zero]; done) | (simp only [nx_new, nx_set, List.length_cons, List.length_nil, List.length_map, List.length_set, ne_eq, not_true_eq_false, not_false_eq_true, Nat.succ_ne_zero]; omega)) only [go_sem, reduceIte, reduceCtorEq, Nat.succ_ne_zero, not_false_eq_true, decide_true, decide_false, Nat.reduceAdd, Nat.reduceMul, Nat.reduceEqDiff, Nat.reduceLeDiff]
        refine AWP_draw_tree (.list 1 (.list 2 (.list 3 (.list 8 (.list 9 (.fork (.cons 0 (.fork (.cons 4 (.list 5 (.fork (.cons 6 (.fork (.cons 7 (.list 10 (.list 11 (.list 12 .done))) (.cons 10 (.list 7 (.list 11 (.list 12 .done))) .nil))) (.cons 10 (.list 6 (.list 7 (.list 11 (.list 12 .done)))) .nil)))) (.cons 5 (.fork (.cons 4 (.fork (.cons 6 (.fork (.cons 7 (.list 10 (.list 11 (.list 12 .done))) (.cons 10 (.list 7 (.list 11 (.list 12 .done))) .nil))) (.cons 10 (.list 6 (.list 7 (.list 11 (.list 12 .done)))) .nil))) (.cons 6 (.fork (.cons 4 (.fork (.cons 7 (.list 10 (.list 11 (.list 12 .done))) (.cons 10 (.list 7 (.list 11 (.list 12 .done))) .nil))) (.cons 10 (.list 4 (.list 7 (.list 11 (.list 12 .done)))) .nil))) (.cons 10 (.fork (.cons 4 (.list 6 (.list 7 (.list 11 (.list 12 .done)))) (.cons 6 (.list 4 (.list 7 (.list 11 (.list 12 .done)))) .nil))) .nil)))) (.cons 10 (.fork (.cons 4 (.list 5 (.list 6 (.list 7 (.list 11 (.list 12 .done))))) (.cons 5 (.fork (.cons 4 (.list 6 (.list 7 (.list 11 (.list 12 .done)))) (.cons 6 (.list 4 (.list 7 (.list 11 (.list 12 .done)))) .nil))) .nil))) .nil)))) (.cons 5 (.fork (.cons 0 (.fork (.cons 4 (.fork (.cons 6 (.fork (.cons 7 (.list 10 (.list 11 (.list 12 .done))) (.cons 10 (.list 7 (.list 11 (.list 12 .done))) .nil))) (.cons 10 (.list 6 (.list 7 (.list 11 (.list 12 .done)))) .nil))) (.cons 6 (.fork (.cons 4 (.fork (.cons 7 (.list 10 (.list 11 (.list 12 .done))) (.cons 10 (.list 7 (.list 11 (.list 12 .done))) .nil))) (.cons 10 (.list 4 (.list 7 (.list 11 (.list 12 .done)))) .nil))) (.cons 10 (.fork (.cons 4 (.list 6 (.list 7 (.list 11 (.list 12 .done)))) (.cons 6 (.list 4 (.list 7 (.list 11 (.list 12 .done)))) .nil))) .nil)))) (.cons 6 (.fork (.cons 0 (.fork (.cons 4 (.fork (.cons 7 (.list 10 (.list 11 (.list 12 .done))) (.cons 10 (.list 7 (.list 11 (.list 12 .done))) .nil))) (.cons 10 (.list 4 (.list 7 (.list 11 (.list 12 .done)))) .nil))) (.cons 10 (.list 0 (.list 4 (.list 7 (.list 11 (.list 12 .done))))) .nil))) (.cons 10 (.fork (.cons 0 (.fork (.cons 4 (.list 6 (.list 7 (.list 11 (.list 12 .done)))) (.cons 6 (.list 4 (.list 7 (.list 11 (.list 12 .done)))) .nil))) (.cons 6 (.list 0 (.list 4 (.list 7 (.list 11 (.list 12 .done))))) .nil))) .nil)))) (.cons 10 (.fork (.cons 0 (.fork (.cons 4 (.list 5 (.list 6 (.list 7 (.list 11 (.list 12 .done))))) (.cons 5 (.fork (.cons 4 (.list 6 (.list 7 (.list 11 (.list 12 .done)))) (.cons 6 (.list 4 (.list 7 (.list 11 (.list 12 .done)))) .nil))) .nil))) (.cons 5 (.fork (.cons 0 (.fork (.cons 4 (.list 6 (.list 7 (.list 11 (.list 12 .done)))) (.cons 6 (.list 4 (.list 7 (.list 11 (.list 12 .done)))) .nil))) (.cons 6 (.list 0 (.list 4 (.list 7 (.list 11 (.list 12 .done))))) .nil))) .nil))) .nil))))))))) mo (by kernel_rfl) ?_
        simp -implicitDefEqProofs (maxSteps := 4000000) (disch := first | omega | assumption | (simp only [nx_new, nx_set, List.length_cons, List.length_nil, List.length_map, List.length_set, ne_eq, not_true_eq_false, not_false_eq_true, Nat.succ_ne_zero, List.length_append, List.all_cons, List.all_nil, one_int, one_bool, Bool.and_self, Bool.and_true]; done) | (simp only [nx_new, nx_set, List.length_cons, List.length_nil, List.length_map, List.length_set, ne_eq, not_true_eq_false, not_false_eq_true, Nat.succ_ne_zero, List.length_append]; omega) | (repeat (first | exact Keeps.refl _ | assumption | refine Keeps.newR ?_ | refine Keeps.setR ?_ (by (simp only [Hp.next_new, Hp.next_set]; omega))))) only [go_sem, reduceIte, reduceCtorEq, Nat.succ_ne_zero, not_false_eq_true, decide_true, decide_false, Nat.reduceAdd, Nat.reduceMul, Nat.reduceEqDiff, Nat.reduceLeDiff, app22, appB_row, hs1, hs2, ha1, ha2, asource_pos, lb2]
        repeat' (with_reducible refine And.intro ?_ ?_)
        all_goals (refine ⟨X2.next + 1 + 1 + 1 + 1, ⟨?_, ?_, ?_⟩, ?_⟩; (focus (repeat (first | exact Keeps.refl _ | refine Keeps.newR ?_ | refine Keeps.setR ?_ (by (simp only [Hp.next_new, Hp.next_set]; omega))))); (focus ((try simp only [Hp.next_new, Hp.next_set]); omega)); (focus simp -implicitDefEqProofs (maxSteps := 4000000) (disch := first | omega | assumption | (simp only [nx_new, nx_set, List.length_cons, List.length_nil, List.length_map, List.length_set, ne_eq, not_true_eq_false, not_false_eq_true, Nat.succ_ne_zero, List.length_append, List.all_cons, List.all_nil, one_int, one_bool, Bool.and_self, Bool.and_true]; done) | (simp only [nx_new, nx_set, List.length_cons, List.length_nil, List.length_map, List.length_set, ne_eq, not_true_eq_false, not_false_eq_true, Nat.succ_ne_zero, List.length_append]; omega) | (repeat (first | exact Keeps.refl _ | assumption | refine Keeps.newR ?_ | refine Keeps.setR ?_ (by (simp only [Hp.next_new, Hp.next_set]; omega))))) only [go_sem, reduceIte, reduceCtorEq, Nat.succ_ne_zero, not_false_eq_true, decide_true, decide_false, Nat.reduceAdd, Nat.reduceMul, Nat.reduceEqDiff, Nat.reduceLeDiff]); (focus simp -implicitDefEqProofs (disch := omega) only [Abs.Sub, get_cons_eq, get_cons_ne, and_self, Int.natCast_zero, Int.natCast_add, Int.natCast_one]))
      · rintro q G ⟨kG, hqG, gq⟩
        have heq : T ++ [.int .i64 c.kind, .int .i64 c.tel, .int .i64 c.fil, .int .i64 c.at_, .int .i64 c.known, .int .i64 c.v0, .int .i64 c.v1, .int .i64 c.v2, .int .i64 c.v3] ++ D = ((insAt l k c).map Cal.cells).flatten := by
          rw [hT, hD, insAt, List.map_append, List.map_append, List.flatten_append, List.flatten_append]
          simp [Cal.cells]
        rw [heq] at gq
        have hem : Elems G (some ⟨q, 0, none⟩) 9 ((insAt l k c).map Cal.cells) := Elems.row hqG gq (cells_len _)
        have hml := ins_len (c := c) hkl
        rw [eL, ← hml]
        refine AWP_step ?_
        simp -implicitDefEqProofs (maxSteps := 2000000) (disch := first | omega | (simp only [nx_new, nx_set, List.length_cons, List.length_nil, List.length_map, List.length_set, ne_eq, not_true_eq_false, not_false_eq_true, Nat.succ_ne_zero]; done) | (simp only [nx_new, nx_set, List.length_cons, List.length_nil, List.length_map, List.length_set, ne_eq, not_true_eq_false, not_false_eq_true, Nat.succ_ne_zero]; omega)) only [go_sem, reduceIte, reduceCtorEq, Nat.succ_ne_zero, not_false_eq_true, decide_true, decide_false, Nat.reduceAdd, Nat.reduceMul, Nat.reduceEqDiff, Nat.reduceLeDiff]
        refine (master_spec G a l ⟨wk, wt, wf, wa, wn⟩ (by omega) (he2.grows kG.grows)).mono ?_
        rintro v1 G1 ⟨m1, kG1⟩
        obtain ⟨p0, p1, p2, p3, er, rfl⟩ := masterR_form m1
        simp only [pxs] at m1 ⊢
        simp -implicitDefEqProofs (maxSteps := 2000000) (disch := first | omega | (simp only [nx_new, nx_set, List.length_cons, List.length_nil, List.length_map, List.length_set, ne_eq, not_true_eq_false, not_false_eq_true, Nat.succ_ne_zero]; done) | (simp only [nx_new, nx_set, List.length_cons, List.length_nil, List.length_map, List.length_set, ne_eq, not_true_eq_false, not_false_eq_true, Nat.succ_ne_zero]; omega)) only [go_sem, reduceIte, reduceCtorEq, Nat.succ_ne_zero, not_false_eq_true, decide_true, decide_false, Nat.reduceAdd, Nat.reduceMul, Nat.reduceEqDiff, Nat.reduceLeDiff]
        refine AWP_step ?_
        simp -implicitDefEqProofs (maxSteps := 2000000) (disch := first | omega | (simp only [nx_new, nx_set, List.length_cons, List.length_nil, List.length_map, List.length_set, ne_eq, not_true_eq_false, not_false_eq_true, Nat.succ_ne_zero]; done) | (simp only [nx_new, nx_set, List.length_cons, List.length_nil, List.length_map, List.length_set, ne_eq, not_true_eq_false, not_false_eq_true, Nat.succ_ne_zero]; omega)) only [go_sem, reduceIte, reduceCtorEq, Nat.succ_ne_zero, not_false_eq_true, decide_true, decide_false, Nat.reduceAdd, Nat.reduceMul, Nat.reduceEqDiff, Nat.reduceLeDiff]
        refine (master_spec _ (some ⟨q, 0, none⟩) (insAt l k c) ⟨wk, wt, wf, wa, wn⟩ (by omega) ((hem.grows kG1.grows).grows (Grows.new _ _))).mono ?_
        rintro v2 G2 ⟨m2, kG2⟩
        have hgn : G1.next + 1 ≤ G2.next := kG2.next
        have hv : v2 = .tuple #[.agg #[.int .i64 p0, .int .i64 p1, .int .i64 p2, .int .i64 p3], .int .i64 er] := by
          cases happ : Want.app ⟨wk, wt, wf, wa, wn⟩ c with
          | false => exact masterR_unique (masterR_knows hok happ m2) m1
          | true => exact masterR_latest hkl hok happ h5 m1 m2
        subst hv
        have x2 : aload G2 ⟨G1.next, 0, none⟩ 4 = some [.int .i64 p0, .int .i64 p1, .int .i64 p2, .int .i64 p3] := (aload_row ((kG2.get _ (Nat.lt_succ_self _)).trans (Hp.get_new_same _ _ _ rfl)) (by simp)).trans rfl
        simp -implicitDefEqProofs (maxSteps := 2000000) (disch := first | omega | (simp only [nx_new, nx_set, List.length_cons, List.length_nil, List.length_map, List.length_set, ne_eq, not_true_eq_false, not_false_eq_true, Nat.succ_ne_zero]; done) | (simp only [nx_new, nx_set, List.length_cons, List.length_nil, List.length_map, List.length_set, ne_eq, not_true_eq_false, not_false_eq_true, Nat.succ_ne_zero]; omega)) only [go_sem, reduceIte, reduceCtorEq, Nat.succ_ne_zero, not_false_eq_true, decide_true, decide_false, Nat.reduceAdd, Nat.reduceMul, Nat.reduceEqDiff, Nat.reduceLeDiff, x2]
        refine AWP_of_awp ?_
        simp -implicitDefEqProofs (maxSteps := 2000000) (disch := first | omega | (simp only [nx_new, nx_set, List.length_cons, List.length_nil, List.length_map, List.length_set, ne_eq, not_true_eq_false, not_false_eq_true, Nat.succ_ne_zero]; done) | (simp only [nx_new, nx_set, List.length_cons, List.length_nil, List.length_map, List.length_set, ne_eq, not_true_eq_false, not_false_eq_true, Nat.succ_ne_zero]; omega)) only [go_sem, reduceIte, reduceCtorEq, Nat.succ_ne_zero, not_false_eq_true, decide_true, decide_false, Nat.reduceAdd, Nat.reduceMul, Nat.reduceEqDiff, Nat.reduceLeDiff, x2]
        exact ret_r (v := .bool true) (by rw [ares_tmp ret8]; rfl) rfl
end Go.Proofs.Ytejpfdhlpcgfkaa
