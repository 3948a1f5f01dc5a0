/- ContainsFunc at calibrations; the closures of Master; Backward. -/
import Derived.Test.YtejpfdhlpcgfkaaVc
set_option linter.unusedVariables false
set_option linter.unusedSimpArgs false
set_option linter.unusedSectionVars false
namespace Go.Proofs.Ytejpfdhlpcgfkaa
open Go.Abs
set_option maxHeartbeats 8000000
set_option maxRecDepth 100000
theorem cal_agg (c : Cal) : c.cells.toArray = #[.int .i64 c.kind, .int .i64 c.tel, .int .i64 c.fil, .int .i64 c.at_, .int .i64 c.known, .int .i64 c.v0, .int .i64 c.v1, .int .i64 c.v2, .int .i64 c.v3] := rfl
theorem n20 : Try.f20.ntmps = 6 := rfl
theorem ret20 : Try.f20.results = #[.tmp 2] := rfl
theorem notvalid_spec (H : Hp) (c : Cal) : ACalls Try.prog 20 [.agg c.cells.toArray] H (fun v H' => v = .bool (!c.ok) ∧ Keeps H H') := by
  have hv := fun G => valid_spec G c
  rw [cal_agg] at hv ⊢
  refine ACalls_enter Try.func20 (by kernel_rfl) rfl (by kernel_rfl) (by simp [n20]) fun hw hr => AWP_of_awp ?_
  simp -implicitDefEqProofs (maxSteps := 2000000) (disch := first | omega | (simp only [nx_new, nx_set, List.length_cons, List.length_nil, List.length_map, List.length_set, ne_eq, not_true_eq_false, not_false_eq_true, Nat.succ_ne_zero]; done) | (simp only [nx_new, nx_set, List.length_cons, List.length_nil, List.length_map, List.length_set, ne_eq, not_true_eq_false, not_false_eq_true, Nat.succ_ne_zero]; omega)) only [go_sem, reduceIte, reduceCtorEq, Nat.succ_ne_zero, not_false_eq_true, decide_true, decide_false, Nat.reduceAdd, Nat.reduceMul, Nat.reduceEqDiff, Nat.reduceLeDiff]
  refine (hv _).mono ?_
  rintro _ G ⟨rfl, hk⟩
  simp -implicitDefEqProofs (maxSteps := 2000000) (disch := first | omega | (simp only [nx_new, nx_set, List.length_cons, List.length_nil, List.length_map, List.length_set, ne_eq, not_true_eq_false, not_false_eq_true, Nat.succ_ne_zero]; done) | (simp only [nx_new, nx_set, List.length_cons, List.length_nil, List.length_map, List.length_set, ne_eq, not_true_eq_false, not_false_eq_true, Nat.succ_ne_zero]; omega)) only [go_sem, reduceIte, reduceCtorEq, Nat.succ_ne_zero, not_false_eq_true, decide_true, decide_false, Nat.reduceAdd, Nat.reduceMul, Nat.reduceEqDiff, Nat.reduceLeDiff]
  exact ret_r (v := .bool (!c.ok)) (by rw [ares_tmp ret20]; rfl) ⟨rfl, (Keeps.new _ _).trans hk⟩
theorem cal_at {G : Hp} {a : Option Addr} {xs : List Cal} (h : Elems G a 9 (xs.map Cal.cells)) (i : Nat) (hi : i < xs.length) : ∃ b o, a = some ⟨b, o, none⟩ ∧ aload G ⟨b, o + i * 9, none⟩ 9 = some xs[i].cells := by
  obtain ⟨b, o, e, _, hl⟩ := h i (by simpa using hi)
  simp only [List.getElem_map] at hl
  exact ⟨b, o, e, hl⟩
theorem n30 : Try.f30.ntmps = 19 := rfl
theorem ret30 : Try.f30.results = #[.tmp 4] := rfl
theorem index30_spec (H : Hp) (a : Option Addr) (l : List Cal) (hl : l.length ≤ 1000000) (he : Elems H a 9 (l.map Cal.cells)) :
    ACalls Try.prog 30 [.slice a l.length l.length, .func (.func 20) #[] #[]] H (fun v H' => (∃ k : Int, v = .int .i64 k ∧ decide (0 ≤ k) = l.any fun c => !c.ok) ∧ Keeps H H') := by
  refine ACalls_enter Try.func30 (by kernel_rfl) rfl (by kernel_rfl) (by simp [n30]) fun hw hr => AWP_of_awp ?_
  simp -implicitDefEqProofs (maxSteps := 2000000) (disch := first | omega | (simp only [nx_new, nx_set, List.length_cons, List.length_nil, List.length_map, List.length_set, ne_eq, not_true_eq_false, not_false_eq_true, Nat.succ_ne_zero]; done) | (simp only [nx_new, nx_set, List.length_cons, List.length_nil, List.length_map, List.length_set, ne_eq, not_true_eq_false, not_false_eq_true, Nat.succ_ne_zero]; omega)) only [go_sem, reduceIte, reduceCtorEq, Nat.succ_ne_zero, not_false_eq_true, decide_true, decide_false, Nat.reduceAdd, Nat.reduceMul, Nat.reduceEqDiff, Nat.reduceLeDiff]
  refine AWP_loop (σ := Nat × Hp) (fun s => [(8, .int .i64 s.1), (7, .int .i64 l.length), (0, .slice a l.length l.length), (1, .func (.func 20) #[] #[])]) (fun s => s.2) (fun s => s.1 ≤ l.length ∧ (l.take s.1).any (fun c => !c.ok) = false ∧ Keeps H s.2) (fun s => l.length - s.1) (0, H) ⟨Nat.zero_le _, rfl, Keeps.refl _⟩ (Weak.sub ?_) ?_
  · (simp -implicitDefEqProofs (disch := omega) only [Abs.Sub, get_cons_eq, get_cons_ne, and_self, Option.some.injEq, Value.int.injEq, Value.slice.injEq, true_and, and_true, Int.natCast_zero, Int.natCast_add, Int.natCast_one, List.length_nil]; try omega)
  · rintro ⟨k, G⟩ ⟨hk, hno, hkeep⟩
    simp only at hk hno hkeep ⊢
    refine AWP_of_awp ?_
    by_cases hlt : k < l.length
    · obtain ⟨b, o, rfl, hload⟩ := cal_at (he.grows hkeep.grows) k hlt
      have hc := notvalid_spec G l[k]
      have hmem : l[k] ∈ l := List.getElem_mem hlt
      have hat := @any_take _ (fun c : Cal => !c.ok) l k hlt hno
      generalize l[k] = c at *
      rw [cal_agg] at hc
      rw [Cal.cells] at hload
      simp -implicitDefEqProofs (maxSteps := 2000000) (disch := first | omega | (simp only [nx_new, nx_set, List.length_cons, List.length_nil, List.length_map, List.length_set, ne_eq, not_true_eq_false, not_false_eq_true, Nat.succ_ne_zero]; done) | (simp only [nx_new, nx_set, List.length_cons, List.length_nil, List.length_map, List.length_set, ne_eq, not_true_eq_false, not_false_eq_true, Nat.succ_ne_zero]; omega)) only [go_sem, reduceIte, reduceCtorEq, Nat.succ_ne_zero, not_false_eq_true, decide_true, decide_false, Nat.reduceAdd, Nat.reduceMul, Nat.reduceEqDiff, Nat.reduceLeDiff, hload]
      refine hc.mono ?_
      rintro _ G' ⟨rfl, hk'⟩
      cases hb : c.ok with
      | false =>
        simp -implicitDefEqProofs (maxSteps := 2000000) (disch := first | omega | (simp only [nx_new, nx_set, List.length_cons, List.length_nil, List.length_map, List.length_set, ne_eq, not_true_eq_false, not_false_eq_true, Nat.succ_ne_zero]; done) | (simp only [nx_new, nx_set, List.length_cons, List.length_nil, List.length_map, List.length_set, ne_eq, not_true_eq_false, not_false_eq_true, Nat.succ_ne_zero]; omega)) only [go_sem, reduceIte, reduceCtorEq, Nat.succ_ne_zero, not_false_eq_true, decide_true, decide_false, Nat.reduceAdd, Nat.reduceMul, Nat.reduceEqDiff, Nat.reduceLeDiff]
        refine ret_r (v := .int .i64 k) (by rw [ares_tmp ret30]; rfl) ⟨⟨k, rfl, ?_⟩, hkeep.trans hk'⟩
        rw [decide_eq_true (by omega)]
        exact (List.any_eq_true.2 ⟨_, hmem, by rw [hb]; rfl⟩).symm
      | true =>
        simp -implicitDefEqProofs (maxSteps := 2000000) (disch := first | omega | (simp only [nx_new, nx_set, List.length_cons, List.length_nil, List.length_map, List.length_set, ne_eq, not_true_eq_false, not_false_eq_true, Nat.succ_ne_zero]; done) | (simp only [nx_new, nx_set, List.length_cons, List.length_nil, List.length_map, List.length_set, ne_eq, not_true_eq_false, not_false_eq_true, Nat.succ_ne_zero]; omega)) only [go_sem, reduceIte, reduceCtorEq, Nat.succ_ne_zero, not_false_eq_true, decide_true, decide_false, Nat.reduceAdd, Nat.reduceMul, Nat.reduceEqDiff, Nat.reduceLeDiff]
        exact ⟨(k + 1, G'), ⟨hlt, hat (by rw [hb]; rfl), hkeep.trans hk'⟩, by (first | omega | (simp only; omega)), Weak.sub (by (simp -implicitDefEqProofs (disch := omega) only [Abs.Sub, get_cons_eq, get_cons_ne, and_self, Option.some.injEq, Value.int.injEq, Value.slice.injEq, true_and, and_true, Int.natCast_zero, Int.natCast_add, Int.natCast_one, List.length_nil]; try omega))⟩
    · have hke : k = l.length := by omega
      subst hke
      rw [List.take_of_length_le (Nat.le_refl _)] at hno
      simp -implicitDefEqProofs (maxSteps := 2000000) (disch := first | omega | (simp only [nx_new, nx_set, List.length_cons, List.length_nil, List.length_map, List.length_set, ne_eq, not_true_eq_false, not_false_eq_true, Nat.succ_ne_zero]; done) | (simp only [nx_new, nx_set, List.length_cons, List.length_nil, List.length_map, List.length_set, ne_eq, not_true_eq_false, not_false_eq_true, Nat.succ_ne_zero]; omega)) only [go_sem, reduceIte, reduceCtorEq, Nat.succ_ne_zero, not_false_eq_true, decide_true, decide_false, Nat.reduceAdd, Nat.reduceMul, Nat.reduceEqDiff, Nat.reduceLeDiff]
      exact ret_r (v := .int .i64 (-1)) (by rw [ares_tmp ret30]; rfl) ⟨⟨-1, rfl, by rw [hno]; rfl⟩, hkeep⟩
theorem n19 : Try.f19.ntmps = 9 := rfl
theorem ret19 : Try.f19.results = #[.tmp 4] := rfl
theorem contains19_spec (H : Hp) (a : Option Addr) (l : List Cal) (hl : l.length ≤ 1000000) (he : Elems H a 9 (l.map Cal.cells)) :
    ACalls Try.prog 19 [.slice a l.length l.length, .func (.func 20) #[] #[]] H (fun v H' => v = .bool (l.any fun c => !c.ok) ∧ Keeps H H') := by
  refine ACalls_enter Try.func19 (by kernel_rfl) rfl (by kernel_rfl) (by simp [n19]) fun hw hr => AWP_of_awp ?_
  simp -implicitDefEqProofs (maxSteps := 2000000) (disch := first | omega | (simp only [nx_new, nx_set, List.length_cons, List.length_nil, List.length_map, List.length_set, ne_eq, not_true_eq_false, not_false_eq_true, Nat.succ_ne_zero]; done) | (simp only [nx_new, nx_set, List.length_cons, List.length_nil, List.length_map, List.length_set, ne_eq, not_true_eq_false, not_false_eq_true, Nat.succ_ne_zero]; omega)) only [go_sem, reduceIte, reduceCtorEq, Nat.succ_ne_zero, not_false_eq_true, decide_true, decide_false, Nat.reduceAdd, Nat.reduceMul, Nat.reduceEqDiff, Nat.reduceLeDiff]
  refine (index30_spec H a l hl he).mono ?_
  rintro _ G ⟨⟨k, rfl, hk⟩, hkeep⟩
  simp -implicitDefEqProofs (maxSteps := 2000000) (disch := first | omega | (simp only [nx_new, nx_set, List.length_cons, List.length_nil, List.length_map, List.length_set, ne_eq, not_true_eq_false, not_false_eq_true, Nat.succ_ne_zero]; done) | (simp only [nx_new, nx_set, List.length_cons, List.length_nil, List.length_map, List.length_set, ne_eq, not_true_eq_false, not_false_eq_true, Nat.succ_ne_zero]; omega)) only [go_sem, reduceIte, reduceCtorEq, Nat.succ_ne_zero, not_false_eq_true, decide_true, decide_false, Nat.reduceAdd, Nat.reduceMul, Nat.reduceEqDiff, Nat.reduceLeDiff]
  exact ret_r (v := .bool (decide (0 ≤ k))) (by rw [ares_tmp ret19]; rfl) ⟨by rw [hk], hkeep⟩

/-! ### the closures of Master -/
structure Want where
  kind : Int
  tel : Int
  fil : Int
  at_ : Int
  known : Int
def Want.app (w : Want) (c : Cal) : Bool := ((c.kind == w.kind) && ((c.tel == w.tel) && (c.fil == w.fil))) && decide (c.at_ ≤ w.at_) && decide (c.known ≤ w.known)
theorem n22 : Try.f22.ntmps = 27 := rfl
theorem ret22 : Try.f22.results = #[.tmp 5] := rfl
theorem applies_spec (H : Hp) (c : Cal) (w : Want) (p q r : Nat) (hp : H.get p = .row [.int .i64 w.at_] true 0) (hq : H.get q = .row [.int .i64 w.kind, .int .i64 w.tel, .int .i64 w.fil, .int .i64 w.at_] true 0) (hr : H.get r = .row [.int .i64 w.known] true 0) :
    ACalls Try.prog 22 [.agg c.cells.toArray, .pointer (some ⟨p, 0, none⟩), .pointer (some ⟨q, 0, none⟩), .pointer (some ⟨r, 0, none⟩)] H (fun v H' => v = .bool (w.app c) ∧ Keeps H H') := by
  rw [cal_agg]
  obtain ⟨kind, tel, fil, at_, known, v0, v1, v2, v3⟩ := c
  obtain ⟨wk, wt, wf, wa, wn⟩ := w
  refine ACalls_enter Try.func22 (by kernel_rfl) rfl (by kernel_rfl) (by simp [n22]) fun hw hr => AWP_of_awp ?_
  have hpn := (hw _ _ _ _ hp).1
  have hqn := (hw _ _ _ _ hq).1
  have hrn := (hw _ _ _ _ ‹H.get r = _›).1
  have lp : load1 H ⟨p, 0, none⟩ = some (.int .i64 wa) := (l1_row _ _ _ _ _ hp).trans rfl
  have lr : load1 H ⟨r, 0, none⟩ = some (.int .i64 wn) := (l1_row _ _ _ _ _ ‹H.get r = _›).trans rfl
  have lq : aload H ⟨q, 0, none⟩ 4 = some [.int .i64 wk, .int .i64 wt, .int .i64 wf, .int .i64 wa] := (aload_row hq (by simp)).trans rfl
  have kp : Keeps H ((H.new (.row [.int .i64 kind, .int .i64 tel, .int .i64 fil, .int .i64 at_, .int .i64 known, .int .i64 v0, .int .i64 v1, .int .i64 v2, .int .i64 v3] true 0)).new (.row [.int .i64 kind, .int .i64 tel, .int .i64 fil, .int .i64 wa] true 0)) := (Keeps.new _ _).trans (Keeps.new _ _)
  simp -implicitDefEqProofs (maxSteps := 2000000) (disch := first | omega | (simp only [nx_new, nx_set, List.length_cons, List.length_nil, List.length_map, List.length_set, ne_eq, not_true_eq_false, not_false_eq_true, Nat.succ_ne_zero]; done) | (simp only [nx_new, nx_set, List.length_cons, List.length_nil, List.length_map, List.length_set, ne_eq, not_true_eq_false, not_false_eq_true, Nat.succ_ne_zero]; omega)) only [go_sem, reduceIte, reduceCtorEq, Nat.succ_ne_zero, not_false_eq_true, decide_true, decide_false, Nat.reduceAdd, Nat.reduceMul, Nat.reduceEqDiff, Nat.reduceLeDiff, lp, lq, lr]
  refine guardS_split (fun c1 => ?_) (fun c1 => ?_)
  rotate_left
  · simp -implicitDefEqProofs (maxSteps := 2000000) (disch := first | omega | (simp only [nx_new, nx_set, List.length_cons, List.length_nil, List.length_map, List.length_set, ne_eq, not_true_eq_false, not_false_eq_true, Nat.succ_ne_zero]; done) | (simp only [nx_new, nx_set, List.length_cons, List.length_nil, List.length_map, List.length_set, ne_eq, not_true_eq_false, not_false_eq_true, Nat.succ_ne_zero]; omega)) only [go_sem, reduceIte, reduceCtorEq, Nat.succ_ne_zero, not_false_eq_true, decide_true, decide_false, Nat.reduceAdd, Nat.reduceMul, Nat.reduceEqDiff, Nat.reduceLeDiff, c1]
    exact ret_r (v := .bool false) (by rw [ares_tmp ret22]; rfl) ⟨by simp only [Want.app, c1, Bool.false_and], kp⟩
  simp -implicitDefEqProofs (maxSteps := 2000000) (disch := first | omega | (simp only [nx_new, nx_set, List.length_cons, List.length_nil, List.length_map, List.length_set, ne_eq, not_true_eq_false, not_false_eq_true, Nat.succ_ne_zero]; done) | (simp only [nx_new, nx_set, List.length_cons, List.length_nil, List.length_map, List.length_set, ne_eq, not_true_eq_false, not_false_eq_true, Nat.succ_ne_zero]; omega)) only [go_sem, reduceIte, reduceCtorEq, Nat.succ_ne_zero, not_false_eq_true, decide_true, decide_false, Nat.reduceAdd, Nat.reduceMul, Nat.reduceEqDiff, Nat.reduceLeDiff, c1, lp]
  refine guardS_split (fun c2 => ?_) (fun c2 => ?_)
  rotate_left
  · simp -implicitDefEqProofs (maxSteps := 2000000) (disch := first | omega | (simp only [nx_new, nx_set, List.length_cons, List.length_nil, List.length_map, List.length_set, ne_eq, not_true_eq_false, not_false_eq_true, Nat.succ_ne_zero]; done) | (simp only [nx_new, nx_set, List.length_cons, List.length_nil, List.length_map, List.length_set, ne_eq, not_true_eq_false, not_false_eq_true, Nat.succ_ne_zero]; omega)) only [go_sem, reduceIte, reduceCtorEq, Nat.succ_ne_zero, not_false_eq_true, decide_true, decide_false, Nat.reduceAdd, Nat.reduceMul, Nat.reduceEqDiff, Nat.reduceLeDiff, c2]
    exact ret_r (v := .bool false) (by rw [ares_tmp ret22]; rfl) ⟨by simp only [Want.app, c2, Bool.and_false, Bool.false_and], kp⟩
  simp -implicitDefEqProofs (maxSteps := 2000000) (disch := first | omega | (simp only [nx_new, nx_set, List.length_cons, List.length_nil, List.length_map, List.length_set, ne_eq, not_true_eq_false, not_false_eq_true, Nat.succ_ne_zero]; done) | (simp only [nx_new, nx_set, List.length_cons, List.length_nil, List.length_map, List.length_set, ne_eq, not_true_eq_false, not_false_eq_true, Nat.succ_ne_zero]; omega)) only [go_sem, reduceIte, reduceCtorEq, Nat.succ_ne_zero, not_false_eq_true, decide_true, decide_false, Nat.reduceAdd, Nat.reduceMul, Nat.reduceEqDiff, Nat.reduceLeDiff, c2, lr]
  exact ret_r (v := .bool (decide (known ≤ wn))) (by rw [ares_tmp ret22]; rfl) ⟨by simp only [Want.app, c1, c2, Bool.true_and], kp⟩
theorem n25 : Try.f25.ntmps = 12 := rfl
theorem ret25 : Try.f25.results = #[.tmp 4] := rfl
theorem later_spec (H : Hp) (c d : Cal) : ACalls Try.prog 25 [.agg c.cells.toArray, .agg d.cells.toArray] H (fun v H' => v = .int .i64 (IntKind.i64.wrap (d.at_ - c.at_)) ∧ Keeps H H') := by
  rw [cal_agg, cal_agg]
  refine ACalls_enter Try.func25 (by kernel_rfl) rfl (by kernel_rfl) (by simp [n25]) fun hw hr => AWP_of_awp ?_
  simp -implicitDefEqProofs (maxSteps := 2000000) (disch := first | omega | (simp only [nx_new, nx_set, List.length_cons, List.length_nil, List.length_map, List.length_set, ne_eq, not_true_eq_false, not_false_eq_true, Nat.succ_ne_zero]; done) | (simp only [nx_new, nx_set, List.length_cons, List.length_nil, List.length_map, List.length_set, ne_eq, not_true_eq_false, not_false_eq_true, Nat.succ_ne_zero]; omega)) only [go_sem, reduceIte, reduceCtorEq, Nat.succ_ne_zero, not_false_eq_true, decide_true, decide_false, Nat.reduceAdd, Nat.reduceMul, Nat.reduceEqDiff, Nat.reduceLeDiff]
  exact ret_r (v := .int .i64 (IntKind.i64.wrap (d.at_ - c.at_))) (by rw [ares_tmp ret25]; rfl) ⟨rfl, (Keeps.new _ _).trans (Keeps.new _ _)⟩

/-! ### Backward -/
theorem n23 : Try.f23.ntmps = 4 := rfl
theorem ret23 : Try.f23.results = #[.tmp 2] := rfl
theorem backward_spec (H : Hp) (a : Option Addr) (n : Nat) :
    ACalls Try.prog 23 [.slice a n n] H (fun v H' => v = .func (.func 34) #[] #[.pointer (some ⟨H.next, 0, none⟩)] ∧ H' = H.new (.row [.slice a n n] true 0)) := by
  refine ACalls_enter Try.func23 (by kernel_rfl) rfl (by kernel_rfl) (by simp [n23]) fun hw hr => AWP_of_awp ?_
  simp -implicitDefEqProofs (maxSteps := 2000000) (disch := first | omega | (simp only [nx_new, nx_set, List.length_cons, List.length_nil, List.length_map, List.length_set, ne_eq, not_true_eq_false, not_false_eq_true, Nat.succ_ne_zero]; done) | (simp only [nx_new, nx_set, List.length_cons, List.length_nil, List.length_map, List.length_set, ne_eq, not_true_eq_false, not_false_eq_true, Nat.succ_ne_zero]; omega)) only [go_sem, reduceIte, reduceCtorEq, Nat.succ_ne_zero, not_false_eq_true, decide_true, decide_false, Nat.reduceAdd, Nat.reduceMul, Nat.reduceEqDiff, Nat.reduceLeDiff]
  exact ret_r (v := .func (.func 34) #[] #[.pointer (some ⟨H.next, 0, none⟩)]) (by rw [ares_tmp ret23]; rfl) ⟨rfl, rfl⟩
def cal0 : Cal := ⟨0, 0, 0, 0, 0, 0, 0, 0, 0⟩
theorem n34 : Try.f34.ntmps = 19 := rfl
theorem ret34 : Try.f34.results = #[] := rfl
theorem backward_iter {H : Hp} {a : Option Addr} {l : List Cal} {q : Nat} {I : Nat → Hp → Prop} (hn : l.length ≤ 1000000)
    (hI : ∀ i G, I i G → G.get q = .row [.slice a l.length l.length] true 0 ∧ Elems G a 9 (l.map Cal.cells)) (h0 : I 0 H) :
    AIter Try.prog 34 [.pointer (some ⟨q, 0, none⟩)] l.length (fun i => [.int .i64 ((l.length : Int) - 1 - i), .agg (l.reverse.getD i cal0).cells.toArray]) H I := by
  refine ⟨⟨_, Try.func34, by kernel_rfl, rfl⟩, fun X r hX hy => AXCalls_enter Try.func34 rfl (by kernel_rfl) (by simp [n34]) fun hw hr => ?_⟩
  have hq : load1 H ⟨q, 0, none⟩ = some (.slice a l.length l.length) := (l1_row _ _ _ _ _ (hI 0 H h0).1).trans rfl
  refine AWX_seq (AWX.of (AWP_of_awp ?_))
  simp -implicitDefEqProofs (maxSteps := 2000000) (disch := first | omega | (simp only [nx_new, nx_set, List.length_cons, List.length_nil, List.length_map, List.length_set, ne_eq, not_true_eq_false, not_false_eq_true, Nat.succ_ne_zero]; done) | (simp only [nx_new, nx_set, List.length_cons, List.length_nil, List.length_map, List.length_set, ne_eq, not_true_eq_false, not_false_eq_true, Nat.succ_ne_zero]; omega)) only [go_sem, reduceIte, reduceCtorEq, Nat.succ_ne_zero, not_false_eq_true, decide_true, decide_false, Nat.reduceAdd, Nat.reduceMul, Nat.reduceEqDiff, Nat.reduceLeDiff, hq]
  refine AWX_block ?_
  refine AWX_loop (σ := Nat × Hp) (fun s => [(3, .int .i64 ((l.length : Int) - 1 - s.1)), (0, .func (.yield r) #[] #[]), (1, .pointer (some ⟨q, 0, none⟩))]) (fun s => s.2) (fun s => s.1 ≤ l.length ∧ I s.1 s.2) (fun s => l.length - s.1) (0, H) ⟨Nat.zero_le _, h0⟩ (Weak.sub ?_) ?_
  · (simp -implicitDefEqProofs (disch := omega) only [Abs.Sub, get_cons_eq, get_cons_ne, and_self, Option.some.injEq, Value.int.injEq, Value.slice.injEq, true_and, and_true, Int.natCast_zero, Int.natCast_add, Int.natCast_one, List.length_nil]; try omega)
  · rintro ⟨k, G⟩ ⟨hk, hI'⟩
    simp only at hk hI' ⊢
    refine AWX_seq (AWX.of (AWP_of_awp ?_))
    by_cases hlt : k < l.length
    · simp -implicitDefEqProofs (maxSteps := 2000000) (disch := first | omega | (simp only [nx_new, nx_set, List.length_cons, List.length_nil, List.length_map, List.length_set, ne_eq, not_true_eq_false, not_false_eq_true, Nat.succ_ne_zero]; done) | (simp only [nx_new, nx_set, List.length_cons, List.length_nil, List.length_map, List.length_set, ne_eq, not_true_eq_false, not_false_eq_true, Nat.succ_ne_zero]; omega)) only [go_sem, reduceIte, reduceCtorEq, Nat.succ_ne_zero, not_false_eq_true, decide_true, decide_false, Nat.reduceAdd, Nat.reduceMul, Nat.reduceEqDiff, Nat.reduceLeDiff]
      refine AWX_seq (AWX_block (AWX_seq ?_))
      refine AWX_yieldAt (l := r) hX 6 rfl rfl rfl rfl ?_
      simp only [List.take_succ_cons, List.take_zero, List.drop_succ_cons, List.drop_zero]
      have hqG : load1 G ⟨q, 0, none⟩ = some (.slice a l.length l.length) := (l1_row _ _ _ _ _ (hI k G hI').1).trans rfl
      obtain ⟨b, o, rfl, hload⟩ := cal_at (hI k G hI').2 (l.length - 1 - k) (by omega)
      have hidx : ((l.length : Int) - 1 - k).toNat = l.length - 1 - k := by omega
      have hy' := hy k G hlt hI'
      simp only at hy'
      rw [List.getD_eq_getElem?_getD, List.getElem?_eq_getElem (by simpa using hlt), List.getElem_reverse, Option.getD_some, cal_agg] at hy'
      generalize l[l.length - 1 - k] = c at *
      rw [Cal.cells] at hload
      simp -implicitDefEqProofs (maxSteps := 2000000) (disch := first | omega | (simp only [nx_new, nx_set, List.length_cons, List.length_nil, List.length_map, List.length_set, ne_eq, not_true_eq_false, not_false_eq_true, Nat.succ_ne_zero]; done) | (simp only [nx_new, nx_set, List.length_cons, List.length_nil, List.length_map, List.length_set, ne_eq, not_true_eq_false, not_false_eq_true, Nat.succ_ne_zero]; omega)) only [go_sem, reduceIte, reduceCtorEq, Nat.succ_ne_zero, not_false_eq_true, decide_true, decide_false, Nat.reduceAdd, Nat.reduceMul, Nat.reduceEqDiff, Nat.reduceLeDiff, hqG, hload, hidx]
      refine ⟨by simp -implicitDefEqProofs (maxSteps := 2000000) (disch := first | omega | (simp only [nx_new, nx_set, List.length_cons, List.length_nil, List.length_map, List.length_set, ne_eq, not_true_eq_false, not_false_eq_true, Nat.succ_ne_zero]; done) | (simp only [nx_new, nx_set, List.length_cons, List.length_nil, List.length_map, List.length_set, ne_eq, not_true_eq_false, not_false_eq_true, Nat.succ_ne_zero]; omega)) only [go_sem, reduceIte, reduceCtorEq, Nat.succ_ne_zero, not_false_eq_true, decide_true, decide_false, Nat.reduceAdd, Nat.reduceMul, Nat.reduceEqDiff, Nat.reduceLeDiff], [.int .i64 ((l.length : Int) - 1 - k), .agg #[.int .i64 c.kind, .int .i64 c.tel, .int .i64 c.fil, .int .i64 c.at_, .int .i64 c.known, .int .i64 c.v0, .int .i64 c.v1, .int .i64 c.v2, .int .i64 c.v3]], by simp -implicitDefEqProofs (maxSteps := 2000000) (disch := first | omega | (simp only [nx_new, nx_set, List.length_cons, List.length_nil, List.length_map, List.length_set, ne_eq, not_true_eq_false, not_false_eq_true, Nat.succ_ne_zero]; done) | (simp only [nx_new, nx_set, List.length_cons, List.length_nil, List.length_map, List.length_set, ne_eq, not_true_eq_false, not_false_eq_true, Nat.succ_ne_zero]; omega)) only [go_sem, reduceIte, reduceCtorEq, Nat.succ_ne_zero, not_false_eq_true, decide_true, decide_false, Nat.reduceAdd, Nat.reduceMul, Nat.reduceEqDiff, Nat.reduceLeDiff], ?_⟩
      refine hy'.mono ?_
      rintro _ G' ⟨rfl, hI2⟩
      simp -implicitDefEqProofs (maxSteps := 2000000) (disch := first | omega | (simp only [nx_new, nx_set, List.length_cons, List.length_nil, List.length_map, List.length_set, ne_eq, not_true_eq_false, not_false_eq_true, Nat.succ_ne_zero]; done) | (simp only [nx_new, nx_set, List.length_cons, List.length_nil, List.length_map, List.length_set, ne_eq, not_true_eq_false, not_false_eq_true, Nat.succ_ne_zero]; omega)) only [go_sem, reduceIte, reduceCtorEq, Nat.succ_ne_zero, not_false_eq_true, decide_true, decide_false, Nat.reduceAdd, Nat.reduceMul, Nat.reduceEqDiff, Nat.reduceLeDiff]
      refine AWX.of (AWP_of_awp ?_)
      simp -implicitDefEqProofs (maxSteps := 2000000) (disch := first | omega | (simp only [nx_new, nx_set, List.length_cons, List.length_nil, List.length_map, List.length_set, ne_eq, not_true_eq_false, not_false_eq_true, Nat.succ_ne_zero]; done) | (simp only [nx_new, nx_set, List.length_cons, List.length_nil, List.length_map, List.length_set, ne_eq, not_true_eq_false, not_false_eq_true, Nat.succ_ne_zero]; omega)) only [go_sem, reduceIte, reduceCtorEq, Nat.succ_ne_zero, not_false_eq_true, decide_true, decide_false, Nat.reduceAdd, Nat.reduceMul, Nat.reduceEqDiff, Nat.reduceLeDiff]
      refine AWX.of (AWP_of_awp ?_)
      simp -implicitDefEqProofs (maxSteps := 2000000) (disch := first | omega | (simp only [nx_new, nx_set, List.length_cons, List.length_nil, List.length_map, List.length_set, ne_eq, not_true_eq_false, not_false_eq_true, Nat.succ_ne_zero]; done) | (simp only [nx_new, nx_set, List.length_cons, List.length_nil, List.length_map, List.length_set, ne_eq, not_true_eq_false, not_false_eq_true, Nat.succ_ne_zero]; omega)) only [go_sem, reduceIte, reduceCtorEq, Nat.succ_ne_zero, not_false_eq_true, decide_true, decide_false, Nat.reduceAdd, Nat.reduceMul, Nat.reduceEqDiff, Nat.reduceLeDiff]
      refine ⟨(k + 1, G'), ⟨hlt, hI2⟩, by (first | omega | (simp only; omega)), Weak.sub ?_⟩
      have e2 : ((l.length : Int) - 1 - k) - 1 = (l.length : Int) - 1 - (k + 1 : Nat) := by omega
      simp only [← e2]
      simp -implicitDefEqProofs (disch := omega) only [Abs.Sub, get_cons_eq, get_cons_ne, and_self, Int.natCast_zero, Int.natCast_add, Int.natCast_one]
    · have hke : k = l.length := by omega
      subst hke
      simp -implicitDefEqProofs (maxSteps := 2000000) (disch := first | omega | (simp only [nx_new, nx_set, List.length_cons, List.length_nil, List.length_map, List.length_set, ne_eq, not_true_eq_false, not_false_eq_true, Nat.succ_ne_zero]; done) | (simp only [nx_new, nx_set, List.length_cons, List.length_nil, List.length_map, List.length_set, ne_eq, not_true_eq_false, not_false_eq_true, Nat.succ_ne_zero]; omega)) only [go_sem, reduceIte, reduceCtorEq, Nat.succ_ne_zero, not_false_eq_true, decide_true, decide_false, Nat.reduceAdd, Nat.reduceMul, Nat.reduceEqDiff, Nat.reduceLeDiff]
      exact ret_n (v := .tuple #[]) (ares0 ret34) hI'
end Go.Proofs.Ytejpfdhlpcgfkaa
