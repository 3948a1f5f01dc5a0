/- The law's and the reference's small functions. -/
import Derived.Test.YtjdmndklnfhmjaaAbsU
import Derived.Test.YtjdmndklnfhmjaaXf
set_option linter.unusedVariables false
set_option linter.unusedSimpArgs false
set_option linter.unusedSectionVars false
namespace Go.Proofs.Ytjdmndklnfhmjaa
open Go.Abs
set_option maxHeartbeats 8000000
set_option maxRecDepth 100000
deriving instance DecidableEq for Det
theorem tal_at {H : Hp} {a : Option Addr} {l : List Tal} (he : Elems H a 4 (l.map Tal.cells)) (i : Nat) (hi : i < l.length) : ∃ b o, a = some ⟨b, o, none⟩ ∧ aload H ⟨b, o + i * 4, none⟩ 4 = some l[i].cells := by
  obtain ⟨b, o, h1, _, h2⟩ := he i (by rw [List.length_map]; exact hi)
  rw [List.getElem_map] at h2
  exact ⟨b, o, h1, h2⟩
theorem take_step {α : Type} {X Y : List α} (hl : X.length = Y.length) {i : Nat} (h1 : i < X.length) (h2 : i < Y.length) (h : X.take i = Y.take i) (e : X[i] = Y[i]) : X.take (i + 1) = Y.take (i + 1) := by
  rw [List.take_succ_eq_append_getElem h1, List.take_succ_eq_append_getElem h2, h, e]
theorem n14 : Try.f14.ntmps = 26 := rfl
theorem ret14 : Try.f14.results = #[.tmp 4] := rfl
theorem same_spec (H : Hp) (a b : Option Addr) (ca cb : Nat) (X Y : List Tal) (hX : X.length ≤ 1000000) (hY : Y.length ≤ 1000000) (ha : Elems H a 4 (X.map Tal.cells)) (hb : Elems H b 4 (Y.map Tal.cells)) :
    ACalls Try.prog 14 [.slice a X.length ca, .slice b Y.length cb] H (fun v H' => v = .bool (decide (X = Y)) ∧ H' = H) := by
  refine ACalls_enter Try.func14 (by kernel_rfl) rfl (by kernel_rfl) (by simp [n14]) fun hw hr => AWP_of_awp ?_
  simp -implicitDefEqProofs (maxSteps := 2000000) (disch := first | omega | (simp only [nx_new, nx_set, List.length_cons, List.length_nil, List.length_map, List.length_set, ne_eq, not_true_eq_false, not_false_eq_true, Nat.succ_ne_zero]; done) | (simp only [nx_new, nx_set, List.length_cons, List.length_nil, List.length_map, List.length_set, ne_eq, not_true_eq_false, not_false_eq_true, Nat.succ_ne_zero]; omega)) only [go_sem, reduceIte, reduceCtorEq, Nat.succ_ne_zero, not_false_eq_true, decide_true, decide_false, Nat.reduceAdd, Nat.reduceMul, Nat.reduceEqDiff, Nat.reduceLeDiff]
  by_cases hl : X.length = Y.length
  rotate_left
  · have hd : ((X.length : Int) != (Y.length : Int)) = true := by first | exact bne_iff_ne.2 (by omega) | exact bne_eq_false_iff_eq.2 (by omega)
    simp -implicitDefEqProofs (maxSteps := 2000000) (disch := first | omega | (simp only [nx_new, nx_set, List.length_cons, List.length_nil, List.length_map, List.length_set, ne_eq, not_true_eq_false, not_false_eq_true, Nat.succ_ne_zero]; done) | (simp only [nx_new, nx_set, List.length_cons, List.length_nil, List.length_map, List.length_set, ne_eq, not_true_eq_false, not_false_eq_true, Nat.succ_ne_zero]; omega)) only [go_sem, reduceIte, reduceCtorEq, Nat.succ_ne_zero, not_false_eq_true, decide_true, decide_false, Nat.reduceAdd, Nat.reduceMul, Nat.reduceEqDiff, Nat.reduceLeDiff, hd]
    exact ret_r (v := .bool false) (by rw [ares_tmp ret14]; rfl) ⟨by rw [decide_eq_false (fun e => hl (by rw [e]))], rfl⟩
  · have hd : ((X.length : Int) != (Y.length : Int)) = false := by first | exact bne_iff_ne.2 (by omega) | exact bne_eq_false_iff_eq.2 (by omega)
    simp -implicitDefEqProofs (maxSteps := 2000000) (disch := first | omega | (simp only [nx_new, nx_set, List.length_cons, List.length_nil, List.length_map, List.length_set, ne_eq, not_true_eq_false, not_false_eq_true, Nat.succ_ne_zero]; done) | (simp only [nx_new, nx_set, List.length_cons, List.length_nil, List.length_map, List.length_set, ne_eq, not_true_eq_false, not_false_eq_true, Nat.succ_ne_zero]; omega)) only [go_sem, reduceIte, reduceCtorEq, Nat.succ_ne_zero, not_false_eq_true, decide_true, decide_false, Nat.reduceAdd, Nat.reduceMul, Nat.reduceEqDiff, Nat.reduceLeDiff, hd]
    refine AWP_loop (σ := Nat) (fun s => [(5, .int .i64 s), (0, .slice a X.length ca), (1, .slice b Y.length cb)]) (fun _ => H) (fun s => s ≤ X.length ∧ X.take s = Y.take s) (fun s => X.length - s) 0 ⟨Nat.zero_le _, rfl⟩ (Weak.sub ?_) ?_
    · (simp -implicitDefEqProofs (disch := omega) only [Abs.Sub, get_cons_eq, get_cons_ne, and_self, Option.some.injEq, Value.int.injEq, Value.slice.injEq, true_and, and_true, Int.natCast_zero, Int.natCast_add, Int.natCast_one, List.length_nil]; try omega)
    rintro i ⟨hi, htk⟩
    refine AWP_of_awp ?_
    by_cases hlt : i < X.length
    · obtain ⟨b1, o1, rfl, hx⟩ := tal_at ha i hlt
      obtain ⟨b2, o2, rfl, hy⟩ := tal_at hb i (by omega)
      have hlt2 : i < Y.length := by omega
      have hst := take_step hl hlt hlt2 htk
      have hneq : X[i] ≠ Y[i] → X ≠ Y := fun h e => h (by subst e; rfl)
      generalize X[i] = x at *
      generalize Y[i] = y at *
      simp only [Tal.cells] at hx hy
      simp -implicitDefEqProofs (maxSteps := 2000000) (disch := first | omega | (simp only [nx_new, nx_set, List.length_cons, List.length_nil, List.length_map, List.length_set, ne_eq, not_true_eq_false, not_false_eq_true, Nat.succ_ne_zero]; done) | (simp only [nx_new, nx_set, List.length_cons, List.length_nil, List.length_map, List.length_set, ne_eq, not_true_eq_false, not_false_eq_true, Nat.succ_ne_zero]; omega)) only [go_sem, reduceIte, reduceCtorEq, Nat.succ_ne_zero, not_false_eq_true, decide_true, decide_false, Nat.reduceAdd, Nat.reduceMul, Nat.reduceEqDiff, Nat.reduceLeDiff]
      refine AWP_draw_fast mo (by kernel_rfl) ?_
      simp -implicitDefEqProofs (maxSteps := 2000000) (disch := first | omega | (simp only [nx_new, nx_set, List.length_cons, List.length_nil, List.length_map, List.length_set, ne_eq, not_true_eq_false, not_false_eq_true, Nat.succ_ne_zero]; done) | (simp only [nx_new, nx_set, List.length_cons, List.length_nil, List.length_map, List.length_set, ne_eq, not_true_eq_false, not_false_eq_true, Nat.succ_ne_zero]; omega)) only [go_sem, reduceIte, reduceCtorEq, Nat.succ_ne_zero, not_false_eq_true, decide_true, decide_false, Nat.reduceAdd, Nat.reduceMul, Nat.reduceEqDiff, Nat.reduceLeDiff, hx, hy]
      by_cases hxy : x = y
      · subst hxy
        simp -implicitDefEqProofs (maxSteps := 2000000) (disch := first | omega | (simp only [nx_new, nx_set, List.length_cons, List.length_nil, List.length_map, List.length_set, ne_eq, not_true_eq_false, not_false_eq_true, Nat.succ_ne_zero]; done) | (simp only [nx_new, nx_set, List.length_cons, List.length_nil, List.length_map, List.length_set, ne_eq, not_true_eq_false, not_false_eq_true, Nat.succ_ne_zero]; omega)) only [go_sem, reduceIte, reduceCtorEq, Nat.succ_ne_zero, not_false_eq_true, decide_true, decide_false, Nat.reduceAdd, Nat.reduceMul, Nat.reduceEqDiff, Nat.reduceLeDiff, beq_self_eq_true]
        exact ⟨i + 1, ⟨hlt, hst rfl⟩, by omega, Weak.sub (by (simp -implicitDefEqProofs (disch := omega) only [Abs.Sub, get_cons_eq, get_cons_ne, and_self, Option.some.injEq, Value.int.injEq, Value.slice.injEq, true_and, and_true, Int.natCast_zero, Int.natCast_add, Int.natCast_one, List.length_nil]; try omega))⟩
      · have hbb : ((x.t == y.t) && ((x.c == y.c) && ((x.f == y.f) && (x.n == y.n)))) = false := by
          rw [Bool.eq_false_iff]
          intro h
          simp only [Bool.and_eq_true, beq_iff_eq] at h
          obtain ⟨h1, h2, h3, h4⟩ := h
          apply hxy
          cases x; cases y
          simp only at h1 h2 h3 h4
          subst h1; subst h2; subst h3; subst h4; rfl
        simp -implicitDefEqProofs (maxSteps := 2000000) (disch := first | omega | (simp only [nx_new, nx_set, List.length_cons, List.length_nil, List.length_map, List.length_set, ne_eq, not_true_eq_false, not_false_eq_true, Nat.succ_ne_zero]; done) | (simp only [nx_new, nx_set, List.length_cons, List.length_nil, List.length_map, List.length_set, ne_eq, not_true_eq_false, not_false_eq_true, Nat.succ_ne_zero]; omega)) only [go_sem, reduceIte, reduceCtorEq, Nat.succ_ne_zero, not_false_eq_true, decide_true, decide_false, Nat.reduceAdd, Nat.reduceMul, Nat.reduceEqDiff, Nat.reduceLeDiff, hbb]
        exact ret_r (v := .bool false) (by rw [ares_tmp ret14]; rfl) ⟨by rw [decide_eq_false (hneq hxy)], rfl⟩
    · obtain rfl : i = X.length := by omega
      have he : X = Y := by rwa [List.take_of_length_le (Nat.le_refl _), List.take_of_length_le (by omega)] at htk
      simp -implicitDefEqProofs (maxSteps := 2000000) (disch := first | omega | (simp only [nx_new, nx_set, List.length_cons, List.length_nil, List.length_map, List.length_set, ne_eq, not_true_eq_false, not_false_eq_true, Nat.succ_ne_zero]; done) | (simp only [nx_new, nx_set, List.length_cons, List.length_nil, List.length_map, List.length_set, ne_eq, not_true_eq_false, not_false_eq_true, Nat.succ_ne_zero]; omega)) only [go_sem, reduceIte, reduceCtorEq, Nat.succ_ne_zero, not_false_eq_true, decide_true, decide_false, Nat.reduceAdd, Nat.reduceMul, Nat.reduceEqDiff, Nat.reduceLeDiff]
      exact ret_r (v := .bool true) (by rw [ares_tmp ret14]; rfl) ⟨by rw [decide_eq_true he], rfl⟩
theorem n21 : Try.f21.ntmps = 26 := rfl
theorem ret21 : Try.f21.results = #[.tmp 4] := rfl
theorem sameD_spec (H : Hp) (a b : Option Addr) (X Y : List Det) (hX : X.length ≤ 1000000) (hY : Y.length ≤ 1000000) (ha : Elems H a 5 (X.map Det.cells)) (hb : Elems H b 5 (Y.map Det.cells)) :
    ACalls Try.prog 21 [.slice a X.length X.length, .slice b Y.length Y.length] H (fun v H' => v = .bool (decide (X = Y)) ∧ H' = H) := by
  refine ACalls_enter Try.func21 (by kernel_rfl) rfl (by kernel_rfl) (by simp [n21]) fun hw hr => AWP_of_awp ?_
  simp -implicitDefEqProofs (maxSteps := 2000000) (disch := first | omega | (simp only [nx_new, nx_set, List.length_cons, List.length_nil, List.length_map, List.length_set, ne_eq, not_true_eq_false, not_false_eq_true, Nat.succ_ne_zero]; done) | (simp only [nx_new, nx_set, List.length_cons, List.length_nil, List.length_map, List.length_set, ne_eq, not_true_eq_false, not_false_eq_true, Nat.succ_ne_zero]; omega)) only [go_sem, reduceIte, reduceCtorEq, Nat.succ_ne_zero, not_false_eq_true, decide_true, decide_false, Nat.reduceAdd, Nat.reduceMul, Nat.reduceEqDiff, Nat.reduceLeDiff]
  by_cases hl : X.length = Y.length
  rotate_left
  · have hd : ((X.length : Int) != (Y.length : Int)) = true := by first | exact bne_iff_ne.2 (by omega) | exact bne_eq_false_iff_eq.2 (by omega)
    simp -implicitDefEqProofs (maxSteps := 2000000) (disch := first | omega | (simp only [nx_new, nx_set, List.length_cons, List.length_nil, List.length_map, List.length_set, ne_eq, not_true_eq_false, not_false_eq_true, Nat.succ_ne_zero]; done) | (simp only [nx_new, nx_set, List.length_cons, List.length_nil, List.length_map, List.length_set, ne_eq, not_true_eq_false, not_false_eq_true, Nat.succ_ne_zero]; omega)) only [go_sem, reduceIte, reduceCtorEq, Nat.succ_ne_zero, not_false_eq_true, decide_true, decide_false, Nat.reduceAdd, Nat.reduceMul, Nat.reduceEqDiff, Nat.reduceLeDiff, hd]
    exact ret_r (v := .bool false) (by rw [ares_tmp ret21]; rfl) ⟨by rw [decide_eq_false (fun e => hl (by rw [e]))], rfl⟩
  · have hd : ((X.length : Int) != (Y.length : Int)) = false := by first | exact bne_iff_ne.2 (by omega) | exact bne_eq_false_iff_eq.2 (by omega)
    simp -implicitDefEqProofs (maxSteps := 2000000) (disch := first | omega | (simp only [nx_new, nx_set, List.length_cons, List.length_nil, List.length_map, List.length_set, ne_eq, not_true_eq_false, not_false_eq_true, Nat.succ_ne_zero]; done) | (simp only [nx_new, nx_set, List.length_cons, List.length_nil, List.length_map, List.length_set, ne_eq, not_true_eq_false, not_false_eq_true, Nat.succ_ne_zero]; omega)) only [go_sem, reduceIte, reduceCtorEq, Nat.succ_ne_zero, not_false_eq_true, decide_true, decide_false, Nat.reduceAdd, Nat.reduceMul, Nat.reduceEqDiff, Nat.reduceLeDiff, hd]
    refine AWP_loop (σ := Nat) (fun s => [(5, .int .i64 s), (0, .slice a X.length X.length), (1, .slice b Y.length Y.length)]) (fun _ => H) (fun s => s ≤ X.length ∧ X.take s = Y.take s) (fun s => X.length - s) 0 ⟨Nat.zero_le _, rfl⟩ (Weak.sub ?_) ?_
    · (simp -implicitDefEqProofs (disch := omega) only [Abs.Sub, get_cons_eq, get_cons_ne, and_self, Option.some.injEq, Value.int.injEq, Value.slice.injEq, true_and, and_true, Int.natCast_zero, Int.natCast_add, Int.natCast_one, List.length_nil]; try omega)
    rintro i ⟨hi, htk⟩
    refine AWP_of_awp ?_
    by_cases hlt : i < X.length
    · obtain ⟨b1, o1, rfl, hx⟩ := det_at ha i hlt
      obtain ⟨b2, o2, rfl, hy⟩ := det_at hb i (by omega)
      have hlt2 : i < Y.length := by omega
      have hst := take_step hl hlt hlt2 htk
      have hneq : X[i] ≠ Y[i] → X ≠ Y := fun h e => h (by subst e; rfl)
      generalize X[i] = x at *
      generalize Y[i] = y at *
      simp only [Det.cells] at hx hy
      simp -implicitDefEqProofs (maxSteps := 2000000) (disch := first | omega | (simp only [nx_new, nx_set, List.length_cons, List.length_nil, List.length_map, List.length_set, ne_eq, not_true_eq_false, not_false_eq_true, Nat.succ_ne_zero]; done) | (simp only [nx_new, nx_set, List.length_cons, List.length_nil, List.length_map, List.length_set, ne_eq, not_true_eq_false, not_false_eq_true, Nat.succ_ne_zero]; omega)) only [go_sem, reduceIte, reduceCtorEq, Nat.succ_ne_zero, not_false_eq_true, decide_true, decide_false, Nat.reduceAdd, Nat.reduceMul, Nat.reduceEqDiff, Nat.reduceLeDiff]
      refine AWP_draw_fast mo (by kernel_rfl) ?_
      simp -implicitDefEqProofs (maxSteps := 2000000) (disch := first | omega | (simp only [nx_new, nx_set, List.length_cons, List.length_nil, List.length_map, List.length_set, ne_eq, not_true_eq_false, not_false_eq_true, Nat.succ_ne_zero]; done) | (simp only [nx_new, nx_set, List.length_cons, List.length_nil, List.length_map, List.length_set, ne_eq, not_true_eq_false, not_false_eq_true, Nat.succ_ne_zero]; omega)) only [go_sem, reduceIte, reduceCtorEq, Nat.succ_ne_zero, not_false_eq_true, decide_true, decide_false, Nat.reduceAdd, Nat.reduceMul, Nat.reduceEqDiff, Nat.reduceLeDiff, hx, hy]
      by_cases hxy : x = y
      · subst hxy
        simp -implicitDefEqProofs (maxSteps := 2000000) (disch := first | omega | (simp only [nx_new, nx_set, List.length_cons, List.length_nil, List.length_map, List.length_set, ne_eq, not_true_eq_false, not_false_eq_true, Nat.succ_ne_zero]; done) | (simp only [nx_new, nx_set, List.length_cons, List.length_nil, List.length_map, List.length_set, ne_eq, not_true_eq_false, not_false_eq_true, Nat.succ_ne_zero]; omega)) only [go_sem, reduceIte, reduceCtorEq, Nat.succ_ne_zero, not_false_eq_true, decide_true, decide_false, Nat.reduceAdd, Nat.reduceMul, Nat.reduceEqDiff, Nat.reduceLeDiff, beq_self_eq_true]
        exact ⟨i + 1, ⟨hlt, hst rfl⟩, by omega, Weak.sub (by (simp -implicitDefEqProofs (disch := omega) only [Abs.Sub, get_cons_eq, get_cons_ne, and_self, Option.some.injEq, Value.int.injEq, Value.slice.injEq, true_and, and_true, Int.natCast_zero, Int.natCast_add, Int.natCast_one, List.length_nil]; try omega))⟩
      · have hbb : ((x.t == y.t) && ((x.c == y.c) && ((x.f == y.f) && ((x.v == y.v) && (x.a == y.a))))) = false := by
          rw [Bool.eq_false_iff]
          intro h
          simp only [Bool.and_eq_true, beq_iff_eq] at h
          obtain ⟨h1, h2, h3, h4, h5⟩ := h
          apply hxy
          cases x; cases y
          simp only at h1 h2 h3 h4 h5
          subst h1; subst h2; subst h3; subst h4; subst h5; rfl
        simp -implicitDefEqProofs (maxSteps := 2000000) (disch := first | omega | (simp only [nx_new, nx_set, List.length_cons, List.length_nil, List.length_map, List.length_set, ne_eq, not_true_eq_false, not_false_eq_true, Nat.succ_ne_zero]; done) | (simp only [nx_new, nx_set, List.length_cons, List.length_nil, List.length_map, List.length_set, ne_eq, not_true_eq_false, not_false_eq_true, Nat.succ_ne_zero]; omega)) only [go_sem, reduceIte, reduceCtorEq, Nat.succ_ne_zero, not_false_eq_true, decide_true, decide_false, Nat.reduceAdd, Nat.reduceMul, Nat.reduceEqDiff, Nat.reduceLeDiff, hbb]
        exact ret_r (v := .bool false) (by rw [ares_tmp ret21]; rfl) ⟨by rw [decide_eq_false (hneq hxy)], rfl⟩
    · obtain rfl : i = X.length := by omega
      have he : X = Y := by rwa [List.take_of_length_le (Nat.le_refl _), List.take_of_length_le (by omega)] at htk
      simp -implicitDefEqProofs (maxSteps := 2000000) (disch := first | omega | (simp only [nx_new, nx_set, List.length_cons, List.length_nil, List.length_map, List.length_set, ne_eq, not_true_eq_false, not_false_eq_true, Nat.succ_ne_zero]; done) | (simp only [nx_new, nx_set, List.length_cons, List.length_nil, List.length_map, List.length_set, ne_eq, not_true_eq_false, not_false_eq_true, Nat.succ_ne_zero]; omega)) only [go_sem, reduceIte, reduceCtorEq, Nat.succ_ne_zero, not_false_eq_true, decide_true, decide_false, Nat.reduceAdd, Nat.reduceMul, Nat.reduceEqDiff, Nat.reduceLeDiff]
      exact ret_r (v := .bool true) (by rw [ares_tmp ret21]; rfl) ⟨by rw [decide_eq_true he], rfl⟩
theorem n12 : Try.f12.ntmps = 23 := rfl
theorem ret12 : Try.f12.results = #[.tmp 4] := rfl
def fewB (n k : Nat) : Bool := (decide (n ≤ 40) || (decide (1000 < n) && decide (n ≤ 1010))) && decide (k ≤ 40)
theorem few_spec (H : Hp) (a b : Option Addr) (n k : Nat) : ACalls Try.prog 12 [.slice a n n, .slice b k k] H (fun v H' => v = .bool (fewB n k) ∧ H' = H) := by
  refine ACalls_enter Try.func12 (by kernel_rfl) rfl (by kernel_rfl) (by simp [n12]) fun hw hr => AWP_of_awp ?_
  have fin : ∀ b c : Bool, b = fewB n k → c = b → Value.bool c = Value.bool (fewB n k) := fun b c h1 h2 => by rw [h2, h1]
  by_cases h1 : n ≤ 40
  · by_cases h2 : k ≤ 40
    · simp -implicitDefEqProofs (maxSteps := 2000000) (disch := first | omega | (simp only [nx_new, nx_set, List.length_cons, List.length_nil, List.length_map, List.length_set, ne_eq, not_true_eq_false, not_false_eq_true, Nat.succ_ne_zero]; done) | (simp only [nx_new, nx_set, List.length_cons, List.length_nil, List.length_map, List.length_set, ne_eq, not_true_eq_false, not_false_eq_true, Nat.succ_ne_zero]; omega)) only [go_sem, reduceIte, reduceCtorEq, Nat.succ_ne_zero, not_false_eq_true, decide_true, decide_false, Nat.reduceAdd, Nat.reduceMul, Nat.reduceEqDiff, Nat.reduceLeDiff]
      exact ret_r (v := .bool true) (by rw [ares_tmp ret12]; rfl) ⟨by simp [fewB, h1, h2], rfl⟩
    · simp -implicitDefEqProofs (maxSteps := 2000000) (disch := first | omega | (simp only [nx_new, nx_set, List.length_cons, List.length_nil, List.length_map, List.length_set, ne_eq, not_true_eq_false, not_false_eq_true, Nat.succ_ne_zero]; done) | (simp only [nx_new, nx_set, List.length_cons, List.length_nil, List.length_map, List.length_set, ne_eq, not_true_eq_false, not_false_eq_true, Nat.succ_ne_zero]; omega)) only [go_sem, reduceIte, reduceCtorEq, Nat.succ_ne_zero, not_false_eq_true, decide_true, decide_false, Nat.reduceAdd, Nat.reduceMul, Nat.reduceEqDiff, Nat.reduceLeDiff]
      exact ret_r (v := .bool false) (by rw [ares_tmp ret12]; rfl) ⟨by simp [fewB, h1, h2], rfl⟩
  · by_cases h3 : 1000 < n
    · by_cases h4 : n ≤ 1010
      · by_cases h2 : k ≤ 40
        · simp -implicitDefEqProofs (maxSteps := 2000000) (disch := first | omega | (simp only [nx_new, nx_set, List.length_cons, List.length_nil, List.length_map, List.length_set, ne_eq, not_true_eq_false, not_false_eq_true, Nat.succ_ne_zero]; done) | (simp only [nx_new, nx_set, List.length_cons, List.length_nil, List.length_map, List.length_set, ne_eq, not_true_eq_false, not_false_eq_true, Nat.succ_ne_zero]; omega)) only [go_sem, reduceIte, reduceCtorEq, Nat.succ_ne_zero, not_false_eq_true, decide_true, decide_false, Nat.reduceAdd, Nat.reduceMul, Nat.reduceEqDiff, Nat.reduceLeDiff]
          exact ret_r (v := .bool true) (by rw [ares_tmp ret12]; rfl) ⟨by simp [fewB, h1, h2, h3, h4], rfl⟩
        · simp -implicitDefEqProofs (maxSteps := 2000000) (disch := first | omega | (simp only [nx_new, nx_set, List.length_cons, List.length_nil, List.length_map, List.length_set, ne_eq, not_true_eq_false, not_false_eq_true, Nat.succ_ne_zero]; done) | (simp only [nx_new, nx_set, List.length_cons, List.length_nil, List.length_map, List.length_set, ne_eq, not_true_eq_false, not_false_eq_true, Nat.succ_ne_zero]; omega)) only [go_sem, reduceIte, reduceCtorEq, Nat.succ_ne_zero, not_false_eq_true, decide_true, decide_false, Nat.reduceAdd, Nat.reduceMul, Nat.reduceEqDiff, Nat.reduceLeDiff]
          exact ret_r (v := .bool false) (by rw [ares_tmp ret12]; rfl) ⟨by simp [fewB, h1, h2, h3, h4], rfl⟩
      · simp -implicitDefEqProofs (maxSteps := 2000000) (disch := first | omega | (simp only [nx_new, nx_set, List.length_cons, List.length_nil, List.length_map, List.length_set, ne_eq, not_true_eq_false, not_false_eq_true, Nat.succ_ne_zero]; done) | (simp only [nx_new, nx_set, List.length_cons, List.length_nil, List.length_map, List.length_set, ne_eq, not_true_eq_false, not_false_eq_true, Nat.succ_ne_zero]; omega)) only [go_sem, reduceIte, reduceCtorEq, Nat.succ_ne_zero, not_false_eq_true, decide_true, decide_false, Nat.reduceAdd, Nat.reduceMul, Nat.reduceEqDiff, Nat.reduceLeDiff]
        exact ret_r (v := .bool false) (by rw [ares_tmp ret12]; rfl) ⟨by simp [fewB, h1, h3, h4], rfl⟩
    · simp -implicitDefEqProofs (maxSteps := 2000000) (disch := first | omega | (simp only [nx_new, nx_set, List.length_cons, List.length_nil, List.length_map, List.length_set, ne_eq, not_true_eq_false, not_false_eq_true, Nat.succ_ne_zero]; done) | (simp only [nx_new, nx_set, List.length_cons, List.length_nil, List.length_map, List.length_set, ne_eq, not_true_eq_false, not_false_eq_true, Nat.succ_ne_zero]; omega)) only [go_sem, reduceIte, reduceCtorEq, Nat.succ_ne_zero, not_false_eq_true, decide_true, decide_false, Nat.reduceAdd, Nat.reduceMul, Nat.reduceEqDiff, Nat.reduceLeDiff]
      exact ret_r (v := .bool false) (by rw [ares_tmp ret12]; rfl) ⟨by simp [fewB, h1, h3], rfl⟩
theorem n13 : Try.f13.ntmps = 30 := rfl
theorem ret13 : Try.f13.results = #[.tmp 4] := rfl
def ltT (x y : Tal) : Bool := decide (x.pl.lt y.pl)
theorem less_spec (H : Hp) (x y : Tal) : ACalls Try.prog 13 [.agg x.cells.toArray, .agg y.cells.toArray] H (fun v H' => v = .bool (ltT x y) ∧ Keeps H H') := by
  obtain ⟨a, b, c, d⟩ := x
  obtain ⟨a', b', c', d'⟩ := y
  simp only [Tal.cells, ltT, Tal.pl]
  refine ACalls_enter Try.func13 (by kernel_rfl) rfl (by kernel_rfl) (by simp [n13]) fun hw hr => AWP_of_awp ?_
  simp -implicitDefEqProofs (maxSteps := 2000000) (disch := first | omega | (simp only [nx_new, nx_set, List.length_cons, List.length_nil, List.length_map, List.length_set, ne_eq, not_true_eq_false, not_false_eq_true, Nat.succ_ne_zero]; done) | (simp only [nx_new, nx_set, List.length_cons, List.length_nil, List.length_map, List.length_set, ne_eq, not_true_eq_false, not_false_eq_true, Nat.succ_ne_zero]; omega)) only [go_sem, reduceIte, reduceCtorEq, Nat.succ_ne_zero, not_false_eq_true, decide_true, decide_false, Nat.reduceAdd, Nat.reduceMul, Nat.reduceEqDiff, Nat.reduceLeDiff]
  obtain ⟨M, eM⟩ : ∃ M, M = (H.new (.row [.int .i64 a, .int .i64 b, .int .i64 c, .int .i64 d] true 0)).new (.row [.int .i64 a', .int .i64 b', .int .i64 c', .int .i64 d'] true 0) := ⟨_, rfl⟩
  have kM : Keeps H M := by rw [eM]; exact (Keeps.new _ _).trans (Keeps.new _ _)
  by_cases h1 : a = a'
  · subst h1
    by_cases h2 : b = b'
    · subst h2
      simp -implicitDefEqProofs (maxSteps := 2000000) (disch := first | omega | (simp only [nx_new, nx_set, List.length_cons, List.length_nil, List.length_map, List.length_set, ne_eq, not_true_eq_false, not_false_eq_true, Nat.succ_ne_zero]; done) | (simp only [nx_new, nx_set, List.length_cons, List.length_nil, List.length_map, List.length_set, ne_eq, not_true_eq_false, not_false_eq_true, Nat.succ_ne_zero]; omega)) only [go_sem, reduceIte, reduceCtorEq, Nat.succ_ne_zero, not_false_eq_true, decide_true, decide_false, Nat.reduceAdd, Nat.reduceMul, Nat.reduceEqDiff, Nat.reduceLeDiff]
      exact ret_r (v := .bool (decide (c < c'))) (by rw [ares_tmp ret13]; rfl) ⟨by congr 1; exact decide_eq_decide.2 (show (c < c') ↔ Pl.lt ⟨a, b, c⟩ ⟨a, b, c'⟩ from ⟨fun h => .inr ⟨rfl, .inr ⟨rfl, h⟩⟩, fun h => by
        rcases h with h | ⟨_, h | ⟨_, h⟩⟩
        · exact absurd h (Int.lt_irrefl _)
        · exact absurd h (Int.lt_irrefl _)
        · exact h⟩), by rw [← eM]; exact kM⟩
    · have hd : (b != b') = true := by simpa using h2
      simp -implicitDefEqProofs (maxSteps := 2000000) (disch := first | omega | (simp only [nx_new, nx_set, List.length_cons, List.length_nil, List.length_map, List.length_set, ne_eq, not_true_eq_false, not_false_eq_true, Nat.succ_ne_zero]; done) | (simp only [nx_new, nx_set, List.length_cons, List.length_nil, List.length_map, List.length_set, ne_eq, not_true_eq_false, not_false_eq_true, Nat.succ_ne_zero]; omega)) only [go_sem, reduceIte, reduceCtorEq, Nat.succ_ne_zero, not_false_eq_true, decide_true, decide_false, Nat.reduceAdd, Nat.reduceMul, Nat.reduceEqDiff, Nat.reduceLeDiff, hd]
      exact ret_r (v := .bool (decide (b < b'))) (by rw [ares_tmp ret13]; rfl) ⟨by congr 1; exact decide_eq_decide.2 (show (b < b') ↔ Pl.lt ⟨a, b, c⟩ ⟨a, b', c'⟩ from ⟨fun h => .inr ⟨rfl, .inl h⟩, fun h => by
        rcases h with h | ⟨_, h | ⟨h, _⟩⟩
        · exact absurd h (Int.lt_irrefl _)
        · exact h
        · exact absurd h h2⟩), by rw [← eM]; exact kM⟩
  · have hd : (a != a') = true := by simpa using h1
    simp -implicitDefEqProofs (maxSteps := 2000000) (disch := first | omega | (simp only [nx_new, nx_set, List.length_cons, List.length_nil, List.length_map, List.length_set, ne_eq, not_true_eq_false, not_false_eq_true, Nat.succ_ne_zero]; done) | (simp only [nx_new, nx_set, List.length_cons, List.length_nil, List.length_map, List.length_set, ne_eq, not_true_eq_false, not_false_eq_true, Nat.succ_ne_zero]; omega)) only [go_sem, reduceIte, reduceCtorEq, Nat.succ_ne_zero, not_false_eq_true, decide_true, decide_false, Nat.reduceAdd, Nat.reduceMul, Nat.reduceEqDiff, Nat.reduceLeDiff, hd]
    exact ret_r (v := .bool (decide (a < a'))) (by rw [ares_tmp ret13]; rfl) ⟨by congr 1; exact decide_eq_decide.2 (show (a < a') ↔ Pl.lt ⟨a, b, c⟩ ⟨a', b', c'⟩ from ⟨fun h => .inl h, fun h => by simp only [Pl.lt] at h; omega⟩), by rw [← eM]; exact kM⟩
end Go.Proofs.Ytjdmndklnfhmjaa
