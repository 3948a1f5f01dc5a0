/- Spans: comparing them, and looking into them. -/
import Derived.Test.YtalijeodmmlfjaaWb
set_option linter.unusedVariables false
set_option linter.unusedSimpArgs false
set_option linter.unusedSectionVars false
namespace Go.Proofs.Ytalijeodmmlfjaa
open Go.Abs
set_option maxHeartbeats 8000000
set_option maxRecDepth 100000

def spc (s : Int × Int) : List Value := [.int .i64 s.1, .int .i64 s.2]

theorem n17 : Try.f17.ntmps = 26 := rfl
theorem ret17 : Try.f17.results = #[.tmp 4] := rfl
theorem take_ne {α : Type} {xs ys : List α} {k : Nat} (h1 : k < xs.length) (h2 : k < ys.length) (h : xs[k] ≠ ys[k]) : xs ≠ ys := fun e => by subst e; exact h rfl
theorem take_succ_eq {α : Type} {xs ys : List α} {k : Nat} (h1 : k < xs.length) (h2 : k < ys.length) (h : xs[k] = ys[k]) (ht : xs.take k = ys.take k) : xs.take (k + 1) = ys.take (k + 1) := by
  rw [List.take_succ_eq_append_getElem h1, List.take_succ_eq_append_getElem h2, ht, h]

theorem spans_spec (H : Hp) (a b : Option Addr) (xs ys : List (Int × Int)) (hx : xs.length ≤ 9223372036854775806) (hy : ys.length ≤ 9223372036854775806) (hea : Elems H a 2 (xs.map spc)) (heb : Elems H b 2 (ys.map spc)) :
    ACalls Try.prog 17 [.slice a xs.length xs.length, .slice b ys.length ys.length] H (fun v H' => v = .bool (decide (xs = ys)) ∧ H' = H) := by
  refine ACalls_enter Try.func17 (by kernel_rfl) rfl (by kernel_rfl) (by simp [n17]) fun hw hr => AWP_of_awp ?_
  simp -implicitDefEqProofs (maxSteps := 2000000) (disch := first | omega | (simp only [nx_new, nx_set, List.length_cons, List.length_nil, List.length_map, List.length_set, ne_eq, not_true_eq_false, not_false_eq_true, Nat.succ_ne_zero]; done) | (simp only [nx_new, nx_set, List.length_cons, List.length_nil, List.length_map, List.length_set, ne_eq, not_true_eq_false, not_false_eq_true, Nat.succ_ne_zero]; omega)) only [go_sem, reduceIte, reduceCtorEq, Nat.succ_ne_zero, not_false_eq_true, decide_true, decide_false, Nat.reduceAdd, Nat.reduceMul, Nat.reduceEqDiff, Nat.reduceLeDiff]
  refine condS_split (fun hc => ?_) (fun hc => ?_)
  · have hne : decide (xs = ys) = false := decide_eq_false fun e => by subst e; simp at hc
    simp -implicitDefEqProofs (maxSteps := 2000000) (disch := first | omega | (simp only [nx_new, nx_set, List.length_cons, List.length_nil, List.length_map, List.length_set, ne_eq, not_true_eq_false, not_false_eq_true, Nat.succ_ne_zero]; done) | (simp only [nx_new, nx_set, List.length_cons, List.length_nil, List.length_map, List.length_set, ne_eq, not_true_eq_false, not_false_eq_true, Nat.succ_ne_zero]; omega)) only [go_sem, reduceIte, reduceCtorEq, Nat.succ_ne_zero, not_false_eq_true, decide_true, decide_false, Nat.reduceAdd, Nat.reduceMul, Nat.reduceEqDiff, Nat.reduceLeDiff, hc]
    exact ret_r (v := .bool false) (by rw [ares_tmp ret17]; rfl) ⟨by rw [hne], rfl⟩
  · have hlen : xs.length = ys.length := by simp at hc; omega
    simp -implicitDefEqProofs (maxSteps := 2000000) (disch := first | omega | (simp only [nx_new, nx_set, List.length_cons, List.length_nil, List.length_map, List.length_set, ne_eq, not_true_eq_false, not_false_eq_true, Nat.succ_ne_zero]; done) | (simp only [nx_new, nx_set, List.length_cons, List.length_nil, List.length_map, List.length_set, ne_eq, not_true_eq_false, not_false_eq_true, Nat.succ_ne_zero]; omega)) only [go_sem, reduceIte, reduceCtorEq, Nat.succ_ne_zero, not_false_eq_true, decide_true, decide_false, Nat.reduceAdd, Nat.reduceMul, Nat.reduceEqDiff, Nat.reduceLeDiff, hc]
    refine AWP_loop (σ := Nat) (fun k => [(5, .int .i64 k), (0, .slice a xs.length xs.length), (1, .slice b ys.length ys.length)]) (fun _ => H) (fun k => k ≤ xs.length ∧ xs.take k = ys.take k) (fun k => xs.length - k) 0 ⟨Nat.zero_le _, rfl⟩ (Weak.sub ?_) ?_
    · simp -implicitDefEqProofs (disch := omega) only [Abs.Sub, get_cons_eq, get_cons_ne, and_self, Int.natCast_zero, Int.natCast_add, Int.natCast_one]
    · rintro k ⟨hk, hin⟩
      refine AWP_of_awp ?_
      by_cases hlt : k < xs.length
      · obtain ⟨b1, o1, rfl, hb1, hl1⟩ := hea k (by simpa using hlt)
        have hlt2 : k < ys.length := by omega
        obtain ⟨b2, o2, rfl, hb2, hl2⟩ := heb k (by simpa using hlt2)
        simp only [List.getElem_map, spc] at hl1 hl2
        simp -implicitDefEqProofs (maxSteps := 2000000) (disch := first | omega | (simp only [nx_new, nx_set, List.length_cons, List.length_nil, List.length_map, List.length_set, ne_eq, not_true_eq_false, not_false_eq_true, Nat.succ_ne_zero]; done) | (simp only [nx_new, nx_set, List.length_cons, List.length_nil, List.length_map, List.length_set, ne_eq, not_true_eq_false, not_false_eq_true, Nat.succ_ne_zero]; omega)) only [go_sem, reduceIte, reduceCtorEq, Nat.succ_ne_zero, not_false_eq_true, decide_true, decide_false, Nat.reduceAdd, Nat.reduceMul, Nat.reduceEqDiff, Nat.reduceLeDiff, hl1, hl2]
        refine AWP_draw_in mo (by kernel_rfl) ?_
        simp -implicitDefEqProofs (maxSteps := 2000000) (disch := first | omega | (simp only [nx_new, nx_set, List.length_cons, List.length_nil, List.length_map, List.length_set, ne_eq, not_true_eq_false, not_false_eq_true, Nat.succ_ne_zero]; done) | (simp only [nx_new, nx_set, List.length_cons, List.length_nil, List.length_map, List.length_set, ne_eq, not_true_eq_false, not_false_eq_true, Nat.succ_ne_zero]; omega)) only [go_sem, reduceIte, reduceCtorEq, Nat.succ_ne_zero, not_false_eq_true, decide_true, decide_false, Nat.reduceAdd, Nat.reduceMul, Nat.reduceEqDiff, Nat.reduceLeDiff, hl1, hl2]
        refine condS_split (fun hc2 => ?_) (fun hc2 => ?_)
        · simp -implicitDefEqProofs (maxSteps := 2000000) (disch := first | omega | (simp only [nx_new, nx_set, List.length_cons, List.length_nil, List.length_map, List.length_set, ne_eq, not_true_eq_false, not_false_eq_true, Nat.succ_ne_zero]; done) | (simp only [nx_new, nx_set, List.length_cons, List.length_nil, List.length_map, List.length_set, ne_eq, not_true_eq_false, not_false_eq_true, Nat.succ_ne_zero]; omega)) only [go_sem, reduceIte, reduceCtorEq, Nat.succ_ne_zero, not_false_eq_true, decide_true, decide_false, Nat.reduceAdd, Nat.reduceMul, Nat.reduceEqDiff, Nat.reduceLeDiff, hc2]
          have hne : xs[k] ≠ ys[k] := fun e => by rw [e] at hc2; simp at hc2
          exact ret_r (v := .bool false) (by rw [ares_tmp ret17]; rfl) ⟨by rw [decide_eq_false (take_ne hlt hlt2 hne)], rfl⟩
        · simp -implicitDefEqProofs (maxSteps := 2000000) (disch := first | omega | (simp only [nx_new, nx_set, List.length_cons, List.length_nil, List.length_map, List.length_set, ne_eq, not_true_eq_false, not_false_eq_true, Nat.succ_ne_zero]; done) | (simp only [nx_new, nx_set, List.length_cons, List.length_nil, List.length_map, List.length_set, ne_eq, not_true_eq_false, not_false_eq_true, Nat.succ_ne_zero]; omega)) only [go_sem, reduceIte, reduceCtorEq, Nat.succ_ne_zero, not_false_eq_true, decide_true, decide_false, Nat.reduceAdd, Nat.reduceMul, Nat.reduceEqDiff, Nat.reduceLeDiff, hc2]
          have he : xs[k] = ys[k] := by
            simp only [Bool.not_eq_false', Bool.and_eq_true, beq_iff_eq] at hc2
            exact Prod.ext hc2.1 hc2.2
          refine ⟨k + 1, ⟨hlt, take_succ_eq hlt hlt2 he hin⟩, by omega, Weak.sub ?_⟩
          simp -implicitDefEqProofs (disch := omega) only [Abs.Sub, get_cons_eq, get_cons_ne, and_self, Int.natCast_zero, Int.natCast_add, Int.natCast_one]
      · have e1 : xs.take k = xs := List.take_of_length_le (by omega)
        have e2 : ys.take k = ys := List.take_of_length_le (by omega)
        rw [e1, e2] at hin
        simp -implicitDefEqProofs (maxSteps := 2000000) (disch := first | omega | (simp only [nx_new, nx_set, List.length_cons, List.length_nil, List.length_map, List.length_set, ne_eq, not_true_eq_false, not_false_eq_true, Nat.succ_ne_zero]; done) | (simp only [nx_new, nx_set, List.length_cons, List.length_nil, List.length_map, List.length_set, ne_eq, not_true_eq_false, not_false_eq_true, Nat.succ_ne_zero]; omega)) only [go_sem, reduceIte, reduceCtorEq, Nat.succ_ne_zero, not_false_eq_true, decide_true, decide_false, Nat.reduceAdd, Nat.reduceMul, Nat.reduceEqDiff, Nat.reduceLeDiff]
        exact ret_r (v := .bool true) (by rw [ares_tmp ret17]; rfl) ⟨by rw [decide_eq_true hin], rfl⟩

/-! ### inside -/
def insideB (l : List (Int × Int)) (m : Int) : Bool := l.any fun s => decide (s.1 ≤ m) && decide (m ≤ s.2)
theorem n18 : Try.f18.ntmps = 28 := rfl
theorem ret18 : Try.f18.results = #[.tmp 4] := rfl
theorem inside_yes {l : List (Int × Int)} {m : Int} {k : Nat} (hk : k < l.length) (h1 : l[k].1 ≤ m) (h2 : m ≤ l[k].2) : insideB l m = true := by
  simp only [insideB, List.any_eq_true]
  exact ⟨l[k], List.getElem_mem hk, by simp [h1, h2]⟩
theorem inside_next {l : List (Int × Int)} {m : Int} {k : Nat} (hk : k < l.length) (h : insideB (l.take k) m = false) (hn : ¬(l[k].1 ≤ m ∧ m ≤ l[k].2)) : insideB (l.take (k + 1)) m = false := by
  simp only [insideB] at h ⊢
  rw [List.take_succ_eq_append_getElem hk, List.any_append, h]
  simp
  intro h1
  omega
theorem inside_spec (H : Hp) (a : Option Addr) (l : List (Int × Int)) (m : Int) (hl : l.length ≤ 9223372036854775806) (he : Elems H a 2 (l.map spc)) :
    ACalls Try.prog 18 [.slice a l.length l.length, .int .i64 m] H (fun v H' => v = .bool (insideB l m) ∧ H' = H) := by
  refine ACalls_enter Try.func18 (by kernel_rfl) rfl (by kernel_rfl) (by simp [n18]) fun hw hr => AWP_of_awp ?_
  simp -implicitDefEqProofs (maxSteps := 2000000) (disch := first | omega | (simp only [nx_new, nx_set, List.length_cons, List.length_nil, List.length_map, List.length_set, ne_eq, not_true_eq_false, not_false_eq_true, Nat.succ_ne_zero]; done) | (simp only [nx_new, nx_set, List.length_cons, List.length_nil, List.length_map, List.length_set, ne_eq, not_true_eq_false, not_false_eq_true, Nat.succ_ne_zero]; omega)) only [go_sem, reduceIte, reduceCtorEq, Nat.succ_ne_zero, not_false_eq_true, decide_true, decide_false, Nat.reduceAdd, Nat.reduceMul, Nat.reduceEqDiff, Nat.reduceLeDiff]
  refine AWP_loop (σ := Nat) (fun k => [(5, .int .i64 k), (0, .slice a l.length l.length), (1, .int .i64 m)]) (fun _ => H) (fun k => k ≤ l.length ∧ insideB (l.take k) m = false) (fun k => l.length - k) 0 ⟨Nat.zero_le _, rfl⟩ (Weak.sub ?_) ?_
  · simp -implicitDefEqProofs (disch := omega) only [Abs.Sub, get_cons_eq, get_cons_ne, and_self, Int.natCast_zero, Int.natCast_add, Int.natCast_one]
  · rintro k ⟨hk, hin⟩
    refine AWP_of_awp ?_
    by_cases hlt : k < l.length
    · obtain ⟨b1, o1, rfl, hb1, hl1⟩ := he k (by simpa using hlt)
      have hyes := fun h1 h2 => inside_yes (m := m) hlt h1 h2
      have hnx := inside_next (m := m) hlt hin
      simp only [List.getElem_map, spc] at hl1
      generalize l[k] = s at *
      obtain ⟨f, u⟩ := s
      simp only at hl1 hyes hnx
      have h1 : load1 H ⟨b1, o1 + k * 2, none⟩ = some (.int .i64 f) := (load1_part (i := 0) hl1 (by simp)).trans rfl
      have h2 : load1 H ⟨b1, o1 + k * 2 + 1, none⟩ = some (.int .i64 u) := (load1_part (i := 1) hl1 (by simp)).trans rfl
      simp -implicitDefEqProofs (maxSteps := 2000000) (disch := first | omega | (simp only [nx_new, nx_set, List.length_cons, List.length_nil, List.length_map, List.length_set, ne_eq, not_true_eq_false, not_false_eq_true, Nat.succ_ne_zero]; done) | (simp only [nx_new, nx_set, List.length_cons, List.length_nil, List.length_map, List.length_set, ne_eq, not_true_eq_false, not_false_eq_true, Nat.succ_ne_zero]; omega)) only [go_sem, reduceIte, reduceCtorEq, Nat.succ_ne_zero, not_false_eq_true, decide_true, decide_false, Nat.reduceAdd, Nat.reduceMul, Nat.reduceEqDiff, Nat.reduceLeDiff, h1]
      refine guardS_split (fun hc => ?_) (fun hc => ?_)
      · have hp := of_decide_eq_true hc
        simp -implicitDefEqProofs (maxSteps := 2000000) (disch := first | omega | (simp only [nx_new, nx_set, List.length_cons, List.length_nil, List.length_map, List.length_set, ne_eq, not_true_eq_false, not_false_eq_true, Nat.succ_ne_zero]; done) | (simp only [nx_new, nx_set, List.length_cons, List.length_nil, List.length_map, List.length_set, ne_eq, not_true_eq_false, not_false_eq_true, Nat.succ_ne_zero]; omega)) only [go_sem, reduceIte, reduceCtorEq, Nat.succ_ne_zero, not_false_eq_true, decide_true, decide_false, Nat.reduceAdd, Nat.reduceMul, Nat.reduceEqDiff, Nat.reduceLeDiff, hc, h2]
        refine condS_split (fun hd => ?_) (fun hd => ?_)
        · have hp2 := of_decide_eq_true hd
          simp -implicitDefEqProofs (maxSteps := 2000000) (disch := first | omega | (simp only [nx_new, nx_set, List.length_cons, List.length_nil, List.length_map, List.length_set, ne_eq, not_true_eq_false, not_false_eq_true, Nat.succ_ne_zero]; done) | (simp only [nx_new, nx_set, List.length_cons, List.length_nil, List.length_map, List.length_set, ne_eq, not_true_eq_false, not_false_eq_true, Nat.succ_ne_zero]; omega)) only [go_sem, reduceIte, reduceCtorEq, Nat.succ_ne_zero, not_false_eq_true, decide_true, decide_false, Nat.reduceAdd, Nat.reduceMul, Nat.reduceEqDiff, Nat.reduceLeDiff, hd]
          exact ret_r (v := .bool true) (by rw [ares_tmp ret18]; rfl) ⟨by rw [hyes hp hp2], rfl⟩
        · have hp2 := of_decide_eq_false hd
          simp -implicitDefEqProofs (maxSteps := 2000000) (disch := first | omega | (simp only [nx_new, nx_set, List.length_cons, List.length_nil, List.length_map, List.length_set, ne_eq, not_true_eq_false, not_false_eq_true, Nat.succ_ne_zero]; done) | (simp only [nx_new, nx_set, List.length_cons, List.length_nil, List.length_map, List.length_set, ne_eq, not_true_eq_false, not_false_eq_true, Nat.succ_ne_zero]; omega)) only [go_sem, reduceIte, reduceCtorEq, Nat.succ_ne_zero, not_false_eq_true, decide_true, decide_false, Nat.reduceAdd, Nat.reduceMul, Nat.reduceEqDiff, Nat.reduceLeDiff, hd]
          refine ⟨k + 1, ⟨hlt, hnx fun h => hp2 h.2⟩, by omega, Weak.sub ?_⟩
          simp -implicitDefEqProofs (disch := omega) only [Abs.Sub, get_cons_eq, get_cons_ne, and_self, Int.natCast_zero, Int.natCast_add, Int.natCast_one]
      · have hp := of_decide_eq_false hc
        simp -implicitDefEqProofs (maxSteps := 2000000) (disch := first | omega | (simp only [nx_new, nx_set, List.length_cons, List.length_nil, List.length_map, List.length_set, ne_eq, not_true_eq_false, not_false_eq_true, Nat.succ_ne_zero]; done) | (simp only [nx_new, nx_set, List.length_cons, List.length_nil, List.length_map, List.length_set, ne_eq, not_true_eq_false, not_false_eq_true, Nat.succ_ne_zero]; omega)) only [go_sem, reduceIte, reduceCtorEq, Nat.succ_ne_zero, not_false_eq_true, decide_true, decide_false, Nat.reduceAdd, Nat.reduceMul, Nat.reduceEqDiff, Nat.reduceLeDiff, hc]
        refine ⟨k + 1, ⟨hlt, hnx fun h => hp h.1⟩, by omega, Weak.sub ?_⟩
        simp -implicitDefEqProofs (disch := omega) only [Abs.Sub, get_cons_eq, get_cons_ne, and_self, Int.natCast_zero, Int.natCast_add, Int.natCast_one]
    · have e : l.take k = l := List.take_of_length_le (by omega)
      rw [e] at hin
      simp -implicitDefEqProofs (maxSteps := 2000000) (disch := first | omega | (simp only [nx_new, nx_set, List.length_cons, List.length_nil, List.length_map, List.length_set, ne_eq, not_true_eq_false, not_false_eq_true, Nat.succ_ne_zero]; done) | (simp only [nx_new, nx_set, List.length_cons, List.length_nil, List.length_map, List.length_set, ne_eq, not_true_eq_false, not_false_eq_true, Nat.succ_ne_zero]; omega)) only [go_sem, reduceIte, reduceCtorEq, Nat.succ_ne_zero, not_false_eq_true, decide_true, decide_false, Nat.reduceAdd, Nat.reduceMul, Nat.reduceEqDiff, Nat.reduceLeDiff]
      exact ret_r (v := .bool false) (by rw [ares_tmp ret18]; rfl) ⟨by rw [hin], rfl⟩
end Go.Proofs.Ytalijeodmmlfjaa
