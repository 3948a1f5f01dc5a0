/- Spans: valid, few, Ints and their like. -/
import Derived.Test.YtjgdmjoafpbnaaaSa
set_option linter.unusedVariables false
set_option linter.unusedSimpArgs false
set_option linter.unusedSectionVars false
namespace Go.Proofs.Ytjgdmjoafpbnaaa
open Go.Abs
set_option maxHeartbeats 8000000
set_option maxRecDepth 100000

abbrev Sp := Int × Int
def spc (s : Sp) : List Value := [.int .i64 s.1, .int .i64 s.2]
def okS (s : Sp) : Bool := decide (-39399 ≤ s.1) && decide (s.2 ≤ 39399) && decide (s.1 ≤ s.2)
def validB (l : List Sp) : Bool := decide (l.length ≤ 1000) && l.all okS
theorem okS_in {s : Sp} (h : okS s = true) : -39399 ≤ s.1 ∧ s.2 ≤ 39399 ∧ s.1 ≤ s.2 := by
  simp only [okS, Bool.and_eq_true, decide_eq_true_eq] at h; exact ⟨h.1.1, h.1.2, h.2⟩
theorem valid_in {l : List Sp} (h : validB l = true) : ∀ s, s ∈ l → -39399 ≤ s.1 ∧ s.2 ≤ 39399 ∧ s.1 ≤ s.2 := fun s hs => by
  simp only [validB, Bool.and_eq_true] at h
  exact okS_in (List.all_eq_true.1 h.2 s hs)
theorem spc_len (out : List Sp) : ∀ x, x ∈ out.map spc → x.length = 2 := by
  intro x hx
  obtain ⟨s, _, rfl⟩ := List.mem_map.1 hx
  rfl
theorem spc_flat (out : List Sp) : ((out.map spc).flatten).length = out.length * 2 := by rw [flat_len (spc_len out), List.length_map]
theorem spc_app (out : List Sp) (f u : Int) : ((out.map spc).flatten) ++ [.int .i64 f, .int .i64 u] = ((out ++ [(f, u)]).map spc).flatten := by
  simp only [List.map_append, List.flatten_append, List.map_cons, List.map_nil, List.flatten_cons, List.flatten_nil, List.append_nil]
  rfl

theorem n27 : Try.f27.ntmps = 18 := rfl
theorem ret27 : Try.f27.results = #[.tmp 2] := rfl
theorem wrong_spec (H : Hp) (f u : Int) : ACalls Try.prog 27 [.agg #[.int .i64 f, .int .i64 u]] H (fun v H' => v = .bool (!okS (f, u)) ∧ H' = H) := by
  refine ACalls_enter Try.func27 (by kernel_rfl) rfl (by kernel_rfl) (by simp [n27]) fun hw hr => AWP_of_awp ?_
  simp -implicitDefEqProofs (maxSteps := 2000000) (disch := first | omega | (simp only [nx_new, nx_set, List.length_cons, List.length_nil, List.length_map, List.length_set, ne_eq, not_true_eq_false, not_false_eq_true, Nat.succ_ne_zero]; done) | (simp only [nx_new, nx_set, List.length_cons, List.length_nil, List.length_map, List.length_set, ne_eq, not_true_eq_false, not_false_eq_true, Nat.succ_ne_zero]; omega)) only [go_sem, reduceIte, reduceCtorEq, Nat.succ_ne_zero, not_false_eq_true, decide_true, decide_false, Nat.reduceAdd, Nat.reduceMul, Nat.reduceEqDiff, Nat.reduceLeDiff]
  refine guardS_split (fun h1 => ?_) (fun h1 => ?_)
  · have g1 := of_decide_eq_true h1
    simp -implicitDefEqProofs (maxSteps := 2000000) (disch := first | omega | (simp only [nx_new, nx_set, List.length_cons, List.length_nil, List.length_map, List.length_set, ne_eq, not_true_eq_false, not_false_eq_true, Nat.succ_ne_zero]; done) | (simp only [nx_new, nx_set, List.length_cons, List.length_nil, List.length_map, List.length_set, ne_eq, not_true_eq_false, not_false_eq_true, Nat.succ_ne_zero]; omega)) only [go_sem, reduceIte, reduceCtorEq, Nat.succ_ne_zero, not_false_eq_true, decide_true, decide_false, Nat.reduceAdd, Nat.reduceMul, Nat.reduceEqDiff, Nat.reduceLeDiff, h1]
    refine ret_same (G := H) (v := .bool true) .normal (.inl rfl) hw (Nat.le_refl _) (by rw [ares_tmp ret27]; rfl) rfl (fun b hb => by simp -implicitDefEqProofs (maxSteps := 2000000) (disch := first | omega | (simp only [nx_new, nx_set, List.length_cons, List.length_nil, List.length_map, List.length_set, ne_eq, not_true_eq_false, not_false_eq_true, Nat.succ_ne_zero]; done) | (simp only [nx_new, nx_set, List.length_cons, List.length_nil, List.length_map, List.length_set, ne_eq, not_true_eq_false, not_false_eq_true, Nat.succ_ne_zero]; omega)) only [go_sem, reduceIte, reduceCtorEq, Nat.succ_ne_zero, not_false_eq_true, decide_true, decide_false, Nat.reduceAdd, Nat.reduceMul, Nat.reduceEqDiff, Nat.reduceLeDiff]) ⟨?_, rfl⟩
    rw [okS, decide_eq_false (show ¬-39399 ≤ f by omega)]; rfl
  · have g1 := of_decide_eq_false h1
    simp -implicitDefEqProofs (maxSteps := 2000000) (disch := first | omega | (simp only [nx_new, nx_set, List.length_cons, List.length_nil, List.length_map, List.length_set, ne_eq, not_true_eq_false, not_false_eq_true, Nat.succ_ne_zero]; done) | (simp only [nx_new, nx_set, List.length_cons, List.length_nil, List.length_map, List.length_set, ne_eq, not_true_eq_false, not_false_eq_true, Nat.succ_ne_zero]; omega)) only [go_sem, reduceIte, reduceCtorEq, Nat.succ_ne_zero, not_false_eq_true, decide_true, decide_false, Nat.reduceAdd, Nat.reduceMul, Nat.reduceEqDiff, Nat.reduceLeDiff, h1]
    refine guardS_split (fun h2 => ?_) (fun h2 => ?_)
    · have g2 := of_decide_eq_true h2
      simp -implicitDefEqProofs (maxSteps := 2000000) (disch := first | omega | (simp only [nx_new, nx_set, List.length_cons, List.length_nil, List.length_map, List.length_set, ne_eq, not_true_eq_false, not_false_eq_true, Nat.succ_ne_zero]; done) | (simp only [nx_new, nx_set, List.length_cons, List.length_nil, List.length_map, List.length_set, ne_eq, not_true_eq_false, not_false_eq_true, Nat.succ_ne_zero]; omega)) only [go_sem, reduceIte, reduceCtorEq, Nat.succ_ne_zero, not_false_eq_true, decide_true, decide_false, Nat.reduceAdd, Nat.reduceMul, Nat.reduceEqDiff, Nat.reduceLeDiff, h2]
      refine ret_same (G := H) (v := .bool true) .normal (.inl rfl) hw (Nat.le_refl _) (by rw [ares_tmp ret27]; rfl) rfl (fun b hb => by simp -implicitDefEqProofs (maxSteps := 2000000) (disch := first | omega | (simp only [nx_new, nx_set, List.length_cons, List.length_nil, List.length_map, List.length_set, ne_eq, not_true_eq_false, not_false_eq_true, Nat.succ_ne_zero]; done) | (simp only [nx_new, nx_set, List.length_cons, List.length_nil, List.length_map, List.length_set, ne_eq, not_true_eq_false, not_false_eq_true, Nat.succ_ne_zero]; omega)) only [go_sem, reduceIte, reduceCtorEq, Nat.succ_ne_zero, not_false_eq_true, decide_true, decide_false, Nat.reduceAdd, Nat.reduceMul, Nat.reduceEqDiff, Nat.reduceLeDiff]) ⟨?_, rfl⟩
      rw [okS, decide_eq_false (show ¬u ≤ 39399 by omega)]; simp
    · have g2 := of_decide_eq_false h2
      simp -implicitDefEqProofs (maxSteps := 2000000) (disch := first | omega | (simp only [nx_new, nx_set, List.length_cons, List.length_nil, List.length_map, List.length_set, ne_eq, not_true_eq_false, not_false_eq_true, Nat.succ_ne_zero]; done) | (simp only [nx_new, nx_set, List.length_cons, List.length_nil, List.length_map, List.length_set, ne_eq, not_true_eq_false, not_false_eq_true, Nat.succ_ne_zero]; omega)) only [go_sem, reduceIte, reduceCtorEq, Nat.succ_ne_zero, not_false_eq_true, decide_true, decide_false, Nat.reduceAdd, Nat.reduceMul, Nat.reduceEqDiff, Nat.reduceLeDiff, h2]
      refine ret_same (G := H) (v := .bool (decide (u < f))) .normal (.inl rfl) hw (Nat.le_refl _) (by rw [ares_tmp ret27]; rfl) rfl (fun b hb => by simp -implicitDefEqProofs (maxSteps := 2000000) (disch := first | omega | (simp only [nx_new, nx_set, List.length_cons, List.length_nil, List.length_map, List.length_set, ne_eq, not_true_eq_false, not_false_eq_true, Nat.succ_ne_zero]; done) | (simp only [nx_new, nx_set, List.length_cons, List.length_nil, List.length_map, List.length_set, ne_eq, not_true_eq_false, not_false_eq_true, Nat.succ_ne_zero]; omega)) only [go_sem, reduceIte, reduceCtorEq, Nat.succ_ne_zero, not_false_eq_true, decide_true, decide_false, Nat.reduceAdd, Nat.reduceMul, Nat.reduceEqDiff, Nat.reduceLeDiff]) ⟨?_, rfl⟩
      rw [okS, decide_eq_true (show -39399 ≤ f by omega), decide_eq_true (show u ≤ 39399 by omega), Bool.true_and, Bool.true_and, ← decide_not]
      congr 1
      exact decide_eq_decide.2 (by simp only; omega)

theorem n32 : Try.f32.ntmps = 19 := rfl
theorem ret32 : Try.f32.results = #[.tmp 4] := rfl
theorem index_spec (H : Hp) (a : Option Addr) (l : List Sp) (hl : l.length ≤ 1000000) (he : Elems H a 2 (l.map spc)) :
    ACalls Try.prog 32 [.slice a l.length l.length, .func (.func 27) #[] #[]] H (fun v H' => (∃ z : Int, v = .int .i64 z ∧ decide (0 ≤ z) = !l.all okS) ∧ H' = H) := by
  refine ACalls_enter Try.func32 (by kernel_rfl) rfl (by kernel_rfl) (by simp [n32]) fun hw hr => AWP_of_awp ?_
  simp -implicitDefEqProofs (maxSteps := 2000000) (disch := first | omega | (simp only [nx_new, nx_set, List.length_cons, List.length_nil, List.length_map, List.length_set, ne_eq, not_true_eq_false, not_false_eq_true, Nat.succ_ne_zero]; done) | (simp only [nx_new, nx_set, List.length_cons, List.length_nil, List.length_map, List.length_set, ne_eq, not_true_eq_false, not_false_eq_true, Nat.succ_ne_zero]; omega)) only [go_sem, reduceIte, reduceCtorEq, Nat.succ_ne_zero, not_false_eq_true, decide_true, decide_false, Nat.reduceAdd, Nat.reduceMul, Nat.reduceEqDiff, Nat.reduceLeDiff]
  refine AWP_loop (σ := Nat) (fun k => [(8, .int .i64 k), (7, .int .i64 l.length), (0, .slice a l.length l.length), (1, .func (.func 27) #[] #[])]) (fun _ => H) (fun k => k ≤ l.length ∧ (l.take k).all okS = true) (fun k => l.length - k) 0 ⟨Nat.zero_le _, rfl⟩ (Weak.sub ?_) ?_
  · simp -implicitDefEqProofs (disch := omega) only [Abs.Sub, get_cons_eq, get_cons_ne, and_self, Int.natCast_zero, Int.natCast_add, Int.natCast_one]
  · rintro k ⟨hk, hin⟩
    refine AWP_of_awp ?_
    by_cases hlt : k < l.length
    · obtain ⟨b, o, rfl, hb, hload⟩ := he k (by simpa using hlt)
      simp only [List.getElem_map, spc] at hload
      generalize hd : l[k] = s at hload
      obtain ⟨f, u⟩ := s
      simp -implicitDefEqProofs (maxSteps := 2000000) (disch := first | omega | (simp only [nx_new, nx_set, List.length_cons, List.length_nil, List.length_map, List.length_set, ne_eq, not_true_eq_false, not_false_eq_true, Nat.succ_ne_zero]; done) | (simp only [nx_new, nx_set, List.length_cons, List.length_nil, List.length_map, List.length_set, ne_eq, not_true_eq_false, not_false_eq_true, Nat.succ_ne_zero]; omega)) only [go_sem, reduceIte, reduceCtorEq, Nat.succ_ne_zero, not_false_eq_true, decide_true, decide_false, Nat.reduceAdd, Nat.reduceMul, Nat.reduceEqDiff, Nat.reduceLeDiff, hload]
      refine ACalls.use_eq (wrong_spec H f u) ?_
      simp -implicitDefEqProofs (maxSteps := 2000000) (disch := first | omega | (simp only [nx_new, nx_set, List.length_cons, List.length_nil, List.length_map, List.length_set, ne_eq, not_true_eq_false, not_false_eq_true, Nat.succ_ne_zero]; done) | (simp only [nx_new, nx_set, List.length_cons, List.length_nil, List.length_map, List.length_set, ne_eq, not_true_eq_false, not_false_eq_true, Nat.succ_ne_zero]; omega)) only [go_sem, reduceIte, reduceCtorEq, Nat.succ_ne_zero, not_false_eq_true, decide_true, decide_false, Nat.reduceAdd, Nat.reduceMul, Nat.reduceEqDiff, Nat.reduceLeDiff]
      refine condS_split (fun hc => ?_) (fun hc => ?_)
      · simp -implicitDefEqProofs (maxSteps := 2000000) (disch := first | omega | (simp only [nx_new, nx_set, List.length_cons, List.length_nil, List.length_map, List.length_set, ne_eq, not_true_eq_false, not_false_eq_true, Nat.succ_ne_zero]; done) | (simp only [nx_new, nx_set, List.length_cons, List.length_nil, List.length_map, List.length_set, ne_eq, not_true_eq_false, not_false_eq_true, Nat.succ_ne_zero]; omega)) only [go_sem, reduceIte, reduceCtorEq, Nat.succ_ne_zero, not_false_eq_true, decide_true, decide_false, Nat.reduceAdd, Nat.reduceMul, Nat.reduceEqDiff, Nat.reduceLeDiff, hc]
        refine ret_r (v := .int .i64 k) (by rw [ares_tmp ret32]; rfl) ⟨⟨k, rfl, ?_⟩, rfl⟩
        have : l.all okS = false := by
          rw [List.all_eq_false]
          exact ⟨(f, u), hd ▸ List.getElem_mem hlt, by simpa using hc⟩
        rw [this, decide_eq_true (by omega)]; rfl
      · simp -implicitDefEqProofs (maxSteps := 2000000) (disch := first | omega | (simp only [nx_new, nx_set, List.length_cons, List.length_nil, List.length_map, List.length_set, ne_eq, not_true_eq_false, not_false_eq_true, Nat.succ_ne_zero]; done) | (simp only [nx_new, nx_set, List.length_cons, List.length_nil, List.length_map, List.length_set, ne_eq, not_true_eq_false, not_false_eq_true, Nat.succ_ne_zero]; omega)) only [go_sem, reduceIte, reduceCtorEq, Nat.succ_ne_zero, not_false_eq_true, decide_true, decide_false, Nat.reduceAdd, Nat.reduceMul, Nat.reduceEqDiff, Nat.reduceLeDiff, hc]
        refine ⟨k + 1, ⟨hlt, ?_⟩, by omega, Weak.sub ?_⟩
        · rw [List.take_succ_eq_append_getElem hlt, List.all_append, hin, hd]
          simpa using hc
        · simp -implicitDefEqProofs (disch := omega) only [Abs.Sub, get_cons_eq, get_cons_ne, and_self, Int.natCast_zero, Int.natCast_add, Int.natCast_one]
    · simp -implicitDefEqProofs (maxSteps := 2000000) (disch := first | omega | (simp only [nx_new, nx_set, List.length_cons, List.length_nil, List.length_map, List.length_set, ne_eq, not_true_eq_false, not_false_eq_true, Nat.succ_ne_zero]; done) | (simp only [nx_new, nx_set, List.length_cons, List.length_nil, List.length_map, List.length_set, ne_eq, not_true_eq_false, not_false_eq_true, Nat.succ_ne_zero]; omega)) only [go_sem, reduceIte, reduceCtorEq, Nat.succ_ne_zero, not_false_eq_true, decide_true, decide_false, Nat.reduceAdd, Nat.reduceMul, Nat.reduceEqDiff, Nat.reduceLeDiff]
      have e : l.take k = l := List.take_of_length_le (by omega)
      rw [e] at hin
      exact ret_r (v := .int .i64 (-1)) (by rw [ares_tmp ret32]; rfl) ⟨⟨-1, rfl, by rw [hin]; rfl⟩, rfl⟩

theorem n28 : Try.f28.ntmps = 9 := rfl
theorem ret28 : Try.f28.results = #[.tmp 4] := rfl
theorem contains_spec (H : Hp) (a : Option Addr) (l : List Sp) (hl : l.length ≤ 1000000) (he : Elems H a 2 (l.map spc)) :
    ACalls Try.prog 28 [.slice a l.length l.length, .func (.func 27) #[] #[]] H (fun v H' => v = .bool (!l.all okS) ∧ H' = H) := by
  refine ACalls_enter Try.func28 (by kernel_rfl) rfl (by kernel_rfl) (by simp [n28]) fun hw hr => AWP_of_awp ?_
  simp -implicitDefEqProofs (maxSteps := 2000000) (disch := first | omega | (simp only [nx_new, nx_set, List.length_cons, List.length_nil, List.length_map, List.length_set, ne_eq, not_true_eq_false, not_false_eq_true, Nat.succ_ne_zero]; done) | (simp only [nx_new, nx_set, List.length_cons, List.length_nil, List.length_map, List.length_set, ne_eq, not_true_eq_false, not_false_eq_true, Nat.succ_ne_zero]; omega)) only [go_sem, reduceIte, reduceCtorEq, Nat.succ_ne_zero, not_false_eq_true, decide_true, decide_false, Nat.reduceAdd, Nat.reduceMul, Nat.reduceEqDiff, Nat.reduceLeDiff]
  refine (index_spec H a l hl he).mono ?_
  rintro _ _ ⟨⟨z, rfl, hz⟩, rfl⟩
  simp -implicitDefEqProofs (maxSteps := 2000000) (disch := first | omega | (simp only [nx_new, nx_set, List.length_cons, List.length_nil, List.length_map, List.length_set, ne_eq, not_true_eq_false, not_false_eq_true, Nat.succ_ne_zero]; done) | (simp only [nx_new, nx_set, List.length_cons, List.length_nil, List.length_map, List.length_set, ne_eq, not_true_eq_false, not_false_eq_true, Nat.succ_ne_zero]; omega)) only [go_sem, reduceIte, reduceCtorEq, Nat.succ_ne_zero, not_false_eq_true, decide_true, decide_false, Nat.reduceAdd, Nat.reduceMul, Nat.reduceEqDiff, Nat.reduceLeDiff]
  rw [hz]
  exact ret_n (v := .bool (!l.all okS)) (by rw [ares_tmp ret28]; rfl) ⟨rfl, rfl⟩

theorem n18 : Try.f18.ntmps = 13 := rfl
theorem ret18 : Try.f18.results = #[.tmp 2] := rfl
theorem valid_spec (H : Hp) (a : Option Addr) (l : List Sp) (hl : l.length ≤ 9223372036854775806) (he : Elems H a 2 (l.map spc)) :
    ACalls Try.prog 18 [.slice a l.length l.length] H (fun v H' => v = .bool (validB l) ∧ H' = H) := by
  refine ACalls_enter Try.func18 (by kernel_rfl) rfl (by kernel_rfl) (by simp [n18]) fun hw hr => AWP_of_awp ?_
  simp -implicitDefEqProofs (maxSteps := 2000000) (disch := first | omega | (simp only [nx_new, nx_set, List.length_cons, List.length_nil, List.length_map, List.length_set, ne_eq, not_true_eq_false, not_false_eq_true, Nat.succ_ne_zero]; done) | (simp only [nx_new, nx_set, List.length_cons, List.length_nil, List.length_map, List.length_set, ne_eq, not_true_eq_false, not_false_eq_true, Nat.succ_ne_zero]; omega)) only [go_sem, reduceIte, reduceCtorEq, Nat.succ_ne_zero, not_false_eq_true, decide_true, decide_false, Nat.reduceAdd, Nat.reduceMul, Nat.reduceEqDiff, Nat.reduceLeDiff]
  refine guardS_split (fun hc => ?_) (fun hc => ?_)
  · have hp := of_decide_eq_true hc
    simp -implicitDefEqProofs (maxSteps := 2000000) (disch := first | omega | (simp only [nx_new, nx_set, List.length_cons, List.length_nil, List.length_map, List.length_set, ne_eq, not_true_eq_false, not_false_eq_true, Nat.succ_ne_zero]; done) | (simp only [nx_new, nx_set, List.length_cons, List.length_nil, List.length_map, List.length_set, ne_eq, not_true_eq_false, not_false_eq_true, Nat.succ_ne_zero]; omega)) only [go_sem, reduceIte, reduceCtorEq, Nat.succ_ne_zero, not_false_eq_true, decide_true, decide_false, Nat.reduceAdd, Nat.reduceMul, Nat.reduceEqDiff, Nat.reduceLeDiff, hc]
    refine ACalls.use_eq (contains_spec H a l (by omega) he) ?_
    simp -implicitDefEqProofs (maxSteps := 2000000) (disch := first | omega | (simp only [nx_new, nx_set, List.length_cons, List.length_nil, List.length_map, List.length_set, ne_eq, not_true_eq_false, not_false_eq_true, Nat.succ_ne_zero]; done) | (simp only [nx_new, nx_set, List.length_cons, List.length_nil, List.length_map, List.length_set, ne_eq, not_true_eq_false, not_false_eq_true, Nat.succ_ne_zero]; omega)) only [go_sem, reduceIte, reduceCtorEq, Nat.succ_ne_zero, not_false_eq_true, decide_true, decide_false, Nat.reduceAdd, Nat.reduceMul, Nat.reduceEqDiff, Nat.reduceLeDiff]
    exact ret_n (v := .bool (!!l.all okS)) (by rw [ares_tmp ret18]; rfl) ⟨by rw [validB, decide_eq_true (show l.length ≤ 1000 by omega), Bool.not_not]; rfl, rfl⟩
  · have hp := of_decide_eq_false hc
    simp -implicitDefEqProofs (maxSteps := 2000000) (disch := first | omega | (simp only [nx_new, nx_set, List.length_cons, List.length_nil, List.length_map, List.length_set, ne_eq, not_true_eq_false, not_false_eq_true, Nat.succ_ne_zero]; done) | (simp only [nx_new, nx_set, List.length_cons, List.length_nil, List.length_map, List.length_set, ne_eq, not_true_eq_false, not_false_eq_true, Nat.succ_ne_zero]; omega)) only [go_sem, reduceIte, reduceCtorEq, Nat.succ_ne_zero, not_false_eq_true, decide_true, decide_false, Nat.reduceAdd, Nat.reduceMul, Nat.reduceEqDiff, Nat.reduceLeDiff, hc]
    exact ret_n (v := .bool false) (by rw [ares_tmp ret18]; rfl) ⟨by rw [validB, decide_eq_false (show ¬l.length ≤ 1000 by omega)]; rfl, rfl⟩

theorem n11 : Try.f11.ntmps = 16 := rfl
theorem ret11 : Try.f11.results = #[.tmp 2] := rfl
theorem few_spec (H : Hp) (a : Option Addr) (n : Nat) : ACalls Try.prog 11 [.slice a n n] H (fun v H' => v = .bool (decide (n ≤ 30) || decide (999 ≤ n) && decide (n ≤ 1001)) ∧ H' = H) := by
  refine ACalls_enter Try.func11 (by kernel_rfl) rfl (by kernel_rfl) (by simp [n11]) fun hw hr => AWP_of_awp ?_
  simp -implicitDefEqProofs (maxSteps := 2000000) (disch := first | omega | (simp only [nx_new, nx_set, List.length_cons, List.length_nil, List.length_map, List.length_set, ne_eq, not_true_eq_false, not_false_eq_true, Nat.succ_ne_zero]; done) | (simp only [nx_new, nx_set, List.length_cons, List.length_nil, List.length_map, List.length_set, ne_eq, not_true_eq_false, not_false_eq_true, Nat.succ_ne_zero]; omega)) only [go_sem, reduceIte, reduceCtorEq, Nat.succ_ne_zero, not_false_eq_true, decide_true, decide_false, Nat.reduceAdd, Nat.reduceMul, Nat.reduceEqDiff, Nat.reduceLeDiff]
  refine guardS_split (fun hc => ?_) (fun hc => ?_)
  · have hp := of_decide_eq_true hc
    simp -implicitDefEqProofs (maxSteps := 2000000) (disch := first | omega | (simp only [nx_new, nx_set, List.length_cons, List.length_nil, List.length_map, List.length_set, ne_eq, not_true_eq_false, not_false_eq_true, Nat.succ_ne_zero]; done) | (simp only [nx_new, nx_set, List.length_cons, List.length_nil, List.length_map, List.length_set, ne_eq, not_true_eq_false, not_false_eq_true, Nat.succ_ne_zero]; omega)) only [go_sem, reduceIte, reduceCtorEq, Nat.succ_ne_zero, not_false_eq_true, decide_true, decide_false, Nat.reduceAdd, Nat.reduceMul, Nat.reduceEqDiff, Nat.reduceLeDiff, hc]
    exact ret_n (v := .bool true) (by rw [ares_tmp ret11]; rfl) ⟨by rw [decide_eq_true (show n ≤ 30 by omega)]; rfl, rfl⟩
  · have hp := of_decide_eq_false hc
    simp -implicitDefEqProofs (maxSteps := 2000000) (disch := first | omega | (simp only [nx_new, nx_set, List.length_cons, List.length_nil, List.length_map, List.length_set, ne_eq, not_true_eq_false, not_false_eq_true, Nat.succ_ne_zero]; done) | (simp only [nx_new, nx_set, List.length_cons, List.length_nil, List.length_map, List.length_set, ne_eq, not_true_eq_false, not_false_eq_true, Nat.succ_ne_zero]; omega)) only [go_sem, reduceIte, reduceCtorEq, Nat.succ_ne_zero, not_false_eq_true, decide_true, decide_false, Nat.reduceAdd, Nat.reduceMul, Nat.reduceEqDiff, Nat.reduceLeDiff, hc]
    refine guardS_split (fun hd => ?_) (fun hd => ?_)
    · have hp2 := of_decide_eq_true hd
      simp -implicitDefEqProofs (maxSteps := 2000000) (disch := first | omega | (simp only [nx_new, nx_set, List.length_cons, List.length_nil, List.length_map, List.length_set, ne_eq, not_true_eq_false, not_false_eq_true, Nat.succ_ne_zero]; done) | (simp only [nx_new, nx_set, List.length_cons, List.length_nil, List.length_map, List.length_set, ne_eq, not_true_eq_false, not_false_eq_true, Nat.succ_ne_zero]; omega)) only [go_sem, reduceIte, reduceCtorEq, Nat.succ_ne_zero, not_false_eq_true, decide_true, decide_false, Nat.reduceAdd, Nat.reduceMul, Nat.reduceEqDiff, Nat.reduceLeDiff, hd]
      refine ret_n (v := .bool (decide ((n : Int) ≤ 1001))) (by rw [ares_tmp ret11]; rfl) ⟨?_, rfl⟩
      rw [decide_eq_false (show ¬n ≤ 30 by omega), decide_eq_true (show 999 ≤ n by omega), Bool.false_or, Bool.true_and]
      congr 1
      exact decide_eq_decide.2 (by omega)
    · have hp2 := of_decide_eq_false hd
      simp -implicitDefEqProofs (maxSteps := 2000000) (disch := first | omega | (simp only [nx_new, nx_set, List.length_cons, List.length_nil, List.length_map, List.length_set, ne_eq, not_true_eq_false, not_false_eq_true, Nat.succ_ne_zero]; done) | (simp only [nx_new, nx_set, List.length_cons, List.length_nil, List.length_map, List.length_set, ne_eq, not_true_eq_false, not_false_eq_true, Nat.succ_ne_zero]; omega)) only [go_sem, reduceIte, reduceCtorEq, Nat.succ_ne_zero, not_false_eq_true, decide_true, decide_false, Nat.reduceAdd, Nat.reduceMul, Nat.reduceEqDiff, Nat.reduceLeDiff, hd]
      exact ret_n (v := .bool false) (by rw [ares_tmp ret11]; rfl) ⟨by rw [decide_eq_false (show ¬n ≤ 30 by omega), decide_eq_false (show ¬999 ≤ n by omega)]; rfl, rfl⟩

def ic (x : Int) : List Value := [.int .i64 x]
theorem take_ne {α : Type} {xs ys : List α} {k : Nat} (h1 : k < xs.length) (h2 : k < ys.length) (h : xs[k] ≠ ys[k]) : xs ≠ ys := fun e => by subst e; exact h rfl
theorem take_succ_eq {α : Type} {xs ys : List α} {k : Nat} (h1 : k < xs.length) (h2 : k < ys.length) (h : xs[k] = ys[k]) (ht : xs.take k = ys.take k) : xs.take (k + 1) = ys.take (k + 1) := by
  rw [List.take_succ_eq_append_getElem h1, List.take_succ_eq_append_getElem h2, ht, h]
theorem n14 : Try.f14.ntmps = 26 := rfl
theorem ret14 : Try.f14.results = #[.tmp 4] := rfl
theorem ints_spec (H : Hp) (a b : Option Addr) (xs ys : List Int) (hx : xs.length ≤ 9223372036854775806) (hy : ys.length ≤ 9223372036854775806) (hea : Elems H a 1 (xs.map ic)) (heb : Elems H b 1 (ys.map ic)) :
    ACalls Try.prog 14 [.slice a xs.length xs.length, .slice b ys.length ys.length] H (fun v H' => v = .bool (decide (xs = ys)) ∧ H' = H) := by
  refine ACalls_enter Try.func14 (by kernel_rfl) rfl (by kernel_rfl) (by simp [n14]) fun hw hr => AWP_of_awp ?_
  simp -implicitDefEqProofs (maxSteps := 2000000) (disch := first | omega | (simp only [nx_new, nx_set, List.length_cons, List.length_nil, List.length_map, List.length_set, ne_eq, not_true_eq_false, not_false_eq_true, Nat.succ_ne_zero]; done) | (simp only [nx_new, nx_set, List.length_cons, List.length_nil, List.length_map, List.length_set, ne_eq, not_true_eq_false, not_false_eq_true, Nat.succ_ne_zero]; omega)) only [go_sem, reduceIte, reduceCtorEq, Nat.succ_ne_zero, not_false_eq_true, decide_true, decide_false, Nat.reduceAdd, Nat.reduceMul, Nat.reduceEqDiff, Nat.reduceLeDiff]
  refine condS_split (fun hc => ?_) (fun hc => ?_)
  · have hne : decide (xs = ys) = false := decide_eq_false fun e => by subst e; simp at hc
    simp -implicitDefEqProofs (maxSteps := 2000000) (disch := first | omega | (simp only [nx_new, nx_set, List.length_cons, List.length_nil, List.length_map, List.length_set, ne_eq, not_true_eq_false, not_false_eq_true, Nat.succ_ne_zero]; done) | (simp only [nx_new, nx_set, List.length_cons, List.length_nil, List.length_map, List.length_set, ne_eq, not_true_eq_false, not_false_eq_true, Nat.succ_ne_zero]; omega)) only [go_sem, reduceIte, reduceCtorEq, Nat.succ_ne_zero, not_false_eq_true, decide_true, decide_false, Nat.reduceAdd, Nat.reduceMul, Nat.reduceEqDiff, Nat.reduceLeDiff, hc]
    exact ret_r (v := .bool false) (by rw [ares_tmp ret14]; rfl) ⟨by rw [hne], rfl⟩
  · have hlen : xs.length = ys.length := by simp at hc; omega
    simp -implicitDefEqProofs (maxSteps := 2000000) (disch := first | omega | (simp only [nx_new, nx_set, List.length_cons, List.length_nil, List.length_map, List.length_set, ne_eq, not_true_eq_false, not_false_eq_true, Nat.succ_ne_zero]; done) | (simp only [nx_new, nx_set, List.length_cons, List.length_nil, List.length_map, List.length_set, ne_eq, not_true_eq_false, not_false_eq_true, Nat.succ_ne_zero]; omega)) only [go_sem, reduceIte, reduceCtorEq, Nat.succ_ne_zero, not_false_eq_true, decide_true, decide_false, Nat.reduceAdd, Nat.reduceMul, Nat.reduceEqDiff, Nat.reduceLeDiff, hc]
    refine AWP_loop (σ := Nat) (fun k => [(5, .int .i64 k), (0, .slice a xs.length xs.length), (1, .slice b ys.length ys.length)]) (fun _ => H) (fun k => k ≤ xs.length ∧ xs.take k = ys.take k) (fun k => xs.length - k) 0 ⟨Nat.zero_le _, rfl⟩ (Weak.sub ?_) ?_
    · simp -implicitDefEqProofs (disch := omega) only [Abs.Sub, get_cons_eq, get_cons_ne, and_self, Int.natCast_zero, Int.natCast_add, Int.natCast_one]
    · rintro k ⟨hk, hin⟩
      refine AWP_of_awp ?_
      by_cases hlt : k < xs.length
      · obtain ⟨b1, o1, rfl, hb1, hl1⟩ := hea k (by simpa using hlt)
        have hlt2 : k < ys.length := by omega
        obtain ⟨b2, o2, rfl, hb2, hl2⟩ := heb k (by simpa using hlt2)
        simp only [List.getElem_map, ic, Nat.mul_one] at hl1 hl2
        have h1 : load1 H ⟨b1, o1 + k, none⟩ = some (.int .i64 xs[k]) := by simp only [load1, hl1]; rfl
        have h2 : load1 H ⟨b2, o2 + k, none⟩ = some (.int .i64 ys[k]) := by simp only [load1, hl2]; rfl
        simp -implicitDefEqProofs (maxSteps := 2000000) (disch := first | omega | (simp only [nx_new, nx_set, List.length_cons, List.length_nil, List.length_map, List.length_set, ne_eq, not_true_eq_false, not_false_eq_true, Nat.succ_ne_zero]; done) | (simp only [nx_new, nx_set, List.length_cons, List.length_nil, List.length_map, List.length_set, ne_eq, not_true_eq_false, not_false_eq_true, Nat.succ_ne_zero]; omega)) only [go_sem, reduceIte, reduceCtorEq, Nat.succ_ne_zero, not_false_eq_true, decide_true, decide_false, Nat.reduceAdd, Nat.reduceMul, Nat.reduceEqDiff, Nat.reduceLeDiff]
        refine AWP_draw_fast mo (by kernel_rfl) ?_
        simp -implicitDefEqProofs (maxSteps := 2000000) (disch := first | omega | (simp only [nx_new, nx_set, List.length_cons, List.length_nil, List.length_map, List.length_set, ne_eq, not_true_eq_false, not_false_eq_true, Nat.succ_ne_zero]; done) | (simp only [nx_new, nx_set, List.length_cons, List.length_nil, List.length_map, List.length_set, ne_eq, not_true_eq_false, not_false_eq_true, Nat.succ_ne_zero]; omega)) only [go_sem, reduceIte, reduceCtorEq, Nat.succ_ne_zero, not_false_eq_true, decide_true, decide_false, Nat.reduceAdd, Nat.reduceMul, Nat.reduceEqDiff, Nat.reduceLeDiff, h1, h2]
        refine condS_split (fun hc2 => ?_) (fun hc2 => ?_)
        · simp -implicitDefEqProofs (maxSteps := 2000000) (disch := first | omega | (simp only [nx_new, nx_set, List.length_cons, List.length_nil, List.length_map, List.length_set, ne_eq, not_true_eq_false, not_false_eq_true, Nat.succ_ne_zero]; done) | (simp only [nx_new, nx_set, List.length_cons, List.length_nil, List.length_map, List.length_set, ne_eq, not_true_eq_false, not_false_eq_true, Nat.succ_ne_zero]; omega)) only [go_sem, reduceIte, reduceCtorEq, Nat.succ_ne_zero, not_false_eq_true, decide_true, decide_false, Nat.reduceAdd, Nat.reduceMul, Nat.reduceEqDiff, Nat.reduceLeDiff, hc2]
          have hne : xs[k] ≠ ys[k] := bne_iff_ne.1 hc2
          exact ret_r (v := .bool false) (by rw [ares_tmp ret14]; rfl) ⟨by rw [decide_eq_false (take_ne hlt hlt2 hne)], rfl⟩
        · simp -implicitDefEqProofs (maxSteps := 2000000) (disch := first | omega | (simp only [nx_new, nx_set, List.length_cons, List.length_nil, List.length_map, List.length_set, ne_eq, not_true_eq_false, not_false_eq_true, Nat.succ_ne_zero]; done) | (simp only [nx_new, nx_set, List.length_cons, List.length_nil, List.length_map, List.length_set, ne_eq, not_true_eq_false, not_false_eq_true, Nat.succ_ne_zero]; omega)) only [go_sem, reduceIte, reduceCtorEq, Nat.succ_ne_zero, not_false_eq_true, decide_true, decide_false, Nat.reduceAdd, Nat.reduceMul, Nat.reduceEqDiff, Nat.reduceLeDiff, hc2]
          have he : xs[k] = ys[k] := by simpa using hc2
          refine ⟨k + 1, ⟨hlt, take_succ_eq hlt hlt2 he hin⟩, by omega, Weak.sub ?_⟩
          simp -implicitDefEqProofs (disch := omega) only [Abs.Sub, get_cons_eq, get_cons_ne, and_self, Int.natCast_zero, Int.natCast_add, Int.natCast_one]
      · have e1 : xs.take k = xs := List.take_of_length_le (by omega)
        have e2 : ys.take k = ys := List.take_of_length_le (by omega)
        rw [e1, e2] at hin
        simp -implicitDefEqProofs (maxSteps := 2000000) (disch := first | omega | (simp only [nx_new, nx_set, List.length_cons, List.length_nil, List.length_map, List.length_set, ne_eq, not_true_eq_false, not_false_eq_true, Nat.succ_ne_zero]; done) | (simp only [nx_new, nx_set, List.length_cons, List.length_nil, List.length_map, List.length_set, ne_eq, not_true_eq_false, not_false_eq_true, Nat.succ_ne_zero]; omega)) only [go_sem, reduceIte, reduceCtorEq, Nat.succ_ne_zero, not_false_eq_true, decide_true, decide_false, Nat.reduceAdd, Nat.reduceMul, Nat.reduceEqDiff, Nat.reduceLeDiff]
        exact ret_r (v := .bool true) (by rw [ares_tmp ret14]; rfl) ⟨by rw [decide_eq_true hin], rfl⟩

theorem n22 : Try.f22.ntmps = 40 := rfl
theorem ret22 : Try.f22.results = #[.tmp 2] := rfl
theorem refValid_spec (H : Hp) (a : Option Addr) (l : List Sp) (hl : l.length ≤ 9223372036854775806) (he : Elems H a 2 (l.map spc)) :
    ACalls Try.prog 22 [.slice a l.length l.length] H (fun v H' => v = .bool (validB l) ∧ H' = H) := by
  refine ACalls_enter Try.func22 (by kernel_rfl) rfl (by kernel_rfl) (by simp [n22]) fun hw hr => AWP_of_awp ?_
  simp -implicitDefEqProofs (maxSteps := 2000000) (disch := first | omega | (simp only [nx_new, nx_set, List.length_cons, List.length_nil, List.length_map, List.length_set, ne_eq, not_true_eq_false, not_false_eq_true, Nat.succ_ne_zero]; done) | (simp only [nx_new, nx_set, List.length_cons, List.length_nil, List.length_map, List.length_set, ne_eq, not_true_eq_false, not_false_eq_true, Nat.succ_ne_zero]; omega)) only [go_sem, reduceIte, reduceCtorEq, Nat.succ_ne_zero, not_false_eq_true, decide_true, decide_false, Nat.reduceAdd, Nat.reduceMul, Nat.reduceEqDiff, Nat.reduceLeDiff]
  refine AWP_loop (σ := Nat) (fun k => [(3, .int .i64 k), (0, .slice a l.length l.length)]) (fun _ => H) (fun k => k ≤ l.length ∧ (l.take k).all okS = true) (fun k => l.length - k) 0 ⟨Nat.zero_le _, rfl⟩ (Weak.sub ?_) ?_
  · simp -implicitDefEqProofs (disch := omega) only [Abs.Sub, get_cons_eq, get_cons_ne, and_self, Int.natCast_zero, Int.natCast_add, Int.natCast_one]
  · rintro k ⟨hk, hin⟩
    refine AWP_of_awp ?_
    by_cases hlt : k < l.length
    · obtain ⟨b, o, rfl, hb, hload⟩ := he k (by simpa using hlt)
      simp only [List.getElem_map, spc] at hload
      generalize hd : l[k] = s at hload
      obtain ⟨f, u⟩ := s
      have fin : okS (f, u) = false → validB l = false := fun h => by
        have : l.all okS = false := by
          rw [List.all_eq_false]
          exact ⟨(f, u), hd ▸ List.getElem_mem hlt, by simp [h]⟩
        rw [validB, this, Bool.and_false]
      have h1 : load1 H ⟨b, o + k * 2, none⟩ = some (.int .i64 f) := (load1_part (i := 0) hload (by simp)).trans rfl
      have h2 : load1 H ⟨b, o + k * 2 + 1, none⟩ = some (.int .i64 u) := (load1_part (i := 1) hload (by simp)).trans rfl
      simp -implicitDefEqProofs (maxSteps := 2000000) (disch := first | omega | (simp only [nx_new, nx_set, List.length_cons, List.length_nil, List.length_map, List.length_set, ne_eq, not_true_eq_false, not_false_eq_true, Nat.succ_ne_zero]; done) | (simp only [nx_new, nx_set, List.length_cons, List.length_nil, List.length_map, List.length_set, ne_eq, not_true_eq_false, not_false_eq_true, Nat.succ_ne_zero]; omega)) only [go_sem, reduceIte, reduceCtorEq, Nat.succ_ne_zero, not_false_eq_true, decide_true, decide_false, Nat.reduceAdd, Nat.reduceMul, Nat.reduceEqDiff, Nat.reduceLeDiff]
      refine AWP_draw_fast mo (by kernel_rfl) ?_
      by_cases c1 : f < -39399
      · simp -implicitDefEqProofs (maxSteps := 2000000) (disch := first | omega | (simp only [nx_new, nx_set, List.length_cons, List.length_nil, List.length_map, List.length_set, ne_eq, not_true_eq_false, not_false_eq_true, Nat.succ_ne_zero]; done) | (simp only [nx_new, nx_set, List.length_cons, List.length_nil, List.length_map, List.length_set, ne_eq, not_true_eq_false, not_false_eq_true, Nat.succ_ne_zero]; omega)) only [go_sem, reduceIte, reduceCtorEq, Nat.succ_ne_zero, not_false_eq_true, decide_true, decide_false, Nat.reduceAdd, Nat.reduceMul, Nat.reduceEqDiff, Nat.reduceLeDiff, h1, h2]
        exact ret_r (v := .bool false) (by rw [ares_tmp ret22]; rfl) ⟨by rw [fin (by rw [okS, decide_eq_false (show ¬-39399 ≤ f by omega)]; rfl)], rfl⟩
      · by_cases c2 : 39399 < u
        · simp -implicitDefEqProofs (maxSteps := 2000000) (disch := first | omega | (simp only [nx_new, nx_set, List.length_cons, List.length_nil, List.length_map, List.length_set, ne_eq, not_true_eq_false, not_false_eq_true, Nat.succ_ne_zero]; done) | (simp only [nx_new, nx_set, List.length_cons, List.length_nil, List.length_map, List.length_set, ne_eq, not_true_eq_false, not_false_eq_true, Nat.succ_ne_zero]; omega)) only [go_sem, reduceIte, reduceCtorEq, Nat.succ_ne_zero, not_false_eq_true, decide_true, decide_false, Nat.reduceAdd, Nat.reduceMul, Nat.reduceEqDiff, Nat.reduceLeDiff, h1, h2]
          exact ret_r (v := .bool false) (by rw [ares_tmp ret22]; rfl) ⟨by rw [fin (by rw [okS, decide_eq_false (show ¬u ≤ 39399 by omega)]; simp)], rfl⟩
        · by_cases c3 : u < f
          · simp -implicitDefEqProofs (maxSteps := 2000000) (disch := first | omega | (simp only [nx_new, nx_set, List.length_cons, List.length_nil, List.length_map, List.length_set, ne_eq, not_true_eq_false, not_false_eq_true, Nat.succ_ne_zero]; done) | (simp only [nx_new, nx_set, List.length_cons, List.length_nil, List.length_map, List.length_set, ne_eq, not_true_eq_false, not_false_eq_true, Nat.succ_ne_zero]; omega)) only [go_sem, reduceIte, reduceCtorEq, Nat.succ_ne_zero, not_false_eq_true, decide_true, decide_false, Nat.reduceAdd, Nat.reduceMul, Nat.reduceEqDiff, Nat.reduceLeDiff, h1, h2]
            exact ret_r (v := .bool false) (by rw [ares_tmp ret22]; rfl) ⟨by rw [fin (by rw [okS, decide_eq_false (show ¬f ≤ u by omega)]; simp)], rfl⟩
          · simp -implicitDefEqProofs (maxSteps := 2000000) (disch := first | omega | (simp only [nx_new, nx_set, List.length_cons, List.length_nil, List.length_map, List.length_set, ne_eq, not_true_eq_false, not_false_eq_true, Nat.succ_ne_zero]; done) | (simp only [nx_new, nx_set, List.length_cons, List.length_nil, List.length_map, List.length_set, ne_eq, not_true_eq_false, not_false_eq_true, Nat.succ_ne_zero]; omega)) only [go_sem, reduceIte, reduceCtorEq, Nat.succ_ne_zero, not_false_eq_true, decide_true, decide_false, Nat.reduceAdd, Nat.reduceMul, Nat.reduceEqDiff, Nat.reduceLeDiff, h1, h2]
            refine ⟨k + 1, ⟨hlt, ?_⟩, by omega, Weak.sub ?_⟩
            · rw [List.take_succ_eq_append_getElem hlt, List.all_append, hin, hd]
              simp only [List.all_cons, List.all_nil, Bool.and_true, Bool.true_and]
              rw [okS, decide_eq_true (show -39399 ≤ f by omega), decide_eq_true (show u ≤ 39399 by omega), decide_eq_true (show f ≤ u by omega)]
              rfl
            · simp -implicitDefEqProofs (disch := omega) only [Abs.Sub, get_cons_eq, get_cons_ne, and_self, Int.natCast_zero, Int.natCast_add, Int.natCast_one]
    · simp -implicitDefEqProofs (maxSteps := 2000000) (disch := first | omega | (simp only [nx_new, nx_set, List.length_cons, List.length_nil, List.length_map, List.length_set, ne_eq, not_true_eq_false, not_false_eq_true, Nat.succ_ne_zero]; done) | (simp only [nx_new, nx_set, List.length_cons, List.length_nil, List.length_map, List.length_set, ne_eq, not_true_eq_false, not_false_eq_true, Nat.succ_ne_zero]; omega)) only [go_sem, reduceIte, reduceCtorEq, Nat.succ_ne_zero, not_false_eq_true, decide_true, decide_false, Nat.reduceAdd, Nat.reduceMul, Nat.reduceEqDiff, Nat.reduceLeDiff]
      have e : l.take k = l := List.take_of_length_le (by omega)
      rw [e] at hin
      refine ret_r (v := .bool (decide ((l.length : Int) ≤ 1000))) (by rw [ares_tmp ret22]; rfl) ⟨?_, rfl⟩
      rw [validB, hin, Bool.and_true]
      congr 1
      exact decide_eq_decide.2 (by omega)

theorem n26 : Try.f26.ntmps = 17 := rfl
theorem ret26 : Try.f26.results = #[.tmp 4] := rfl
def disjB (s t : Sp) : Bool := decide (s.2 < t.1) || decide (t.2 < s.1)
theorem disjoint_spec (H : Hp) (f u g w : Int) : ACalls Try.prog 26 [.agg #[.int .i64 f, .int .i64 u], .agg #[.int .i64 g, .int .i64 w]] H (fun v H' => v = .bool (disjB (f, u) (g, w)) ∧ H' = H) := by
  refine ACalls_enter Try.func26 (by kernel_rfl) rfl (by kernel_rfl) (by simp [n26]) fun hw hr => AWP_of_awp ?_
  simp -implicitDefEqProofs (maxSteps := 2000000) (disch := first | omega | (simp only [nx_new, nx_set, List.length_cons, List.length_nil, List.length_map, List.length_set, ne_eq, not_true_eq_false, not_false_eq_true, Nat.succ_ne_zero]; done) | (simp only [nx_new, nx_set, List.length_cons, List.length_nil, List.length_map, List.length_set, ne_eq, not_true_eq_false, not_false_eq_true, Nat.succ_ne_zero]; omega)) only [go_sem, reduceIte, reduceCtorEq, Nat.succ_ne_zero, not_false_eq_true, decide_true, decide_false, Nat.reduceAdd, Nat.reduceMul, Nat.reduceEqDiff, Nat.reduceLeDiff]
  refine guardS_split (fun h1 => ?_) (fun h1 => ?_)
  · simp -implicitDefEqProofs (maxSteps := 2000000) (disch := first | omega | (simp only [nx_new, nx_set, List.length_cons, List.length_nil, List.length_map, List.length_set, ne_eq, not_true_eq_false, not_false_eq_true, Nat.succ_ne_zero]; done) | (simp only [nx_new, nx_set, List.length_cons, List.length_nil, List.length_map, List.length_set, ne_eq, not_true_eq_false, not_false_eq_true, Nat.succ_ne_zero]; omega)) only [go_sem, reduceIte, reduceCtorEq, Nat.succ_ne_zero, not_false_eq_true, decide_true, decide_false, Nat.reduceAdd, Nat.reduceMul, Nat.reduceEqDiff, Nat.reduceLeDiff, h1]
    refine ret_same (G := H) (v := .bool true) .ret (.inr rfl) hw (Nat.le_refl _) (by rw [ares_tmp ret26]; rfl) rfl (fun b hb => by simp -implicitDefEqProofs (maxSteps := 2000000) (disch := first | omega | (simp only [nx_new, nx_set, List.length_cons, List.length_nil, List.length_map, List.length_set, ne_eq, not_true_eq_false, not_false_eq_true, Nat.succ_ne_zero]; done) | (simp only [nx_new, nx_set, List.length_cons, List.length_nil, List.length_map, List.length_set, ne_eq, not_true_eq_false, not_false_eq_true, Nat.succ_ne_zero]; omega)) only [go_sem, reduceIte, reduceCtorEq, Nat.succ_ne_zero, not_false_eq_true, decide_true, decide_false, Nat.reduceAdd, Nat.reduceMul, Nat.reduceEqDiff, Nat.reduceLeDiff]) ⟨by rw [disjB, h1]; rfl, rfl⟩
  · simp -implicitDefEqProofs (maxSteps := 2000000) (disch := first | omega | (simp only [nx_new, nx_set, List.length_cons, List.length_nil, List.length_map, List.length_set, ne_eq, not_true_eq_false, not_false_eq_true, Nat.succ_ne_zero]; done) | (simp only [nx_new, nx_set, List.length_cons, List.length_nil, List.length_map, List.length_set, ne_eq, not_true_eq_false, not_false_eq_true, Nat.succ_ne_zero]; omega)) only [go_sem, reduceIte, reduceCtorEq, Nat.succ_ne_zero, not_false_eq_true, decide_true, decide_false, Nat.reduceAdd, Nat.reduceMul, Nat.reduceEqDiff, Nat.reduceLeDiff, h1]
    refine ret_same (G := H) (v := .bool (decide (w < f))) .ret (.inr rfl) hw (Nat.le_refl _) (by rw [ares_tmp ret26]; rfl) rfl (fun b hb => by simp -implicitDefEqProofs (maxSteps := 2000000) (disch := first | omega | (simp only [nx_new, nx_set, List.length_cons, List.length_nil, List.length_map, List.length_set, ne_eq, not_true_eq_false, not_false_eq_true, Nat.succ_ne_zero]; done) | (simp only [nx_new, nx_set, List.length_cons, List.length_nil, List.length_map, List.length_set, ne_eq, not_true_eq_false, not_false_eq_true, Nat.succ_ne_zero]; omega)) only [go_sem, reduceIte, reduceCtorEq, Nat.succ_ne_zero, not_false_eq_true, decide_true, decide_false, Nat.reduceAdd, Nat.reduceMul, Nat.reduceEqDiff, Nat.reduceLeDiff]) ⟨by rw [disjB, h1]; rfl, rfl⟩
end Go.Proofs.Ytjgdmjoafpbnaaa
