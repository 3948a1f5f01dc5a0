/- The closure of defect.Changes that adds a span. -/
import Derived.Test.YtalijeodmmlfjaaAbsT
import Derived.Test.YtalijeodmmlfjaaWc
set_option linter.unusedVariables false
set_option linter.unusedSimpArgs false
set_option linter.unusedSectionVars false
namespace Go.Proofs.Ytalijeodmmlfjaa
open Go.Abs
set_option maxHeartbeats 8000000
set_option maxRecDepth 100000

def addL (out : List (Int × Int)) (s : Int × Int) : List (Int × Int) :=
  match out.getLast? with
  | some t => if t.2 + 1 = s.1 then out.dropLast ++ [(t.1, s.2)] else out ++ [s]
  | none => [s]
def OutAt (H : Hp) (p : Nat) (out : List (Int × Int)) : Prop :=
  p < H.next ∧ ∃ a, H.get p = .row [.slice a out.length out.length] true 0 ∧ ((a = none ∧ out = []) ∨ ∃ q, out ≠ [] ∧ a = some ⟨q, 0, none⟩ ∧ p < q ∧ q < H.next ∧ H.get q = .row (out.map spc).flatten true 2)
theorem spc_len (out : List (Int × Int)) : ∀ x, x ∈ out.map spc → x.length = 2 := by
  intro x hx
  obtain ⟨s, _, rfl⟩ := List.mem_map.1 hx
  rfl
theorem spc_flat (out : List (Int × Int)) : ((out.map spc).flatten).length = out.length * 2 := by rw [flat_len (spc_len out), List.length_map]
theorem spc_set (init : List (Int × Int)) (t : Int × Int) (u : Int) : (((init ++ [t]).map spc).flatten).set (init.length * 2 + 1) (.int .i64 u) = ((init ++ [(t.1, u)]).map spc).flatten := by
  simp only [List.map_append, List.flatten_append, List.map_cons, List.map_nil, List.flatten_cons, List.flatten_nil, List.append_nil]
  rw [List.set_append_right _ _ (by rw [spc_flat]; omega), spc_flat]
  have : init.length * 2 + 1 - init.length * 2 = 1 := by omega
  rw [this]
  rfl
theorem spc_app (out : List (Int × Int)) (f u : Int) : ((out.map spc).flatten) ++ [.int .i64 f, .int .i64 u] = ((out ++ [(f, u)]).map spc).flatten := by
  simp only [List.map_append, List.flatten_append, List.map_cons, List.map_nil, List.flatten_cons, List.flatten_nil, List.append_nil]
  rfl
theorem addL_nil (s : Int × Int) : addL [] s = [s] := rfl
theorem addL_last (init : List (Int × Int)) (t s : Int × Int) : addL (init ++ [t]) s = if t.2 + 1 = s.1 then init ++ [(t.1, s.2)] else init ++ [t] ++ [s] := by
  simp [addL]
theorem flat_one (out : List (Int × Int)) : ((out.map spc).flatten).all one = true := by
  induction out with
  | nil => rfl
  | cons s out ih => simp only [List.map_cons, List.flatten_cons, List.all_append, ih, Bool.and_true]; rfl

theorem n25 : Try.f25.ntmps = 31 := rfl
theorem ret25 : Try.f25.results = #[] := rfl
theorem ares0 {P : Program} {fn : Func} {env : Env} {H : Hp} (h : fn.results = #[]) : ares P fn env H = some (.tuple #[]) := by simp [ares, h]
theorem add_spec {H : Hp} {p : Nat} {out : List (Int × Int)} (s : Int × Int) (ho : OutAt H p out) (hr : ∀ t, t ∈ out → -1 ≤ t.2 ∧ t.2 ≤ 40000) (hlen : out.length ≤ 1000000) :
    ACalls Try.prog 25 [.agg #[.int .i64 s.1, .int .i64 s.2], .pointer (some ⟨p, 0, none⟩)] H (fun v H' => v = .tuple #[] ∧ OutAt H' p (addL out s) ∧ H.next ≤ H'.next ∧ ∀ b, b < p → H'.get b = H.get b) := by
  obtain ⟨hpn, a, hp, hor⟩ := ho
  refine ACalls_enter Try.func25 (by kernel_rfl) rfl (by kernel_rfl) (by simp [n25]) fun hw hrf => AWP_of_awp ?_
  obtain ⟨f, u⟩ := s
  have hpl : load1 H ⟨p, 0, none⟩ = some (.slice a out.length out.length) := (l1_row _ _ _ _ _ hp).trans rfl
  simp -implicitDefEqProofs (maxSteps := 2000000) (disch := first | omega | (simp only [nx_new, nx_set, List.length_cons, List.length_nil, List.length_map, List.length_set, ne_eq, not_true_eq_false, not_false_eq_true, Nat.succ_ne_zero]; done) | (simp only [nx_new, nx_set, List.length_cons, List.length_nil, List.length_map, List.length_set, ne_eq, not_true_eq_false, not_false_eq_true, Nat.succ_ne_zero]; omega)) only [go_sem, reduceIte, reduceCtorEq, Nat.succ_ne_zero, not_false_eq_true, decide_true, decide_false, Nat.reduceAdd, Nat.reduceMul, Nat.reduceEqDiff, Nat.reduceLeDiff, hpl]
  refine AWP_draw_in mo (by kernel_rfl) ?_
  rcases hor with ⟨rfl, rfl⟩ | ⟨q, hne, rfl, hpq, hq, hqg⟩
  · simp only [List.length_nil] at hp hpl
    simp -implicitDefEqProofs (maxSteps := 2000000) (disch := first | omega | (simp only [nx_new, nx_set, List.length_cons, List.length_nil, List.length_map, List.length_set, ne_eq, not_true_eq_false, not_false_eq_true, Nat.succ_ne_zero]; done) | (simp only [nx_new, nx_set, List.length_cons, List.length_nil, List.length_map, List.length_set, ne_eq, not_true_eq_false, not_false_eq_true, Nat.succ_ne_zero]; omega)) only [go_sem, reduceIte, reduceCtorEq, Nat.succ_ne_zero, not_false_eq_true, decide_true, decide_false, Nat.reduceAdd, Nat.reduceMul, Nat.reduceEqDiff, Nat.reduceLeDiff, hpl]
    rw [append_none u30 u30 ts39 tb39 tz39 rfl (by decide) (xs := [.int .i64 f, .int .i64 u]) (by simp -implicitDefEqProofs (maxSteps := 2000000) (disch := first | omega | (simp only [nx_new, nx_set, List.length_cons, List.length_nil, List.length_map, List.length_set, ne_eq, not_true_eq_false, not_false_eq_true, Nat.succ_ne_zero]; done) | (simp only [nx_new, nx_set, List.length_cons, List.length_nil, List.length_map, List.length_set, ne_eq, not_true_eq_false, not_false_eq_true, Nat.succ_ne_zero]; omega)) only [go_sem, reduceIte, reduceCtorEq, Nat.succ_ne_zero, not_false_eq_true, decide_true, decide_false, Nat.reduceAdd, Nat.reduceMul, Nat.reduceEqDiff, Nat.reduceLeDiff]) rfl (by decide) (by decide)]
    simp -implicitDefEqProofs (maxSteps := 2000000) (disch := first | omega | (simp only [nx_new, nx_set, List.length_cons, List.length_nil, List.length_map, List.length_set, ne_eq, not_true_eq_false, not_false_eq_true, Nat.succ_ne_zero]; done) | (simp only [nx_new, nx_set, List.length_cons, List.length_nil, List.length_map, List.length_set, ne_eq, not_true_eq_false, not_false_eq_true, Nat.succ_ne_zero]; omega)) only [go_sem, reduceIte, reduceCtorEq, Nat.succ_ne_zero, not_false_eq_true, decide_true, decide_false, Nat.reduceAdd, Nat.reduceMul, Nat.reduceEqDiff, Nat.reduceLeDiff, hp]
    refine ret_n (v := .tuple #[]) (ares0 ret25) ⟨rfl, ⟨by (simp only [Hp.next_new, Hp.next_set]; omega), some ⟨H.next + 1 + 1, 0, none⟩, by simp -implicitDefEqProofs (maxSteps := 2000000) (disch := first | omega | (simp only [nx_new, nx_set, List.length_cons, List.length_nil, List.length_map, List.length_set, ne_eq, not_true_eq_false, not_false_eq_true, Nat.succ_ne_zero]; done) | (simp only [nx_new, nx_set, List.length_cons, List.length_nil, List.length_map, List.length_set, ne_eq, not_true_eq_false, not_false_eq_true, Nat.succ_ne_zero]; omega)) only [go_sem, reduceIte, reduceCtorEq, Nat.succ_ne_zero, not_false_eq_true, decide_true, decide_false, Nat.reduceAdd, Nat.reduceMul, Nat.reduceEqDiff, Nat.reduceLeDiff]; rfl, .inr ⟨H.next + 1 + 1, by simp [addL], rfl, by omega, by (simp only [Hp.next_new, Hp.next_set]; omega), by simp -implicitDefEqProofs (maxSteps := 2000000) (disch := first | omega | (simp only [nx_new, nx_set, List.length_cons, List.length_nil, List.length_map, List.length_set, ne_eq, not_true_eq_false, not_false_eq_true, Nat.succ_ne_zero]; done) | (simp only [nx_new, nx_set, List.length_cons, List.length_nil, List.length_map, List.length_set, ne_eq, not_true_eq_false, not_false_eq_true, Nat.succ_ne_zero]; omega)) only [go_sem, reduceIte, reduceCtorEq, Nat.succ_ne_zero, not_false_eq_true, decide_true, decide_false, Nat.reduceAdd, Nat.reduceMul, Nat.reduceEqDiff, Nat.reduceLeDiff]; rfl⟩⟩, by (simp only [Hp.next_new, Hp.next_set]; omega), fun b hb => by simp -implicitDefEqProofs (maxSteps := 2000000) (disch := first | omega | (simp only [nx_new, nx_set, List.length_cons, List.length_nil, List.length_map, List.length_set, ne_eq, not_true_eq_false, not_false_eq_true, Nat.succ_ne_zero]; done) | (simp only [nx_new, nx_set, List.length_cons, List.length_nil, List.length_map, List.length_set, ne_eq, not_true_eq_false, not_false_eq_true, Nat.succ_ne_zero]; omega)) only [go_sem, reduceIte, reduceCtorEq, Nat.succ_ne_zero, not_false_eq_true, decide_true, decide_false, Nat.reduceAdd, Nat.reduceMul, Nat.reduceEqDiff, Nat.reduceLeDiff]⟩
  · obtain ⟨init, t, hout⟩ : ∃ init t, out = init ++ [t] := ⟨out.dropLast, out.getLast hne, (List.dropLast_concat_getLast hne).symm⟩
    have hol : out.length = init.length + 1 := by rw [hout]; simp
    have hidx : ((out.length : Int) - 1).toNat = init.length := by omega
    have hcs := spc_flat out
    have hE := Elems.row (H := H) hq hqg (spc_len out)
    obtain ⟨_, _, hb1, _, hl⟩ := hE init.length (by rw [List.length_map]; omega)
    cases hb1
    have ht : out[init.length]'(by omega) = t := by simp [hout]
    simp only [List.getElem_map, ht, spc, Nat.zero_add] at hl
    have hl2 : load1 H ⟨q, init.length * 2 + 1, none⟩ = some (.int .i64 t.2) := (load1_part (i := 1) hl (by simp)).trans rfl
    have htr := hr t (by rw [hout]; simp)
    simp -implicitDefEqProofs (maxSteps := 2000000) (disch := first | omega | (simp only [nx_new, nx_set, List.length_cons, List.length_nil, List.length_map, List.length_set, ne_eq, not_true_eq_false, not_false_eq_true, Nat.succ_ne_zero]; done) | (simp only [nx_new, nx_set, List.length_cons, List.length_nil, List.length_map, List.length_set, ne_eq, not_true_eq_false, not_false_eq_true, Nat.succ_ne_zero]; omega)) only [go_sem, reduceIte, reduceCtorEq, Nat.succ_ne_zero, not_false_eq_true, decide_true, decide_false, Nat.reduceAdd, Nat.reduceMul, Nat.reduceEqDiff, Nat.reduceLeDiff, hpl, hidx, hl2]
    refine condS_split (fun hc => ?_) (fun hc => ?_)
    · have hp2 := beq_iff_eq.1 hc
      simp -implicitDefEqProofs (maxSteps := 2000000) (disch := first | omega | (simp only [nx_new, nx_set, List.length_cons, List.length_nil, List.length_map, List.length_set, ne_eq, not_true_eq_false, not_false_eq_true, Nat.succ_ne_zero]; done) | (simp only [nx_new, nx_set, List.length_cons, List.length_nil, List.length_map, List.length_set, ne_eq, not_true_eq_false, not_false_eq_true, Nat.succ_ne_zero]; omega)) only [go_sem, reduceIte, reduceCtorEq, Nat.succ_ne_zero, not_false_eq_true, decide_true, decide_false, Nat.reduceAdd, Nat.reduceMul, Nat.reduceEqDiff, Nat.reduceLeDiff, hc, hpl, hidx, hqg]
      refine ret_n (v := .tuple #[]) (ares0 ret25) ⟨rfl, ⟨by (simp only [Hp.next_new, Hp.next_set]; omega), some ⟨q, 0, none⟩, ?_, .inr ⟨q, ?_, rfl, hpq, by (simp only [Hp.next_new, Hp.next_set]; omega), ?_⟩⟩, by (simp only [Hp.next_new, Hp.next_set]; omega), fun b hb => by simp -implicitDefEqProofs (maxSteps := 2000000) (disch := first | omega | (simp only [nx_new, nx_set, List.length_cons, List.length_nil, List.length_map, List.length_set, ne_eq, not_true_eq_false, not_false_eq_true, Nat.succ_ne_zero]; done) | (simp only [nx_new, nx_set, List.length_cons, List.length_nil, List.length_map, List.length_set, ne_eq, not_true_eq_false, not_false_eq_true, Nat.succ_ne_zero]; omega)) only [go_sem, reduceIte, reduceCtorEq, Nat.succ_ne_zero, not_false_eq_true, decide_true, decide_false, Nat.reduceAdd, Nat.reduceMul, Nat.reduceEqDiff, Nat.reduceLeDiff]⟩
      · have e : (addL out (f, u)).length = out.length := by rw [hout, addL_last, if_pos hp2]; simp
        rw [e]
        simp -implicitDefEqProofs (maxSteps := 2000000) (disch := first | omega | (simp only [nx_new, nx_set, List.length_cons, List.length_nil, List.length_map, List.length_set, ne_eq, not_true_eq_false, not_false_eq_true, Nat.succ_ne_zero]; done) | (simp only [nx_new, nx_set, List.length_cons, List.length_nil, List.length_map, List.length_set, ne_eq, not_true_eq_false, not_false_eq_true, Nat.succ_ne_zero]; omega)) only [go_sem, reduceIte, reduceCtorEq, Nat.succ_ne_zero, not_false_eq_true, decide_true, decide_false, Nat.reduceAdd, Nat.reduceMul, Nat.reduceEqDiff, Nat.reduceLeDiff, hp]
      · rw [hout, addL_last, if_pos hp2]; simp
      · rw [hout, addL_last, if_pos hp2, spc_set]
        simp -implicitDefEqProofs (maxSteps := 2000000) (disch := first | omega | (simp only [nx_new, nx_set, List.length_cons, List.length_nil, List.length_map, List.length_set, ne_eq, not_true_eq_false, not_false_eq_true, Nat.succ_ne_zero]; done) | (simp only [nx_new, nx_set, List.length_cons, List.length_nil, List.length_map, List.length_set, ne_eq, not_true_eq_false, not_false_eq_true, Nat.succ_ne_zero]; omega)) only [go_sem, reduceIte, reduceCtorEq, Nat.succ_ne_zero, not_false_eq_true, decide_true, decide_false, Nat.reduceAdd, Nat.reduceMul, Nat.reduceEqDiff, Nat.reduceLeDiff]
    · have hp2 := beq_eq_false_iff_ne.1 hc
      simp -implicitDefEqProofs (maxSteps := 2000000) (disch := first | omega | (simp only [nx_new, nx_set, List.length_cons, List.length_nil, List.length_map, List.length_set, ne_eq, not_true_eq_false, not_false_eq_true, Nat.succ_ne_zero]; done) | (simp only [nx_new, nx_set, List.length_cons, List.length_nil, List.length_map, List.length_set, ne_eq, not_true_eq_false, not_false_eq_true, Nat.succ_ne_zero]; omega)) only [go_sem, reduceIte, reduceCtorEq, Nat.succ_ne_zero, not_false_eq_true, decide_true, decide_false, Nat.reduceAdd, Nat.reduceMul, Nat.reduceEqDiff, Nat.reduceLeDiff, hc, hpl]
      rw [append_row u30 u30 ts39 tb39 tz39 rfl (by decide) (by decide) (cs := (out.map spc).flatten) (xs := [.int .i64 f, .int .i64 u]) (by simp -implicitDefEqProofs (maxSteps := 2000000) (disch := first | omega | (simp only [nx_new, nx_set, List.length_cons, List.length_nil, List.length_map, List.length_set, ne_eq, not_true_eq_false, not_false_eq_true, Nat.succ_ne_zero]; done) | (simp only [nx_new, nx_set, List.length_cons, List.length_nil, List.length_map, List.length_set, ne_eq, not_true_eq_false, not_false_eq_true, Nat.succ_ne_zero]; omega)) only [go_sem, reduceIte, reduceCtorEq, Nat.succ_ne_zero, not_false_eq_true, decide_true, decide_false, Nat.reduceAdd, Nat.reduceMul, Nat.reduceEqDiff, Nat.reduceLeDiff, hqg]) (by simp -implicitDefEqProofs (maxSteps := 2000000) (disch := first | omega | (simp only [nx_new, nx_set, List.length_cons, List.length_nil, List.length_map, List.length_set, ne_eq, not_true_eq_false, not_false_eq_true, Nat.succ_ne_zero]; done) | (simp only [nx_new, nx_set, List.length_cons, List.length_nil, List.length_map, List.length_set, ne_eq, not_true_eq_false, not_false_eq_true, Nat.succ_ne_zero]; omega)) only [go_sem, reduceIte, reduceCtorEq, Nat.succ_ne_zero, not_false_eq_true, decide_true, decide_false, Nat.reduceAdd, Nat.reduceMul, Nat.reduceEqDiff, Nat.reduceLeDiff]) rfl (by rw [hcs]) (by omega)]
      simp -implicitDefEqProofs (maxSteps := 2000000) (disch := first | omega | (simp only [nx_new, nx_set, List.length_cons, List.length_nil, List.length_map, List.length_set, ne_eq, not_true_eq_false, not_false_eq_true, Nat.succ_ne_zero]; done) | (simp only [nx_new, nx_set, List.length_cons, List.length_nil, List.length_map, List.length_set, ne_eq, not_true_eq_false, not_false_eq_true, Nat.succ_ne_zero]; omega)) only [go_sem, reduceIte, reduceCtorEq, Nat.succ_ne_zero, not_false_eq_true, decide_true, decide_false, Nat.reduceAdd, Nat.reduceMul, Nat.reduceEqDiff, Nat.reduceLeDiff, hp]
      refine ret_n (v := .tuple #[]) (ares0 ret25) ⟨rfl, ⟨by (simp only [Hp.next_new, Hp.next_set]; omega), some ⟨H.next + 1 + 1, 0, none⟩, ?_, .inr ⟨H.next + 1 + 1, ?_, rfl, by omega, by (simp only [Hp.next_new, Hp.next_set]; omega), ?_⟩⟩, by (simp only [Hp.next_new, Hp.next_set]; omega), fun b hb => by simp -implicitDefEqProofs (maxSteps := 2000000) (disch := first | omega | (simp only [nx_new, nx_set, List.length_cons, List.length_nil, List.length_map, List.length_set, ne_eq, not_true_eq_false, not_false_eq_true, Nat.succ_ne_zero]; done) | (simp only [nx_new, nx_set, List.length_cons, List.length_nil, List.length_map, List.length_set, ne_eq, not_true_eq_false, not_false_eq_true, Nat.succ_ne_zero]; omega)) only [go_sem, reduceIte, reduceCtorEq, Nat.succ_ne_zero, not_false_eq_true, decide_true, decide_false, Nat.reduceAdd, Nat.reduceMul, Nat.reduceEqDiff, Nat.reduceLeDiff]⟩
      · have e : (addL out (f, u)).length = out.length + 1 := by rw [hout, addL_last, if_neg hp2]; simp
        rw [e]
        simp -implicitDefEqProofs (maxSteps := 2000000) (disch := first | omega | (simp only [nx_new, nx_set, List.length_cons, List.length_nil, List.length_map, List.length_set, ne_eq, not_true_eq_false, not_false_eq_true, Nat.succ_ne_zero]; done) | (simp only [nx_new, nx_set, List.length_cons, List.length_nil, List.length_map, List.length_set, ne_eq, not_true_eq_false, not_false_eq_true, Nat.succ_ne_zero]; omega)) only [go_sem, reduceIte, reduceCtorEq, Nat.succ_ne_zero, not_false_eq_true, decide_true, decide_false, Nat.reduceAdd, Nat.reduceMul, Nat.reduceEqDiff, Nat.reduceLeDiff, hp]
      · rw [hout, addL_last, if_neg hp2]; simp
      · rw [hout, addL_last, if_neg hp2, ← hout, ← spc_app]
        simp -implicitDefEqProofs (maxSteps := 2000000) (disch := first | omega | (simp only [nx_new, nx_set, List.length_cons, List.length_nil, List.length_map, List.length_set, ne_eq, not_true_eq_false, not_false_eq_true, Nat.succ_ne_zero]; done) | (simp only [nx_new, nx_set, List.length_cons, List.length_nil, List.length_map, List.length_set, ne_eq, not_true_eq_false, not_false_eq_true, Nat.succ_ne_zero]; omega)) only [go_sem, reduceIte, reduceCtorEq, Nat.succ_ne_zero, not_false_eq_true, decide_true, decide_false, Nat.reduceAdd, Nat.reduceMul, Nat.reduceEqDiff, Nat.reduceLeDiff]
end Go.Proofs.Ytalijeodmmlfjaa
