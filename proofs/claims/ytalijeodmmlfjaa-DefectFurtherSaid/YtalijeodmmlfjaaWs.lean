/- Sorting, by the library's contracts. -/
import Derived.Test.YtalijeodmmlfjaaAbsS
import Derived.Test.YtalijeodmmlfjaaLaid
import Derived.Test.YtalijeodmmlfjaaWc
set_option linter.unusedVariables false
set_option linter.unusedSimpArgs false
set_option linter.unusedSectionVars false
namespace Go.Proofs.Ytalijeodmmlfjaa
open Go.Abs Go.RowKit Go.Sort Go.Shelf
set_option maxHeartbeats 8000000
set_option maxRecDepth 100000

theorem sort_spec {H : Hp} {b k : Nat} {l : List Int} (hg : H.get b = .row (l.map (Value.int .i64)) true k) (hn : l.length ≠ 0) (hs : l.length < 4611686018427387904) :
    ACalls Try.prog 26 [.slice (some ⟨b, 0, none⟩) l.length l.length] H (fun v H' => v = .tuple #[] ∧ H' = H.set b (.row ((l.mergeSort fun x y => decide (x ≤ y)).map (Value.int .i64)) true k)) :=
  sort_int_calls ⟨_, Try.func26, by kernel_rfl, rfl⟩ (fun blk off cap zs w h1 h2 h3 => AnyM.slices_Sort_int Try.sortL blk off cap zs w h1 h2 h3) hg hn hs

theorem ren23 : Try.compactL_ren.t 23 = 3 := by kernel_rfl
theorem zero3 (w : World) : (zeroValue (Try.compactL_ren.t 23)).run Try.prog w = .ok (.int .i64 0) w := by rw [ren23]; exact (run_zeroValue_of tz3).1
theorem compact_spec {H : Hp} {b k : Nat} {l : List Int} (hg : H.get b = .row (l.map (Value.int .i64)) true k) (hn : l.length ≠ 0) (hs : l.length ≤ 9223372036854775807) (hle : (Lib.compact l).length ≤ l.length) :
    ACalls Try.prog 27 [.slice (some ⟨b, 0, none⟩) l.length l.length] H (fun v H' => v = .slice (some ⟨b, 0, none⟩) (Lib.compact l).length (Lib.compact l).length ∧ H' = H.set b (.row ((Lib.compact l ++ List.replicate (l.length - (Lib.compact l).length) 0).map (Value.int .i64)) true k)) :=
  compact_int_calls ⟨_, Try.func27, by kernel_rfl, rfl⟩ (fun blk off cap d w h1 h2 h3 => AnyE.slices_Compact Try.compactL (Value.int .i64) (fun _ => rfl) (EqlAt.intD _ _ _) (NeqAt.intD _ _ _) 0 (fun w => zero3 w) blk off cap d w h1 h2 h3) hg hn hs hle

def sortedL (l : List Int) : List Int := Lib.compact (l.mergeSort fun x y => decide (x ≤ y))
theorem compact_le (l : List Int) : (Lib.compact l).length ≤ l.length := by
  simp only [Lib.compact, Lib.compactUpTo, List.length_map]
  exact Nat.le_trans (List.length_filter_le _ _) (by simp)

theorem n24 : Try.f24.ntmps = 7 := rfl
theorem ret24 : Try.f24.results = #[.tmp 2] := rfl
theorem sorted_spec {H : Hp} {b k : Nat} {l : List Int} (hg : H.get b = .row (l.map (Value.int .i64)) true k) (hn : l.length ≠ 0) (hs : l.length < 4611686018427387904) :
    ACalls Try.prog 24 [.slice (some ⟨b, 0, none⟩) l.length l.length] H (fun v H' => v = .slice (some ⟨b, 0, none⟩) (sortedL l).length (sortedL l).length ∧ H' = H.set b (.row ((sortedL l ++ List.replicate (l.length - (sortedL l).length) 0).map (Value.int .i64)) true k)) := by
  refine ACalls_enter Try.func24 (by kernel_rfl) rfl (by kernel_rfl) (by simp [n24]) fun hw hr => AWP_of_awp ?_
  simp -implicitDefEqProofs (maxSteps := 2000000) (disch := first | omega | (simp only [nx_new, nx_set, List.length_cons, List.length_nil, List.length_map, List.length_set, ne_eq, not_true_eq_false, not_false_eq_true, Nat.succ_ne_zero]; done) | (simp only [nx_new, nx_set, List.length_cons, List.length_nil, List.length_map, List.length_set, ne_eq, not_true_eq_false, not_false_eq_true, Nat.succ_ne_zero]; omega)) only [go_sem, reduceIte, reduceCtorEq, Nat.succ_ne_zero, not_false_eq_true, decide_true, decide_false, Nat.reduceAdd, Nat.reduceMul, Nat.reduceEqDiff, Nat.reduceLeDiff]
  refine ACalls.use_eq (sort_spec hg hn hs) ?_
  simp -implicitDefEqProofs (maxSteps := 2000000) (disch := first | omega | (simp only [nx_new, nx_set, List.length_cons, List.length_nil, List.length_map, List.length_set, ne_eq, not_true_eq_false, not_false_eq_true, Nat.succ_ne_zero]; done) | (simp only [nx_new, nx_set, List.length_cons, List.length_nil, List.length_map, List.length_set, ne_eq, not_true_eq_false, not_false_eq_true, Nat.succ_ne_zero]; omega)) only [go_sem, reduceIte, reduceCtorEq, Nat.succ_ne_zero, not_false_eq_true, decide_true, decide_false, Nat.reduceAdd, Nat.reduceMul, Nat.reduceEqDiff, Nat.reduceLeDiff]
  have hlen : (l.mergeSort fun x y => decide (x ≤ y)).length = l.length := List.length_mergeSort _
  have hc := compact_spec (H := H.set b (.row ((l.mergeSort fun x y => decide (x ≤ y)).map (Value.int .i64)) true k)) (Hp.get_set_same _ _ _ _ rfl) (by omega) (by omega) (compact_le _)
  rw [hlen] at hc
  refine ACalls.use_eq hc ?_
  simp -implicitDefEqProofs (maxSteps := 2000000) (disch := first | omega | (simp only [nx_new, nx_set, List.length_cons, List.length_nil, List.length_map, List.length_set, ne_eq, not_true_eq_false, not_false_eq_true, Nat.succ_ne_zero]; done) | (simp only [nx_new, nx_set, List.length_cons, List.length_nil, List.length_map, List.length_set, ne_eq, not_true_eq_false, not_false_eq_true, Nat.succ_ne_zero]; omega)) only [go_sem, reduceIte, reduceCtorEq, Nat.succ_ne_zero, not_false_eq_true, decide_true, decide_false, Nat.reduceAdd, Nat.reduceMul, Nat.reduceEqDiff, Nat.reduceLeDiff]
  exact ret_r (v := .slice (some ⟨b, 0, none⟩) (sortedL l).length (sortedL l).length) (by rw [ares_tmp ret24]; rfl) ⟨rfl, rfl⟩
end Go.Proofs.Ytalijeodmmlfjaa
