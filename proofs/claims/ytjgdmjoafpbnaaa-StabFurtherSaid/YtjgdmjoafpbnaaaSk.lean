/- The reference's Check; the law's own meets. -/
import Derived.Test.YtjgdmjoafpbnaaaSj
set_option linter.unusedVariables false
set_option linter.unusedSimpArgs false
set_option linter.unusedSectionVars false
namespace Go.Proofs.Ytjgdmjoafpbnaaa
open Go.Abs Go.Sm
set_option maxHeartbeats 8000000
set_option maxRecDepth 100000

theorem n25 : Try.f25.ntmps = 28 := rfl
theorem ret25 : Try.f25.results = #[.tmp 4] := rfl
theorem meet_more {f u : Int} {pts : List Int} {j : Nat} (hjl : j < pts.length) (hno : meetB (f, u) (pts.take j) = false) (h2 : ¬(f ≤ pts[j] ∧ pts[j] ≤ u)) : meetB (f, u) (pts.take (j + 1)) = false := by
  simp only [meetB] at hno ⊢
  rw [List.take_succ_eq_append_getElem hjl, List.any_append, hno]
  simp; omega
theorem meet_yes {f u : Int} {pts : List Int} {j : Nat} (hjl : j < pts.length) (h2 : f ≤ pts[j]) (h3 : pts[j] ≤ u) : meetB (f, u) pts = true := by
  simp only [meetB, List.any_eq_true]
  exact ⟨pts[j], List.getElem_mem hjl, by simp [h2, h3]⟩
theorem refMeets_spec (H : Hp) (p1 : Option Addr) (f u : Int) (pts : List Int) (hl1 : pts.length ≤ 1000000) (he1 : Elems H p1 1 (pts.map ic)) :
    ACalls Try.prog 25 [.agg #[.int .i64 f, .int .i64 u], .slice p1 pts.length pts.length] H (fun v H' => v = .bool (meetB (f, u) pts) ∧ H' = H) := by
  refine ACalls_enter Try.func25 (by kernel_rfl) rfl (by kernel_rfl) (by simp [n25]) fun hw hr => AWP_of_awp ?_
  simp -implicitDefEqProofs (maxSteps := 2000000) (disch := first | omega | (simp only [nx_new, nx_set, List.length_cons, List.length_nil, List.length_map, List.length_set, ne_eq, not_true_eq_false, not_false_eq_true, Nat.succ_ne_zero]; done) | (simp only [nx_new, nx_set, List.length_cons, List.length_nil, List.length_map, List.length_set, ne_eq, not_true_eq_false, not_false_eq_true, Nat.succ_ne_zero]; omega)) only [go_sem, reduceIte, reduceCtorEq, Nat.succ_ne_zero, not_false_eq_true, decide_true, decide_false, Nat.reduceAdd, Nat.reduceMul, Nat.reduceEqDiff, Nat.reduceLeDiff]
  have e1n := he1.grows (Grows.new H (.row [.int .i64 f, .int .i64 u] true 0))
  refine AWP_loop (σ := Nat) (fun j => [(5, .int .i64 j), (1, .slice p1 pts.length pts.length), (2, .pointer (some ⟨H.next, 0, none⟩))]) (fun _ => H.new (.row [.int .i64 f, .int .i64 u] true 0)) (fun j => j ≤ pts.length ∧ meetB (f, u) (pts.take j) = false) (fun j => pts.length - j) 0 ⟨Nat.zero_le _, rfl⟩ (Weak.sub ?_) ?_
  · (simp -implicitDefEqProofs (disch := omega) only [Abs.Sub, get_cons_eq, get_cons_ne, and_self, Option.some.injEq, Value.int.injEq, Value.slice.injEq, true_and, and_true, Int.natCast_zero, Int.natCast_add, Int.natCast_one, List.length_nil]; try omega)
  · rintro j ⟨hj, hno⟩
    refine AWP_of_awp ?_
    by_cases hjl : j < pts.length
    · obtain ⟨b1, o1, rfl, h1⟩ := elem1 e1n j hjl
      have hyes := meet_yes (f := f) (u := u) hjl
      have hmore := meet_more hjl hno
      generalize pts[j] = p at *
      simp -implicitDefEqProofs (maxSteps := 2000000) (disch := first | omega | (simp only [nx_new, nx_set, List.length_cons, List.length_nil, List.length_map, List.length_set, ne_eq, not_true_eq_false, not_false_eq_true, Nat.succ_ne_zero]; done) | (simp only [nx_new, nx_set, List.length_cons, List.length_nil, List.length_map, List.length_set, ne_eq, not_true_eq_false, not_false_eq_true, Nat.succ_ne_zero]; omega)) only [go_sem, reduceIte, reduceCtorEq, Nat.succ_ne_zero, not_false_eq_true, decide_true, decide_false, Nat.reduceAdd, Nat.reduceMul, Nat.reduceEqDiff, Nat.reduceLeDiff]
      refine AWP_draw_fast mo (by kernel_rfl) ?_
      by_cases g1 : f ≤ p
      · by_cases g2 : p ≤ u
        · simp -implicitDefEqProofs (maxSteps := 2000000) (disch := first | omega | (simp only [nx_new, nx_set, List.length_cons, List.length_nil, List.length_map, List.length_set, ne_eq, not_true_eq_false, not_false_eq_true, Nat.succ_ne_zero]; done) | (simp only [nx_new, nx_set, List.length_cons, List.length_nil, List.length_map, List.length_set, ne_eq, not_true_eq_false, not_false_eq_true, Nat.succ_ne_zero]; omega)) only [go_sem, reduceIte, reduceCtorEq, Nat.succ_ne_zero, not_false_eq_true, decide_true, decide_false, Nat.reduceAdd, Nat.reduceMul, Nat.reduceEqDiff, Nat.reduceLeDiff, h1]
          refine ret_same (G := H) (v := .bool true) .ret (.inr rfl) hw (Nat.le_refl _) (by rw [ares_tmp ret25]; rfl) rfl (fun b hb => by simp -implicitDefEqProofs (maxSteps := 2000000) (disch := first | omega | (simp only [nx_new, nx_set, List.length_cons, List.length_nil, List.length_map, List.length_set, ne_eq, not_true_eq_false, not_false_eq_true, Nat.succ_ne_zero]; done) | (simp only [nx_new, nx_set, List.length_cons, List.length_nil, List.length_map, List.length_set, ne_eq, not_true_eq_false, not_false_eq_true, Nat.succ_ne_zero]; omega)) only [go_sem, reduceIte, reduceCtorEq, Nat.succ_ne_zero, not_false_eq_true, decide_true, decide_false, Nat.reduceAdd, Nat.reduceMul, Nat.reduceEqDiff, Nat.reduceLeDiff]) ⟨by rw [hyes g1 g2], rfl⟩
        · simp -implicitDefEqProofs (maxSteps := 2000000) (disch := first | omega | (simp only [nx_new, nx_set, List.length_cons, List.length_nil, List.length_map, List.length_set, ne_eq, not_true_eq_false, not_false_eq_true, Nat.succ_ne_zero]; done) | (simp only [nx_new, nx_set, List.length_cons, List.length_nil, List.length_map, List.length_set, ne_eq, not_true_eq_false, not_false_eq_true, Nat.succ_ne_zero]; omega)) only [go_sem, reduceIte, reduceCtorEq, Nat.succ_ne_zero, not_false_eq_true, decide_true, decide_false, Nat.reduceAdd, Nat.reduceMul, Nat.reduceEqDiff, Nat.reduceLeDiff, h1]
          refine ⟨j + 1, ⟨hjl, hmore (by omega)⟩, by omega, Weak.sub ?_⟩
          (simp -implicitDefEqProofs (disch := omega) only [Abs.Sub, get_cons_eq, get_cons_ne, and_self, Option.some.injEq, Value.int.injEq, Value.slice.injEq, true_and, and_true, Int.natCast_zero, Int.natCast_add, Int.natCast_one, List.length_nil]; try omega)
      · simp -implicitDefEqProofs (maxSteps := 2000000) (disch := first | omega | (simp only [nx_new, nx_set, List.length_cons, List.length_nil, List.length_map, List.length_set, ne_eq, not_true_eq_false, not_false_eq_true, Nat.succ_ne_zero]; done) | (simp only [nx_new, nx_set, List.length_cons, List.length_nil, List.length_map, List.length_set, ne_eq, not_true_eq_false, not_false_eq_true, Nat.succ_ne_zero]; omega)) only [go_sem, reduceIte, reduceCtorEq, Nat.succ_ne_zero, not_false_eq_true, decide_true, decide_false, Nat.reduceAdd, Nat.reduceMul, Nat.reduceEqDiff, Nat.reduceLeDiff, h1]
        refine ⟨j + 1, ⟨hjl, hmore (by omega)⟩, by omega, Weak.sub ?_⟩
        (simp -implicitDefEqProofs (disch := omega) only [Abs.Sub, get_cons_eq, get_cons_ne, and_self, Option.some.injEq, Value.int.injEq, Value.slice.injEq, true_and, and_true, Int.natCast_zero, Int.natCast_add, Int.natCast_one, List.length_nil]; try omega)
    · rw [List.take_of_length_le (by omega)] at hno
      simp -implicitDefEqProofs (maxSteps := 2000000) (disch := first | omega | (simp only [nx_new, nx_set, List.length_cons, List.length_nil, List.length_map, List.length_set, ne_eq, not_true_eq_false, not_false_eq_true, Nat.succ_ne_zero]; done) | (simp only [nx_new, nx_set, List.length_cons, List.length_nil, List.length_map, List.length_set, ne_eq, not_true_eq_false, not_false_eq_true, Nat.succ_ne_zero]; omega)) only [go_sem, reduceIte, reduceCtorEq, Nat.succ_ne_zero, not_false_eq_true, decide_true, decide_false, Nat.reduceAdd, Nat.reduceMul, Nat.reduceEqDiff, Nat.reduceLeDiff]
      refine ret_same (G := H) (v := .bool false) .ret (.inr rfl) hw (Nat.le_refl _) (by rw [ares_tmp ret25]; rfl) rfl (fun b hb => by simp -implicitDefEqProofs (maxSteps := 2000000) (disch := first | omega | (simp only [nx_new, nx_set, List.length_cons, List.length_nil, List.length_map, List.length_set, ne_eq, not_true_eq_false, not_false_eq_true, Nat.succ_ne_zero]; done) | (simp only [nx_new, nx_set, List.length_cons, List.length_nil, List.length_map, List.length_set, ne_eq, not_true_eq_false, not_false_eq_true, Nat.succ_ne_zero]; omega)) only [go_sem, reduceIte, reduceCtorEq, Nat.succ_ne_zero, not_false_eq_true, decide_true, decide_false, Nat.reduceAdd, Nat.reduceMul, Nat.reduceEqDiff, Nat.reduceLeDiff]) ⟨by rw [hno], rfl⟩

theorem n17 : Try.f17.ntmps = 47 := rfl
theorem ret17 : Try.f17.results = #[.tmp 4] := rfl
def meetsB (l : List Sp) (pts : List Int) : Bool := l.all fun s => meetB s pts
theorem meets_spec (H : Hp) (a p1 : Option Addr) (l : List Sp) (pts : List Int) (hl : l.length ≤ 1000000) (hl1 : pts.length ≤ 1000000) (he : Elems H a 2 (l.map spc)) (he1 : Elems H p1 1 (pts.map ic)) :
    ACalls Try.prog 17 [.slice a l.length l.length, .slice p1 pts.length pts.length] H (fun v H' => v = .bool (meetsB l pts) ∧ H' = H) := by
  refine ACalls_enter Try.func17 (by kernel_rfl) rfl (by kernel_rfl) (by simp [n17]) fun hw hr => AWP_of_awp ?_
  simp -implicitDefEqProofs (maxSteps := 2000000) (disch := first | omega | (simp only [nx_new, nx_set, List.length_cons, List.length_nil, List.length_map, List.length_set, ne_eq, not_true_eq_false, not_false_eq_true, Nat.succ_ne_zero]; done) | (simp only [nx_new, nx_set, List.length_cons, List.length_nil, List.length_map, List.length_set, ne_eq, not_true_eq_false, not_false_eq_true, Nat.succ_ne_zero]; omega)) only [go_sem, reduceIte, reduceCtorEq, Nat.succ_ne_zero, not_false_eq_true, decide_true, decide_false, Nat.reduceAdd, Nat.reduceMul, Nat.reduceEqDiff, Nat.reduceLeDiff]
  refine AWP_loop (σ := Nat) (fun k => [(5, .int .i64 k), (0, .slice a l.length l.length), (1, .slice p1 pts.length pts.length)]) (fun _ => H) (fun k => k ≤ l.length ∧ (l.take k).all (fun s => meetB s pts) = true) (fun k => l.length - k) 0 ⟨Nat.zero_le _, rfl⟩ (Weak.sub ?_) ?_
  · (simp -implicitDefEqProofs (disch := omega) only [Abs.Sub, get_cons_eq, get_cons_ne, and_self, Option.some.injEq, Value.int.injEq, Value.slice.injEq, true_and, and_true, Int.natCast_zero, Int.natCast_add, Int.natCast_one, List.length_nil]; try omega)
  · rintro k ⟨hk, hin⟩
    refine AWP_of_awp ?_
    by_cases hlt : k < l.length
    · obtain ⟨b, o, rfl, hb, hload⟩ := he k (by simpa using hlt)
      have hnext : meetB l[k] pts = true → (l.take (k + 1)).all (fun s => meetB s pts) = true := fun h => by
        rw [List.take_succ_eq_append_getElem hlt, List.all_append, hin]; simpa using h
      have hfail : meetB l[k] pts = false → meetsB l pts = false := fun h => by
        rw [meetsB, List.all_eq_false]; exact ⟨l[k], List.getElem_mem hlt, by simp [h]⟩
      simp only [List.getElem_map, spc] at hload
      generalize l[k] = s at *
      obtain ⟨f, u⟩ := s
      have d1 : load1 H ⟨b, o + k * 2, none⟩ = some (.int .i64 f) := (load1_part (i := 0) hload (by simp)).trans rfl
      have d2 : load1 H ⟨b, o + k * 2 + 1, none⟩ = some (.int .i64 u) := (load1_part (i := 1) hload (by simp)).trans rfl
      simp -implicitDefEqProofs (maxSteps := 2000000) (disch := first | omega | (simp only [nx_new, nx_set, List.length_cons, List.length_nil, List.length_map, List.length_set, ne_eq, not_true_eq_false, not_false_eq_true, Nat.succ_ne_zero]; done) | (simp only [nx_new, nx_set, List.length_cons, List.length_nil, List.length_map, List.length_set, ne_eq, not_true_eq_false, not_false_eq_true, Nat.succ_ne_zero]; omega)) only [go_sem, reduceIte, reduceCtorEq, Nat.succ_ne_zero, not_false_eq_true, decide_true, decide_false, Nat.reduceAdd, Nat.reduceMul, Nat.reduceEqDiff, Nat.reduceLeDiff]
      refine AWP_loop (σ := Nat) (fun j => [(7, .int .i64 j), (6, .bool (meetB (f, u) (pts.take j))), (5, .int .i64 k), (0, .slice (some ⟨b, o, none⟩) l.length l.length), (1, .slice p1 pts.length pts.length)]) (fun _ => H) (fun j => j ≤ pts.length) (fun j => pts.length - j) 0 (Nat.zero_le _) (Weak.sub ?_) ?_
      · simp -implicitDefEqProofs (disch := omega) only [Abs.Sub, get_cons_eq, get_cons_ne, and_self, Int.natCast_zero, Int.natCast_add, Int.natCast_one]
        first | exact ⟨rfl, trivial⟩ | exact ⟨trivial, rfl, trivial⟩ | (simp [meetB])
      · rintro j hj
        refine AWP_of_awp ?_
        by_cases hjl : j < pts.length
        · obtain ⟨b1, o1, rfl, h1⟩ := elem1 he1 j hjl
          have hyes : f ≤ pts[j] → pts[j] ≤ u → meetB (f, u) (pts.take (j + 1)) = true := fun h2 h3 => by
            rw [List.take_succ_eq_append_getElem hjl]
            simp only [meetB, List.any_append]
            simp [h2, h3]
          have hold : meetB (f, u) (pts.take j) = true → meetB (f, u) (pts.take (j + 1)) = true := fun h2 => by
            rw [List.take_succ_eq_append_getElem hjl]
            simp only [meetB, List.any_append] at h2 ⊢
            rw [h2]; rfl
          have hmore := fun h => meet_more (f := f) (u := u) hjl h
          generalize pts[j] = p at *
          generalize meetB (f, u) (pts.take j) = m at *
          simp -implicitDefEqProofs (maxSteps := 2000000) (disch := first | omega | (simp only [nx_new, nx_set, List.length_cons, List.length_nil, List.length_map, List.length_set, ne_eq, not_true_eq_false, not_false_eq_true, Nat.succ_ne_zero]; done) | (simp only [nx_new, nx_set, List.length_cons, List.length_nil, List.length_map, List.length_set, ne_eq, not_true_eq_false, not_false_eq_true, Nat.succ_ne_zero]; omega)) only [go_sem, reduceIte, reduceCtorEq, Nat.succ_ne_zero, not_false_eq_true, decide_true, decide_false, Nat.reduceAdd, Nat.reduceMul, Nat.reduceEqDiff, Nat.reduceLeDiff]
          refine AWP_draw_fast mo (by kernel_rfl) ?_
          cases m with
          | true =>
            simp -implicitDefEqProofs (maxSteps := 2000000) (disch := first | omega | (simp only [nx_new, nx_set, List.length_cons, List.length_nil, List.length_map, List.length_set, ne_eq, not_true_eq_false, not_false_eq_true, Nat.succ_ne_zero]; done) | (simp only [nx_new, nx_set, List.length_cons, List.length_nil, List.length_map, List.length_set, ne_eq, not_true_eq_false, not_false_eq_true, Nat.succ_ne_zero]; omega)) only [go_sem, reduceIte, reduceCtorEq, Nat.succ_ne_zero, not_false_eq_true, decide_true, decide_false, Nat.reduceAdd, Nat.reduceMul, Nat.reduceEqDiff, Nat.reduceLeDiff]
            refine ⟨j + 1, hjl, by omega, Weak.sub ?_⟩
            rw [hold rfl]
            (simp -implicitDefEqProofs (disch := omega) only [Abs.Sub, get_cons_eq, get_cons_ne, and_self, Option.some.injEq, Value.int.injEq, Value.slice.injEq, true_and, and_true, Int.natCast_zero, Int.natCast_add, Int.natCast_one, List.length_nil]; try omega)
          | false =>
            by_cases g1 : f ≤ p
            · by_cases g2 : p ≤ u
              · simp -implicitDefEqProofs (maxSteps := 2000000) (disch := first | omega | (simp only [nx_new, nx_set, List.length_cons, List.length_nil, List.length_map, List.length_set, ne_eq, not_true_eq_false, not_false_eq_true, Nat.succ_ne_zero]; done) | (simp only [nx_new, nx_set, List.length_cons, List.length_nil, List.length_map, List.length_set, ne_eq, not_true_eq_false, not_false_eq_true, Nat.succ_ne_zero]; omega)) only [go_sem, reduceIte, reduceCtorEq, Nat.succ_ne_zero, not_false_eq_true, decide_true, decide_false, Nat.reduceAdd, Nat.reduceMul, Nat.reduceEqDiff, Nat.reduceLeDiff, h1, d1, d2]
                refine ⟨j + 1, hjl, by omega, Weak.sub ?_⟩
                rw [hyes g1 g2]
                (simp -implicitDefEqProofs (disch := omega) only [Abs.Sub, get_cons_eq, get_cons_ne, and_self, Option.some.injEq, Value.int.injEq, Value.slice.injEq, true_and, and_true, Int.natCast_zero, Int.natCast_add, Int.natCast_one, List.length_nil]; try omega)
              · simp -implicitDefEqProofs (maxSteps := 2000000) (disch := first | omega | (simp only [nx_new, nx_set, List.length_cons, List.length_nil, List.length_map, List.length_set, ne_eq, not_true_eq_false, not_false_eq_true, Nat.succ_ne_zero]; done) | (simp only [nx_new, nx_set, List.length_cons, List.length_nil, List.length_map, List.length_set, ne_eq, not_true_eq_false, not_false_eq_true, Nat.succ_ne_zero]; omega)) only [go_sem, reduceIte, reduceCtorEq, Nat.succ_ne_zero, not_false_eq_true, decide_true, decide_false, Nat.reduceAdd, Nat.reduceMul, Nat.reduceEqDiff, Nat.reduceLeDiff, h1, d1, d2]
                refine ⟨j + 1, hjl, by omega, Weak.sub ?_⟩
                rw [hmore rfl (by omega)]
                (simp -implicitDefEqProofs (disch := omega) only [Abs.Sub, get_cons_eq, get_cons_ne, and_self, Option.some.injEq, Value.int.injEq, Value.slice.injEq, true_and, and_true, Int.natCast_zero, Int.natCast_add, Int.natCast_one, List.length_nil]; try omega)
            · simp -implicitDefEqProofs (maxSteps := 2000000) (disch := first | omega | (simp only [nx_new, nx_set, List.length_cons, List.length_nil, List.length_map, List.length_set, ne_eq, not_true_eq_false, not_false_eq_true, Nat.succ_ne_zero]; done) | (simp only [nx_new, nx_set, List.length_cons, List.length_nil, List.length_map, List.length_set, ne_eq, not_true_eq_false, not_false_eq_true, Nat.succ_ne_zero]; omega)) only [go_sem, reduceIte, reduceCtorEq, Nat.succ_ne_zero, not_false_eq_true, decide_true, decide_false, Nat.reduceAdd, Nat.reduceMul, Nat.reduceEqDiff, Nat.reduceLeDiff, h1, d1, d2]
              refine ⟨j + 1, hjl, by omega, Weak.sub ?_⟩
              rw [hmore rfl (by omega)]
              (simp -implicitDefEqProofs (disch := omega) only [Abs.Sub, get_cons_eq, get_cons_ne, and_self, Option.some.injEq, Value.int.injEq, Value.slice.injEq, true_and, and_true, Int.natCast_zero, Int.natCast_add, Int.natCast_one, List.length_nil]; try omega)
        · rw [List.take_of_length_le (by omega)]
          simp -implicitDefEqProofs (maxSteps := 2000000) (disch := first | omega | (simp only [nx_new, nx_set, List.length_cons, List.length_nil, List.length_map, List.length_set, ne_eq, not_true_eq_false, not_false_eq_true, Nat.succ_ne_zero]; done) | (simp only [nx_new, nx_set, List.length_cons, List.length_nil, List.length_map, List.length_set, ne_eq, not_true_eq_false, not_false_eq_true, Nat.succ_ne_zero]; omega)) only [go_sem, reduceIte, reduceCtorEq, Nat.succ_ne_zero, not_false_eq_true, decide_true, decide_false, Nat.reduceAdd, Nat.reduceMul, Nat.reduceEqDiff, Nat.reduceLeDiff]
          refine condS_split (fun hd => ?_) (fun hd => ?_)
          · simp -implicitDefEqProofs (maxSteps := 2000000) (disch := first | omega | (simp only [nx_new, nx_set, List.length_cons, List.length_nil, List.length_map, List.length_set, ne_eq, not_true_eq_false, not_false_eq_true, Nat.succ_ne_zero]; done) | (simp only [nx_new, nx_set, List.length_cons, List.length_nil, List.length_map, List.length_set, ne_eq, not_true_eq_false, not_false_eq_true, Nat.succ_ne_zero]; omega)) only [go_sem, reduceIte, reduceCtorEq, Nat.succ_ne_zero, not_false_eq_true, decide_true, decide_false, Nat.reduceAdd, Nat.reduceMul, Nat.reduceEqDiff, Nat.reduceLeDiff, hd]
            exact ret_r (v := .bool false) (by rw [ares_tmp ret17]; rfl) ⟨by rw [hfail (by simpa using hd)], rfl⟩
          · simp -implicitDefEqProofs (maxSteps := 2000000) (disch := first | omega | (simp only [nx_new, nx_set, List.length_cons, List.length_nil, List.length_map, List.length_set, ne_eq, not_true_eq_false, not_false_eq_true, Nat.succ_ne_zero]; done) | (simp only [nx_new, nx_set, List.length_cons, List.length_nil, List.length_map, List.length_set, ne_eq, not_true_eq_false, not_false_eq_true, Nat.succ_ne_zero]; omega)) only [go_sem, reduceIte, reduceCtorEq, Nat.succ_ne_zero, not_false_eq_true, decide_true, decide_false, Nat.reduceAdd, Nat.reduceMul, Nat.reduceEqDiff, Nat.reduceLeDiff, hd]
            refine ⟨k + 1, ⟨hlt, hnext (by simpa using hd)⟩, by omega, Weak.sub ?_⟩
            (simp -implicitDefEqProofs (disch := omega) only [Abs.Sub, get_cons_eq, get_cons_ne, and_self, Option.some.injEq, Value.int.injEq, Value.slice.injEq, true_and, and_true, Int.natCast_zero, Int.natCast_add, Int.natCast_one, List.length_nil]; try omega)
    · rw [List.take_of_length_le (by omega)] at hin
      simp -implicitDefEqProofs (maxSteps := 2000000) (disch := first | omega | (simp only [nx_new, nx_set, List.length_cons, List.length_nil, List.length_map, List.length_set, ne_eq, not_true_eq_false, not_false_eq_true, Nat.succ_ne_zero]; done) | (simp only [nx_new, nx_set, List.length_cons, List.length_nil, List.length_map, List.length_set, ne_eq, not_true_eq_false, not_false_eq_true, Nat.succ_ne_zero]; omega)) only [go_sem, reduceIte, reduceCtorEq, Nat.succ_ne_zero, not_false_eq_true, decide_true, decide_false, Nat.reduceAdd, Nat.reduceMul, Nat.reduceEqDiff, Nat.reduceLeDiff]
      exact ret_r (v := .bool true) (by rw [ares_tmp ret17]; rfl) ⟨by rw [meetsB, hin], rfl⟩

theorem n16 : Try.f16.ntmps = 97 := rfl
theorem ret16 : Try.f16.results = #[.tmp 6] := rfl
theorem refCheck_spec (H : Hp) (a p1 p2 : Option Addr) (l : List Sp) (pts aps : List Int) (hl : l.length ≤ 1000000) (hl1 : pts.length ≤ 1000000) (hl2 : aps.length ≤ 1000000) (he : Elems H a 2 (l.map spc)) (he1 : Elems H p1 1 (pts.map ic)) (he2 : Elems H p2 1 (aps.map ic)) :
    ACalls Try.prog 16 [.slice a l.length l.length, .slice p1 pts.length pts.length, .slice p2 aps.length aps.length] H (fun v H' => v = .bool (checkB l pts aps) ∧ H' = H) := by
  refine ACalls_enter Try.func16 (by kernel_rfl) rfl (by kernel_rfl) (by simp [n16]) fun hw hr => AWP_step ?_
  simp -implicitDefEqProofs (maxSteps := 2000000) (disch := first | omega | (simp only [nx_new, nx_set, List.length_cons, List.length_nil, List.length_map, List.length_set, ne_eq, not_true_eq_false, not_false_eq_true, Nat.succ_ne_zero]; done) | (simp only [nx_new, nx_set, List.length_cons, List.length_nil, List.length_map, List.length_set, ne_eq, not_true_eq_false, not_false_eq_true, Nat.succ_ne_zero]; omega)) only [go_sem, reduceIte, reduceCtorEq, Nat.succ_ne_zero, not_false_eq_true, decide_true, decide_false, Nat.reduceAdd, Nat.reduceMul, Nat.reduceEqDiff, Nat.reduceLeDiff]
  refine AWP_step ?_
  simp -implicitDefEqProofs (maxSteps := 2000000) (disch := first | omega | (simp only [nx_new, nx_set, List.length_cons, List.length_nil, List.length_map, List.length_set, ne_eq, not_true_eq_false, not_false_eq_true, Nat.succ_ne_zero]; done) | (simp only [nx_new, nx_set, List.length_cons, List.length_nil, List.length_map, List.length_set, ne_eq, not_true_eq_false, not_false_eq_true, Nat.succ_ne_zero]; omega)) only [go_sem, reduceIte, reduceCtorEq, Nat.succ_ne_zero, not_false_eq_true, decide_true, decide_false, Nat.reduceAdd, Nat.reduceMul, Nat.reduceEqDiff, Nat.reduceLeDiff]
  refine ACalls.use_eq (refValid_spec _ a l (by omega) he) ?_
  simp -implicitDefEqProofs (maxSteps := 2000000) (disch := first | omega | (simp only [nx_new, nx_set, List.length_cons, List.length_nil, List.length_map, List.length_set, ne_eq, not_true_eq_false, not_false_eq_true, Nat.succ_ne_zero]; done) | (simp only [nx_new, nx_set, List.length_cons, List.length_nil, List.length_map, List.length_set, ne_eq, not_true_eq_false, not_false_eq_true, Nat.succ_ne_zero]; omega)) only [go_sem, reduceIte, reduceCtorEq, Nat.succ_ne_zero, not_false_eq_true, decide_true, decide_false, Nat.reduceAdd, Nat.reduceMul, Nat.reduceEqDiff, Nat.reduceLeDiff]
  refine guardS_split (fun hc => ?_) (fun hc => ?_)
  · simp -implicitDefEqProofs (maxSteps := 2000000) (disch := first | omega | (simp only [nx_new, nx_set, List.length_cons, List.length_nil, List.length_map, List.length_set, ne_eq, not_true_eq_false, not_false_eq_true, Nat.succ_ne_zero]; done) | (simp only [nx_new, nx_set, List.length_cons, List.length_nil, List.length_map, List.length_set, ne_eq, not_true_eq_false, not_false_eq_true, Nat.succ_ne_zero]; omega)) only [go_sem, reduceIte, reduceCtorEq, Nat.succ_ne_zero, not_false_eq_true, decide_true, decide_false, Nat.reduceAdd, Nat.reduceMul, Nat.reduceEqDiff, Nat.reduceLeDiff, hc]
    simp only [Bool.not_eq_true'] at hc
    exact ret_r (v := .bool false) (by rw [ares_tmp ret16]; rfl) ⟨by rw [checkB, hc]; rfl, rfl⟩
  · simp -implicitDefEqProofs (maxSteps := 2000000) (disch := first | omega | (simp only [nx_new, nx_set, List.length_cons, List.length_nil, List.length_map, List.length_set, ne_eq, not_true_eq_false, not_false_eq_true, Nat.succ_ne_zero]; done) | (simp only [nx_new, nx_set, List.length_cons, List.length_nil, List.length_map, List.length_set, ne_eq, not_true_eq_false, not_false_eq_true, Nat.succ_ne_zero]; omega)) only [go_sem, reduceIte, reduceCtorEq, Nat.succ_ne_zero, not_false_eq_true, decide_true, decide_false, Nat.reduceAdd, Nat.reduceMul, Nat.reduceEqDiff, Nat.reduceLeDiff, hc]
    simp only [Bool.not_eq_false'] at hc
    refine condS_split (fun hc2 => ?_) (fun hc2 => ?_)
    · simp -implicitDefEqProofs (maxSteps := 2000000) (disch := first | omega | (simp only [nx_new, nx_set, List.length_cons, List.length_nil, List.length_map, List.length_set, ne_eq, not_true_eq_false, not_false_eq_true, Nat.succ_ne_zero]; done) | (simp only [nx_new, nx_set, List.length_cons, List.length_nil, List.length_map, List.length_set, ne_eq, not_true_eq_false, not_false_eq_true, Nat.succ_ne_zero]; omega)) only [go_sem, reduceIte, reduceCtorEq, Nat.succ_ne_zero, not_false_eq_true, decide_true, decide_false, Nat.reduceAdd, Nat.reduceMul, Nat.reduceEqDiff, Nat.reduceLeDiff, hc2]
      have : decide (pts.length = aps.length) = false := decide_eq_false (by have := bne_iff_ne.1 hc2; omega)
      exact ret_r (v := .bool false) (by rw [ares_tmp ret16]; rfl) ⟨by rw [checkB, hc, this]; rfl, rfl⟩
    · simp -implicitDefEqProofs (maxSteps := 2000000) (disch := first | omega | (simp only [nx_new, nx_set, List.length_cons, List.length_nil, List.length_map, List.length_set, ne_eq, not_true_eq_false, not_false_eq_true, Nat.succ_ne_zero]; done) | (simp only [nx_new, nx_set, List.length_cons, List.length_nil, List.length_map, List.length_set, ne_eq, not_true_eq_false, not_false_eq_true, Nat.succ_ne_zero]; omega)) only [go_sem, reduceIte, reduceCtorEq, Nat.succ_ne_zero, not_false_eq_true, decide_true, decide_false, Nat.reduceAdd, Nat.reduceMul, Nat.reduceEqDiff, Nat.reduceLeDiff, hc2]
      have hleq : pts.length = aps.length := by simp at hc2; omega
      have hle1 : decide (pts.length = aps.length) = true := decide_eq_true hleq
      refine AWP_join (σ := Unit) (fun _ => [(0, .slice a l.length l.length), (1, .slice p1 pts.length pts.length), (2, .slice p2 aps.length aps.length)]) (fun _ => H) (fun _ => l.all (fun s => meetB s pts) = true) ?_ ?_
      · simp -implicitDefEqProofs (maxSteps := 2000000) (disch := first | omega | (simp only [nx_new, nx_set, List.length_cons, List.length_nil, List.length_map, List.length_set, ne_eq, not_true_eq_false, not_false_eq_true, Nat.succ_ne_zero]; done) | (simp only [nx_new, nx_set, List.length_cons, List.length_nil, List.length_map, List.length_set, ne_eq, not_true_eq_false, not_false_eq_true, Nat.succ_ne_zero]; omega)) only [go_sem, reduceIte, reduceCtorEq, Nat.succ_ne_zero, not_false_eq_true, decide_true, decide_false, Nat.reduceAdd, Nat.reduceMul, Nat.reduceEqDiff, Nat.reduceLeDiff]
        refine AWP_loop (σ := Nat) (fun k => [(7, .int .i64 k), (0, .slice a l.length l.length), (1, .slice p1 pts.length pts.length), (2, .slice p2 aps.length aps.length)]) (fun _ => H) (fun k => k ≤ l.length ∧ (l.take k).all (fun s => meetB s pts) = true) (fun k => l.length - k) 0 ⟨Nat.zero_le _, rfl⟩ (Weak.sub ?_) ?_
        · (simp -implicitDefEqProofs (disch := omega) only [Abs.Sub, get_cons_eq, get_cons_ne, and_self, Option.some.injEq, Value.int.injEq, Value.slice.injEq, true_and, and_true, Int.natCast_zero, Int.natCast_add, Int.natCast_one, List.length_nil]; try omega)
        · rintro k ⟨hk, hin⟩
          refine AWP_of_awp ?_
          by_cases hlt : k < l.length
          · obtain ⟨b, o, rfl, hb, hload⟩ := he k (by simpa using hlt)
            have hnext : meetB l[k] pts = true → (l.take (k + 1)).all (fun s => meetB s pts) = true := fun h => by
              rw [List.take_succ_eq_append_getElem hlt, List.all_append, hin]; simpa using h
            have hfail : meetB l[k] pts = false → l.all (fun s => meetB s pts) = false := fun h => by
              rw [List.all_eq_false]; exact ⟨l[k], List.getElem_mem hlt, by simp [h]⟩
            simp only [List.getElem_map, spc] at hload
            generalize l[k] = s at *
            obtain ⟨f, u⟩ := s
            simp -implicitDefEqProofs (maxSteps := 2000000) (disch := first | omega | (simp only [nx_new, nx_set, List.length_cons, List.length_nil, List.length_map, List.length_set, ne_eq, not_true_eq_false, not_false_eq_true, Nat.succ_ne_zero]; done) | (simp only [nx_new, nx_set, List.length_cons, List.length_nil, List.length_map, List.length_set, ne_eq, not_true_eq_false, not_false_eq_true, Nat.succ_ne_zero]; omega)) only [go_sem, reduceIte, reduceCtorEq, Nat.succ_ne_zero, not_false_eq_true, decide_true, decide_false, Nat.reduceAdd, Nat.reduceMul, Nat.reduceEqDiff, Nat.reduceLeDiff, hload]
            refine ACalls.use_eq (refMeets_spec H p1 f u pts hl1 he1) ?_
            simp -implicitDefEqProofs (maxSteps := 2000000) (disch := first | omega | (simp only [nx_new, nx_set, List.length_cons, List.length_nil, List.length_map, List.length_set, ne_eq, not_true_eq_false, not_false_eq_true, Nat.succ_ne_zero]; done) | (simp only [nx_new, nx_set, List.length_cons, List.length_nil, List.length_map, List.length_set, ne_eq, not_true_eq_false, not_false_eq_true, Nat.succ_ne_zero]; omega)) only [go_sem, reduceIte, reduceCtorEq, Nat.succ_ne_zero, not_false_eq_true, decide_true, decide_false, Nat.reduceAdd, Nat.reduceMul, Nat.reduceEqDiff, Nat.reduceLeDiff]
            refine condS_split (fun hd => ?_) (fun hd => ?_)
            · simp -implicitDefEqProofs (maxSteps := 2000000) (disch := first | omega | (simp only [nx_new, nx_set, List.length_cons, List.length_nil, List.length_map, List.length_set, ne_eq, not_true_eq_false, not_false_eq_true, Nat.succ_ne_zero]; done) | (simp only [nx_new, nx_set, List.length_cons, List.length_nil, List.length_map, List.length_set, ne_eq, not_true_eq_false, not_false_eq_true, Nat.succ_ne_zero]; omega)) only [go_sem, reduceIte, reduceCtorEq, Nat.succ_ne_zero, not_false_eq_true, decide_true, decide_false, Nat.reduceAdd, Nat.reduceMul, Nat.reduceEqDiff, Nat.reduceLeDiff, hd]
              exact ret_r (v := .bool false) (by rw [ares_tmp ret16]; rfl) ⟨by rw [checkB, hc, hle1, hfail (by simpa using hd)]; simp, rfl⟩
            · simp -implicitDefEqProofs (maxSteps := 2000000) (disch := first | omega | (simp only [nx_new, nx_set, List.length_cons, List.length_nil, List.length_map, List.length_set, ne_eq, not_true_eq_false, not_false_eq_true, Nat.succ_ne_zero]; done) | (simp only [nx_new, nx_set, List.length_cons, List.length_nil, List.length_map, List.length_set, ne_eq, not_true_eq_false, not_false_eq_true, Nat.succ_ne_zero]; omega)) only [go_sem, reduceIte, reduceCtorEq, Nat.succ_ne_zero, not_false_eq_true, decide_true, decide_false, Nat.reduceAdd, Nat.reduceMul, Nat.reduceEqDiff, Nat.reduceLeDiff, hd]
              refine ⟨k + 1, ⟨hlt, hnext (by simpa using hd)⟩, by omega, Weak.sub ?_⟩
              (simp -implicitDefEqProofs (disch := omega) only [Abs.Sub, get_cons_eq, get_cons_ne, and_self, Option.some.injEq, Value.int.injEq, Value.slice.injEq, true_and, and_true, Int.natCast_zero, Int.natCast_add, Int.natCast_one, List.length_nil]; try omega)
          · rw [List.take_of_length_le (by omega)] at hin
            simp -implicitDefEqProofs (maxSteps := 2000000) (disch := first | omega | (simp only [nx_new, nx_set, List.length_cons, List.length_nil, List.length_map, List.length_set, ne_eq, not_true_eq_false, not_false_eq_true, Nat.succ_ne_zero]; done) | (simp only [nx_new, nx_set, List.length_cons, List.length_nil, List.length_map, List.length_set, ne_eq, not_true_eq_false, not_false_eq_true, Nat.succ_ne_zero]; omega)) only [go_sem, reduceIte, reduceCtorEq, Nat.succ_ne_zero, not_false_eq_true, decide_true, decide_false, Nat.reduceAdd, Nat.reduceMul, Nat.reduceEqDiff, Nat.reduceLeDiff]
            exact ⟨(), hin, Weak.sub (by simp -implicitDefEqProofs (disch := omega) only [Abs.Sub, get_cons_eq, get_cons_ne, and_self, Int.natCast_zero, Int.natCast_add, Int.natCast_one])⟩
      · rintro _ hmeet
        refine AWP_join (σ := Unit) (fun _ => [(0, .slice a l.length l.length), (2, .slice p2 aps.length aps.length)]) (fun _ => H) (fun _ => incB pts = true ∧ aps.all (inrB l.length) = true) ?_ ?_
        · simp -implicitDefEqProofs (maxSteps := 2000000) (disch := first | omega | (simp only [nx_new, nx_set, List.length_cons, List.length_nil, List.length_map, List.length_set, ne_eq, not_true_eq_false, not_false_eq_true, Nat.succ_ne_zero]; done) | (simp only [nx_new, nx_set, List.length_cons, List.length_nil, List.length_map, List.length_set, ne_eq, not_true_eq_false, not_false_eq_true, Nat.succ_ne_zero]; omega)) only [go_sem, reduceIte, reduceCtorEq, Nat.succ_ne_zero, not_false_eq_true, decide_true, decide_false, Nat.reduceAdd, Nat.reduceMul, Nat.reduceEqDiff, Nat.reduceLeDiff]
          refine AWP_loop (σ := Nat) (fun k => [(8, .int .i64 k), (0, .slice a l.length l.length), (1, .slice p1 pts.length pts.length), (2, .slice p2 aps.length aps.length)]) (fun _ => H) (fun k => k ≤ pts.length ∧ (pts.take k).Pairwise (· < ·) ∧ (aps.take k).all (inrB l.length) = true) (fun k => pts.length - k) 0 ⟨Nat.zero_le _, List.Pairwise.nil, rfl⟩ (Weak.sub ?_) ?_
          · (simp -implicitDefEqProofs (disch := omega) only [Abs.Sub, get_cons_eq, get_cons_ne, and_self, Option.some.injEq, Value.int.injEq, Value.slice.injEq, true_and, and_true, Int.natCast_zero, Int.natCast_add, Int.natCast_one, List.length_nil]; try omega)
          · rintro k ⟨hk, hinc, hin⟩
            refine AWP_of_awp ?_
            by_cases hlt : k < pts.length
            · obtain ⟨b, o, rfl, h1⟩ := elem1 he1 k hlt
              have hlt2 : k < aps.length := by omega
              obtain ⟨b2, o2, rfl, h3⟩ := elem1 he2 k hlt2
              have hnext : inrB l.length aps[k] = true → (aps.take (k + 1)).all (inrB l.length) = true := fun h => by
                rw [List.take_succ_eq_append_getElem hlt2, List.all_append, hin]; simpa using h
              have hfail : inrB l.length aps[k] = false → aps.all (inrB l.length) = false := fun h => by
                rw [List.all_eq_false]; exact ⟨aps[k], List.getElem_mem hlt2, by simp [h]⟩
              have hp : k = 0 ∨ ∃ p, load1 H ⟨b, o + (k - 1), none⟩ = some (.int .i64 p) ∧ 0 < k ∧ (p < pts[k] → (pts.take (k + 1)).Pairwise (· < ·)) ∧ (pts[k] ≤ p → incB pts = false) := by
                rcases Nat.eq_zero_or_pos k with h0 | h0
                · exact .inl h0
                · obtain ⟨b', o', eb, h2⟩ := elem1 he1 (k - 1) (by omega)
                  simp only [Option.some.injEq, Addr.mk.injEq, and_true] at eb
                  obtain ⟨rfl, rfl⟩ := eb
                  exact .inr ⟨_, h2, h0, inc_take hlt h0 hinc, inc_bad hlt h0⟩
              have hz : k = 0 → (pts.take (k + 1)).Pairwise (· < ·) := fun h0 => by
                subst h0
                cases pts with
                | nil => exact List.Pairwise.nil
                | cons x xs => exact List.pairwise_singleton _ _
              generalize pts[k] = x at *
              generalize aps[k] = i at *
              have hidx : ((k : Int) - 1).toNat = k - 1 := by omega
              have hbad1 : i < 0 → checkB l pts aps = false := fun h => by
                rw [checkB, hfail (by rw [inrB, decide_eq_false (show ¬0 ≤ i by omega)]; rfl)]; simp
              have hbad2 : (l.length : Int) ≤ i → checkB l pts aps = false := fun h => by
                rw [checkB, hfail (by rw [inrB, decide_eq_false (show ¬i < l.length by omega)]; simp)]; simp
              simp -implicitDefEqProofs (maxSteps := 2000000) (disch := first | omega | (simp only [nx_new, nx_set, List.length_cons, List.length_nil, List.length_map, List.length_set, ne_eq, not_true_eq_false, not_false_eq_true, Nat.succ_ne_zero]; done) | (simp only [nx_new, nx_set, List.length_cons, List.length_nil, List.length_map, List.length_set, ne_eq, not_true_eq_false, not_false_eq_true, Nat.succ_ne_zero]; omega)) only [go_sem, reduceIte, reduceCtorEq, Nat.succ_ne_zero, not_false_eq_true, decide_true, decide_false, Nat.reduceAdd, Nat.reduceMul, Nat.reduceEqDiff, Nat.reduceLeDiff]
              refine AWP_draw_fast mo (by kernel_rfl) ?_
              rcases hp with h0 | ⟨p, h2, h0, hgood, hbad⟩
              · have hpw := hz h0
                by_cases c1 : i < 0
                · simp -implicitDefEqProofs (maxSteps := 2000000) (disch := first | omega | (simp only [nx_new, nx_set, List.length_cons, List.length_nil, List.length_map, List.length_set, ne_eq, not_true_eq_false, not_false_eq_true, Nat.succ_ne_zero]; done) | (simp only [nx_new, nx_set, List.length_cons, List.length_nil, List.length_map, List.length_set, ne_eq, not_true_eq_false, not_false_eq_true, Nat.succ_ne_zero]; omega)) only [go_sem, reduceIte, reduceCtorEq, Nat.succ_ne_zero, not_false_eq_true, decide_true, decide_false, Nat.reduceAdd, Nat.reduceMul, Nat.reduceEqDiff, Nat.reduceLeDiff, h1, h3]
                  exact ret_r (v := .bool false) (by rw [ares_tmp ret16]; rfl) ⟨by rw [hbad1 c1], rfl⟩
                · by_cases c2 : (l.length : Int) ≤ i
                  · simp -implicitDefEqProofs (maxSteps := 2000000) (disch := first | omega | (simp only [nx_new, nx_set, List.length_cons, List.length_nil, List.length_map, List.length_set, ne_eq, not_true_eq_false, not_false_eq_true, Nat.succ_ne_zero]; done) | (simp only [nx_new, nx_set, List.length_cons, List.length_nil, List.length_map, List.length_set, ne_eq, not_true_eq_false, not_false_eq_true, Nat.succ_ne_zero]; omega)) only [go_sem, reduceIte, reduceCtorEq, Nat.succ_ne_zero, not_false_eq_true, decide_true, decide_false, Nat.reduceAdd, Nat.reduceMul, Nat.reduceEqDiff, Nat.reduceLeDiff, h1, h3]
                    exact ret_r (v := .bool false) (by rw [ares_tmp ret16]; rfl) ⟨by rw [hbad2 c2], rfl⟩
                  · simp -implicitDefEqProofs (maxSteps := 2000000) (disch := first | omega | (simp only [nx_new, nx_set, List.length_cons, List.length_nil, List.length_map, List.length_set, ne_eq, not_true_eq_false, not_false_eq_true, Nat.succ_ne_zero]; done) | (simp only [nx_new, nx_set, List.length_cons, List.length_nil, List.length_map, List.length_set, ne_eq, not_true_eq_false, not_false_eq_true, Nat.succ_ne_zero]; omega)) only [go_sem, reduceIte, reduceCtorEq, Nat.succ_ne_zero, not_false_eq_true, decide_true, decide_false, Nat.reduceAdd, Nat.reduceMul, Nat.reduceEqDiff, Nat.reduceLeDiff, h1, h3]
                    refine ⟨k + 1, ⟨hlt, hpw, hnext (by rw [inrB, decide_eq_true (show 0 ≤ i by omega), decide_eq_true (show i < l.length by omega)]; rfl)⟩, by omega, Weak.sub ?_⟩
                    (simp -implicitDefEqProofs (disch := omega) only [Abs.Sub, get_cons_eq, get_cons_ne, and_self, Option.some.injEq, Value.int.injEq, Value.slice.injEq, true_and, and_true, Int.natCast_zero, Int.natCast_add, Int.natCast_one, List.length_nil]; try omega)
              · by_cases c0 : x ≤ p
                · simp -implicitDefEqProofs (maxSteps := 2000000) (disch := first | omega | (simp only [nx_new, nx_set, List.length_cons, List.length_nil, List.length_map, List.length_set, ne_eq, not_true_eq_false, not_false_eq_true, Nat.succ_ne_zero]; done) | (simp only [nx_new, nx_set, List.length_cons, List.length_nil, List.length_map, List.length_set, ne_eq, not_true_eq_false, not_false_eq_true, Nat.succ_ne_zero]; omega)) only [go_sem, reduceIte, reduceCtorEq, Nat.succ_ne_zero, not_false_eq_true, decide_true, decide_false, Nat.reduceAdd, Nat.reduceMul, Nat.reduceEqDiff, Nat.reduceLeDiff, h1, h2, hidx, h3]
                  exact ret_r (v := .bool false) (by rw [ares_tmp ret16]; rfl) ⟨by rw [checkB, hbad c0]; simp, rfl⟩
                · have hpw := hgood (by omega)
                  by_cases c1 : i < 0
                  · simp -implicitDefEqProofs (maxSteps := 2000000) (disch := first | omega | (simp only [nx_new, nx_set, List.length_cons, List.length_nil, List.length_map, List.length_set, ne_eq, not_true_eq_false, not_false_eq_true, Nat.succ_ne_zero]; done) | (simp only [nx_new, nx_set, List.length_cons, List.length_nil, List.length_map, List.length_set, ne_eq, not_true_eq_false, not_false_eq_true, Nat.succ_ne_zero]; omega)) only [go_sem, reduceIte, reduceCtorEq, Nat.succ_ne_zero, not_false_eq_true, decide_true, decide_false, Nat.reduceAdd, Nat.reduceMul, Nat.reduceEqDiff, Nat.reduceLeDiff, h1, h2, hidx, h3]
                    exact ret_r (v := .bool false) (by rw [ares_tmp ret16]; rfl) ⟨by rw [hbad1 c1], rfl⟩
                  · by_cases c2 : (l.length : Int) ≤ i
                    · simp -implicitDefEqProofs (maxSteps := 2000000) (disch := first | omega | (simp only [nx_new, nx_set, List.length_cons, List.length_nil, List.length_map, List.length_set, ne_eq, not_true_eq_false, not_false_eq_true, Nat.succ_ne_zero]; done) | (simp only [nx_new, nx_set, List.length_cons, List.length_nil, List.length_map, List.length_set, ne_eq, not_true_eq_false, not_false_eq_true, Nat.succ_ne_zero]; omega)) only [go_sem, reduceIte, reduceCtorEq, Nat.succ_ne_zero, not_false_eq_true, decide_true, decide_false, Nat.reduceAdd, Nat.reduceMul, Nat.reduceEqDiff, Nat.reduceLeDiff, h1, h2, hidx, h3]
                      exact ret_r (v := .bool false) (by rw [ares_tmp ret16]; rfl) ⟨by rw [hbad2 c2], rfl⟩
                    · simp -implicitDefEqProofs (maxSteps := 2000000) (disch := first | omega | (simp only [nx_new, nx_set, List.length_cons, List.length_nil, List.length_map, List.length_set, ne_eq, not_true_eq_false, not_false_eq_true, Nat.succ_ne_zero]; done) | (simp only [nx_new, nx_set, List.length_cons, List.length_nil, List.length_map, List.length_set, ne_eq, not_true_eq_false, not_false_eq_true, Nat.succ_ne_zero]; omega)) only [go_sem, reduceIte, reduceCtorEq, Nat.succ_ne_zero, not_false_eq_true, decide_true, decide_false, Nat.reduceAdd, Nat.reduceMul, Nat.reduceEqDiff, Nat.reduceLeDiff, h1, h2, hidx, h3]
                      refine ⟨k + 1, ⟨hlt, hpw, hnext (by rw [inrB, decide_eq_true (show 0 ≤ i by omega), decide_eq_true (show i < l.length by omega)]; rfl)⟩, by omega, Weak.sub ?_⟩
                      (simp -implicitDefEqProofs (disch := omega) only [Abs.Sub, get_cons_eq, get_cons_ne, and_self, Option.some.injEq, Value.int.injEq, Value.slice.injEq, true_and, and_true, Int.natCast_zero, Int.natCast_add, Int.natCast_one, List.length_nil]; try omega)
            · rw [List.take_of_length_le (by omega)] at hinc
              rw [List.take_of_length_le (by omega)] at hin
              simp -implicitDefEqProofs (maxSteps := 2000000) (disch := first | omega | (simp only [nx_new, nx_set, List.length_cons, List.length_nil, List.length_map, List.length_set, ne_eq, not_true_eq_false, not_false_eq_true, Nat.succ_ne_zero]; done) | (simp only [nx_new, nx_set, List.length_cons, List.length_nil, List.length_map, List.length_set, ne_eq, not_true_eq_false, not_false_eq_true, Nat.succ_ne_zero]; omega)) only [go_sem, reduceIte, reduceCtorEq, Nat.succ_ne_zero, not_false_eq_true, decide_true, decide_false, Nat.reduceAdd, Nat.reduceMul, Nat.reduceEqDiff, Nat.reduceLeDiff]
              exact ⟨(), ⟨decide_eq_true hinc, hin⟩, Weak.sub (by simp -implicitDefEqProofs (disch := omega) only [Abs.Sub, get_cons_eq, get_cons_ne, and_self, Int.natCast_zero, Int.natCast_add, Int.natCast_one])⟩
        · rintro _ ⟨hinc, hall⟩
          have hres : checkB l pts aps = disjC (chosen l aps) := by rw [checkB, hc, hle1, hinc, hmeet, hall]; rfl
          rw [hres]
          have hat : ∀ k (hk : k < aps.length), 0 ≤ aps[k] ∧ aps[k].toNat < l.length := fun k hk => by
            have h1 := List.all_eq_true.1 hall aps[k] (List.getElem_mem hk)
            simp only [inrB, Bool.and_eq_true, decide_eq_true_eq] at h1
            omega
          have hcl := chosen_len l aps
          have hcg : ∀ k (hk : k < aps.length), (chosen l aps)[k]'(by omega) = at_ l aps[k].toNat := fun k hk => List.getElem_map _
          refine AWP_of_awp ?_
          simp -implicitDefEqProofs (maxSteps := 2000000) (disch := first | omega | (simp only [nx_new, nx_set, List.length_cons, List.length_nil, List.length_map, List.length_set, ne_eq, not_true_eq_false, not_false_eq_true, Nat.succ_ne_zero]; done) | (simp only [nx_new, nx_set, List.length_cons, List.length_nil, List.length_map, List.length_set, ne_eq, not_true_eq_false, not_false_eq_true, Nat.succ_ne_zero]; omega)) only [go_sem, reduceIte, reduceCtorEq, Nat.succ_ne_zero, not_false_eq_true, decide_true, decide_false, Nat.reduceAdd, Nat.reduceMul, Nat.reduceEqDiff, Nat.reduceLeDiff]
          refine AWP_loop (σ := Nat) (fun k => [(9, .int .i64 k), (0, .slice a l.length l.length), (2, .slice p2 aps.length aps.length)]) (fun _ => H) (fun k => k ≤ aps.length ∧ ∀ x y (hy : y < aps.length) (hxy : x < y), y < k → disjB (at_ l aps[y].toNat) (at_ l (aps[x]'(by omega)).toNat) = true) (fun k => aps.length - k) 0 ⟨Nat.zero_le _, fun x y hy hxy h => by omega⟩ (Weak.sub ?_) ?_
          · (simp -implicitDefEqProofs (disch := omega) only [Abs.Sub, get_cons_eq, get_cons_ne, and_self, Option.some.injEq, Value.int.injEq, Value.slice.injEq, true_and, and_true, Int.natCast_zero, Int.natCast_add, Int.natCast_one, List.length_nil]; try omega)
          · rintro k ⟨hk, hin⟩
            refine AWP_of_awp ?_
            by_cases hlt : k < aps.length
            · simp -implicitDefEqProofs (maxSteps := 2000000) (disch := first | omega | (simp only [nx_new, nx_set, List.length_cons, List.length_nil, List.length_map, List.length_set, ne_eq, not_true_eq_false, not_false_eq_true, Nat.succ_ne_zero]; done) | (simp only [nx_new, nx_set, List.length_cons, List.length_nil, List.length_map, List.length_set, ne_eq, not_true_eq_false, not_false_eq_true, Nat.succ_ne_zero]; omega)) only [go_sem, reduceIte, reduceCtorEq, Nat.succ_ne_zero, not_false_eq_true, decide_true, decide_false, Nat.reduceAdd, Nat.reduceMul, Nat.reduceEqDiff, Nat.reduceLeDiff]
              refine AWP_loop (σ := Nat) (fun j => [(10, .int .i64 j), (9, .int .i64 k), (0, .slice a l.length l.length), (2, .slice p2 aps.length aps.length)]) (fun _ => H) (fun j => j ≤ k ∧ ∀ x (hx : x < k), x < j → disjB (at_ l aps[k].toNat) (at_ l (aps[x]'(by omega)).toNat) = true) (fun j => k - j) 0 ⟨Nat.zero_le _, fun x hx h => by omega⟩ (Weak.sub ?_) ?_
              · (simp -implicitDefEqProofs (disch := omega) only [Abs.Sub, get_cons_eq, get_cons_ne, and_self, Option.some.injEq, Value.int.injEq, Value.slice.injEq, true_and, and_true, Int.natCast_zero, Int.natCast_add, Int.natCast_one, List.length_nil]; try omega)
              · rintro j ⟨hj, hin2⟩
                refine AWP_of_awp ?_
                by_cases hjk : j < k
                · have hja : j < aps.length := by omega
                  obtain ⟨b, o, rfl, h1⟩ := elem1 he2 k hlt
                  obtain ⟨b', o', eb, h2⟩ := elem1 he2 j hja
                  simp only [Option.some.injEq, Addr.mk.injEq, and_true] at eb
                  obtain ⟨rfl, rfl⟩ := eb
                  obtain ⟨hk0, hk1⟩ := hat k hlt
                  obtain ⟨hj0, hj1⟩ := hat j hja
                  have hbad : disjB (at_ l aps[k].toNat) (at_ l aps[j].toNat) = false → disjC (chosen l aps) = false := fun h => by
                    refine decide_eq_false fun hp => ?_
                    have := List.pairwise_iff_getElem.1 hp j k (by omega) (by omega) hjk
                    rw [hcg j hja, hcg k hlt, disj_comm, h] at this
                    cases this
                  have hgood : disjB (at_ l aps[k].toNat) (at_ l aps[j].toNat) = true → ∀ x (hx : x < k), x < j + 1 → disjB (at_ l aps[k].toNat) (at_ l (aps[x]'(by omega)).toNat) = true := fun h x hx hxj => by
                    rcases Nat.eq_or_lt_of_le (Nat.le_of_lt_succ hxj) with rfl | h1
                    · exact h
                    · exact hin2 x hx h1
                  clear hin hin2
                  generalize aps[k] = i1 at *
                  generalize aps[j] = i2 at *
                  obtain ⟨b0, o0, rfl, hb0, hl1⟩ := he i1.toNat (by simpa using hk1)
                  obtain ⟨b3, o3, eb, _, hl2⟩ := he i2.toNat (by simpa using hj1)
                  simp only [Option.some.injEq, Addr.mk.injEq, and_true] at eb
                  obtain ⟨rfl, rfl⟩ := eb
                  simp only [List.getElem_map] at hl1 hl2
                  rw [← at_get hk1] at hl1
                  rw [← at_get hj1] at hl2
                  generalize at_ l i1.toNat = s at *
                  generalize at_ l i2.toNat = t at *
                  obtain ⟨f, u⟩ := s
                  obtain ⟨g, w⟩ := t
                  simp only [spc] at hl1 hl2
                  simp -implicitDefEqProofs (maxSteps := 2000000) (disch := first | omega | (simp only [nx_new, nx_set, List.length_cons, List.length_nil, List.length_map, List.length_set, ne_eq, not_true_eq_false, not_false_eq_true, Nat.succ_ne_zero]; done) | (simp only [nx_new, nx_set, List.length_cons, List.length_nil, List.length_map, List.length_set, ne_eq, not_true_eq_false, not_false_eq_true, Nat.succ_ne_zero]; omega)) only [go_sem, reduceIte, reduceCtorEq, Nat.succ_ne_zero, not_false_eq_true, decide_true, decide_false, Nat.reduceAdd, Nat.reduceMul, Nat.reduceEqDiff, Nat.reduceLeDiff]
                  refine AWP_draw_fast mo (by kernel_rfl) ?_
                  simp -implicitDefEqProofs (maxSteps := 2000000) (disch := first | omega | (simp only [nx_new, nx_set, List.length_cons, List.length_nil, List.length_map, List.length_set, ne_eq, not_true_eq_false, not_false_eq_true, Nat.succ_ne_zero]; done) | (simp only [nx_new, nx_set, List.length_cons, List.length_nil, List.length_map, List.length_set, ne_eq, not_true_eq_false, not_false_eq_true, Nat.succ_ne_zero]; omega)) only [go_sem, reduceIte, reduceCtorEq, Nat.succ_ne_zero, not_false_eq_true, decide_true, decide_false, Nat.reduceAdd, Nat.reduceMul, Nat.reduceEqDiff, Nat.reduceLeDiff, h1, h2, hl1, hl2]
                  refine ACalls.use_eq (disjoint_spec H f u g w) ?_
                  simp -implicitDefEqProofs (maxSteps := 2000000) (disch := first | omega | (simp only [nx_new, nx_set, List.length_cons, List.length_nil, List.length_map, List.length_set, ne_eq, not_true_eq_false, not_false_eq_true, Nat.succ_ne_zero]; done) | (simp only [nx_new, nx_set, List.length_cons, List.length_nil, List.length_map, List.length_set, ne_eq, not_true_eq_false, not_false_eq_true, Nat.succ_ne_zero]; omega)) only [go_sem, reduceIte, reduceCtorEq, Nat.succ_ne_zero, not_false_eq_true, decide_true, decide_false, Nat.reduceAdd, Nat.reduceMul, Nat.reduceEqDiff, Nat.reduceLeDiff]
                  refine condS_split (fun hd => ?_) (fun hd => ?_)
                  · simp -implicitDefEqProofs (maxSteps := 2000000) (disch := first | omega | (simp only [nx_new, nx_set, List.length_cons, List.length_nil, List.length_map, List.length_set, ne_eq, not_true_eq_false, not_false_eq_true, Nat.succ_ne_zero]; done) | (simp only [nx_new, nx_set, List.length_cons, List.length_nil, List.length_map, List.length_set, ne_eq, not_true_eq_false, not_false_eq_true, Nat.succ_ne_zero]; omega)) only [go_sem, reduceIte, reduceCtorEq, Nat.succ_ne_zero, not_false_eq_true, decide_true, decide_false, Nat.reduceAdd, Nat.reduceMul, Nat.reduceEqDiff, Nat.reduceLeDiff, hd]
                    exact ret_r (v := .bool false) (by rw [ares_tmp ret16]; rfl) ⟨by rw [hbad (by simpa using hd)], rfl⟩
                  · simp -implicitDefEqProofs (maxSteps := 2000000) (disch := first | omega | (simp only [nx_new, nx_set, List.length_cons, List.length_nil, List.length_map, List.length_set, ne_eq, not_true_eq_false, not_false_eq_true, Nat.succ_ne_zero]; done) | (simp only [nx_new, nx_set, List.length_cons, List.length_nil, List.length_map, List.length_set, ne_eq, not_true_eq_false, not_false_eq_true, Nat.succ_ne_zero]; omega)) only [go_sem, reduceIte, reduceCtorEq, Nat.succ_ne_zero, not_false_eq_true, decide_true, decide_false, Nat.reduceAdd, Nat.reduceMul, Nat.reduceEqDiff, Nat.reduceLeDiff, hd]
                    refine ⟨j + 1, ⟨hjk, hgood (by simpa using hd)⟩, by omega, Weak.sub ?_⟩
                    (simp -implicitDefEqProofs (disch := omega) only [Abs.Sub, get_cons_eq, get_cons_ne, and_self, Option.some.injEq, Value.int.injEq, Value.slice.injEq, true_and, and_true, Int.natCast_zero, Int.natCast_add, Int.natCast_one, List.length_nil]; try omega)
                · simp -implicitDefEqProofs (maxSteps := 2000000) (disch := first | omega | (simp only [nx_new, nx_set, List.length_cons, List.length_nil, List.length_map, List.length_set, ne_eq, not_true_eq_false, not_false_eq_true, Nat.succ_ne_zero]; done) | (simp only [nx_new, nx_set, List.length_cons, List.length_nil, List.length_map, List.length_set, ne_eq, not_true_eq_false, not_false_eq_true, Nat.succ_ne_zero]; omega)) only [go_sem, reduceIte, reduceCtorEq, Nat.succ_ne_zero, not_false_eq_true, decide_true, decide_false, Nat.reduceAdd, Nat.reduceMul, Nat.reduceEqDiff, Nat.reduceLeDiff]
                  refine ⟨k + 1, ⟨hlt, fun x y hy hxy hyk => ?_⟩, by omega, Weak.sub ?_⟩
                  · rcases Nat.eq_or_lt_of_le (Nat.le_of_lt_succ hyk) with rfl | h1
                    · exact hin2 x hxy (by omega)
                    · exact hin x y hy hxy h1
                  · (simp -implicitDefEqProofs (disch := omega) only [Abs.Sub, get_cons_eq, get_cons_ne, and_self, Option.some.injEq, Value.int.injEq, Value.slice.injEq, true_and, and_true, Int.natCast_zero, Int.natCast_add, Int.natCast_one, List.length_nil]; try omega)
            · simp -implicitDefEqProofs (maxSteps := 2000000) (disch := first | omega | (simp only [nx_new, nx_set, List.length_cons, List.length_nil, List.length_map, List.length_set, ne_eq, not_true_eq_false, not_false_eq_true, Nat.succ_ne_zero]; done) | (simp only [nx_new, nx_set, List.length_cons, List.length_nil, List.length_map, List.length_set, ne_eq, not_true_eq_false, not_false_eq_true, Nat.succ_ne_zero]; omega)) only [go_sem, reduceIte, reduceCtorEq, Nat.succ_ne_zero, not_false_eq_true, decide_true, decide_false, Nat.reduceAdd, Nat.reduceMul, Nat.reduceEqDiff, Nat.reduceLeDiff]
              refine ret_r (v := .bool true) (by rw [ares_tmp ret16]; rfl) ⟨?_, rfl⟩
              have : disjC (chosen l aps) = true := by
                refine decide_eq_true (List.pairwise_iff_getElem.2 fun i j hi hj hij => ?_)
                rw [hcl] at hi hj
                rw [hcg i hi, hcg j hj, disj_comm]
                exact hin i j hj hij (by omega)
              rw [this]
end Go.Proofs.Ytjgdmjoafpbnaaa
