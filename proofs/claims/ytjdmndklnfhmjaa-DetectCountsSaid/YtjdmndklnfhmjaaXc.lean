/- Places compared and sorted. -/
import Derived.Test.YtjdmndklnfhmjaaAbsX
import Derived.Test.YtjdmndklnfhmjaaAbsR
import Derived.Test.YtjdmndklnfhmjaaLaid
import Derived.Test.YtjdmndklnfhmjaaXb
import Derived.WalkKit
set_option linter.unusedVariables false
set_option linter.unusedSimpArgs false
set_option linter.unusedSectionVars false
namespace Go.Proofs.Ytjdmndklnfhmjaa
open Go.Abs Go.RowKit Go.Sort Go.Shelf Go.Lib
set_option maxHeartbeats 8000000
set_option maxRecDepth 100000
def orV (a b c : Int) : Int := if a ≠ 0 then a else if b ≠ 0 then b else c
theorem n43 : Try.f43.ntmps = 18 := rfl
theorem ret43 : Try.f43.results = #[.tmp 2] := rfl
theorem or_spec {H : Hp} {q : Nat} (a b c : Int) (hg : H.get q = .row [.int .i64 a, .int .i64 b, .int .i64 c] true 1) :
    ACalls Try.prog 43 [.slice (some ⟨q, 0, none⟩) 3 3] H (fun v H' => v = .int .i64 (orV a b c) ∧ H' = H) := by
  refine ACalls_enter Try.func43 (by kernel_rfl) rfl (by kernel_rfl) (by simp [n43]) fun hw hr => AWP_of_awp ?_
  have l0 : load1 H ⟨q, 0, none⟩ = some (.int .i64 a) := (l1_row _ _ _ _ _ hg).trans rfl
  have l1 : load1 H ⟨q, 1, none⟩ = some (.int .i64 b) := (l1_row _ _ _ _ _ hg).trans rfl
  have l2 : load1 H ⟨q, 2, none⟩ = some (.int .i64 c) := (l1_row _ _ _ _ _ hg).trans rfl
  simp -implicitDefEqProofs (maxSteps := 2000000) (disch := first | omega | (simp only [nx_new, nx_set, List.length_cons, List.length_nil, List.length_map, List.length_set, ne_eq, not_true_eq_false, not_false_eq_true, Nat.succ_ne_zero]; done) | (simp only [nx_new, nx_set, List.length_cons, List.length_nil, List.length_map, List.length_set, ne_eq, not_true_eq_false, not_false_eq_true, Nat.succ_ne_zero]; omega)) only [go_sem, reduceIte, reduceCtorEq, Nat.succ_ne_zero, not_false_eq_true, decide_true, decide_false, Nat.reduceAdd, Nat.reduceMul, Nat.reduceEqDiff, Nat.reduceLeDiff]
  refine AWP_loop (σ := Nat) (fun k => [(8, .int .i64 k), (7, .int .i64 3), (6, .slice (some ⟨q, 0, none⟩) 3 3), (3, .int .i64 0)]) (fun _ => H) (fun k => k ≤ 3 ∧ (1 ≤ k → a = 0) ∧ (2 ≤ k → b = 0) ∧ (3 ≤ k → c = 0)) (fun k => 3 - k) 0 ⟨Nat.zero_le _, fun h => by omega, fun h => by omega, fun h => by omega⟩ (Weak.sub ?_) ?_
  · (simp -implicitDefEqProofs (disch := omega) only [Abs.Sub, get_cons_eq, get_cons_ne, and_self, Option.some.injEq, Value.int.injEq, Value.slice.injEq, true_and, and_true, Int.natCast_zero, Int.natCast_add, Int.natCast_one, List.length_nil]; try omega)
  rintro k ⟨hk, h1, h2, h3⟩
  refine AWP_of_awp ?_
  match k, hk with
  | 0, _ =>
    by_cases ha : a = 0
    · simp -implicitDefEqProofs (maxSteps := 2000000) (disch := first | omega | (simp only [nx_new, nx_set, List.length_cons, List.length_nil, List.length_map, List.length_set, ne_eq, not_true_eq_false, not_false_eq_true, Nat.succ_ne_zero]; done) | (simp only [nx_new, nx_set, List.length_cons, List.length_nil, List.length_map, List.length_set, ne_eq, not_true_eq_false, not_false_eq_true, Nat.succ_ne_zero]; omega)) only [go_sem, reduceIte, reduceCtorEq, Nat.succ_ne_zero, not_false_eq_true, decide_true, decide_false, Nat.reduceAdd, Nat.reduceMul, Nat.reduceEqDiff, Nat.reduceLeDiff, l0]
      exact ⟨1, ⟨by omega, fun _ => ha, fun h => by omega, fun h => by omega⟩, by omega, Weak.sub (by (simp -implicitDefEqProofs (disch := omega) only [Abs.Sub, get_cons_eq, get_cons_ne, and_self, Option.some.injEq, Value.int.injEq, Value.slice.injEq, true_and, and_true, Int.natCast_zero, Int.natCast_add, Int.natCast_one, List.length_nil]; try omega))⟩
    · simp -implicitDefEqProofs (maxSteps := 2000000) (disch := first | omega | (simp only [nx_new, nx_set, List.length_cons, List.length_nil, List.length_map, List.length_set, ne_eq, not_true_eq_false, not_false_eq_true, Nat.succ_ne_zero]; done) | (simp only [nx_new, nx_set, List.length_cons, List.length_nil, List.length_map, List.length_set, ne_eq, not_true_eq_false, not_false_eq_true, Nat.succ_ne_zero]; omega)) only [go_sem, reduceIte, reduceCtorEq, Nat.succ_ne_zero, not_false_eq_true, decide_true, decide_false, Nat.reduceAdd, Nat.reduceMul, Nat.reduceEqDiff, Nat.reduceLeDiff, l0]
      exact ret_r (v := .int .i64 a) (by rw [ares_tmp ret43]; rfl) ⟨by rw [orV, if_pos ha], rfl⟩
  | 1, _ =>
    have ha := h1 (by omega)
    by_cases hb : b = 0
    · simp -implicitDefEqProofs (maxSteps := 2000000) (disch := first | omega | (simp only [nx_new, nx_set, List.length_cons, List.length_nil, List.length_map, List.length_set, ne_eq, not_true_eq_false, not_false_eq_true, Nat.succ_ne_zero]; done) | (simp only [nx_new, nx_set, List.length_cons, List.length_nil, List.length_map, List.length_set, ne_eq, not_true_eq_false, not_false_eq_true, Nat.succ_ne_zero]; omega)) only [go_sem, reduceIte, reduceCtorEq, Nat.succ_ne_zero, not_false_eq_true, decide_true, decide_false, Nat.reduceAdd, Nat.reduceMul, Nat.reduceEqDiff, Nat.reduceLeDiff, l1]
      exact ⟨2, ⟨by omega, fun _ => ha, fun _ => hb, fun h => by omega⟩, by omega, Weak.sub (by (simp -implicitDefEqProofs (disch := omega) only [Abs.Sub, get_cons_eq, get_cons_ne, and_self, Option.some.injEq, Value.int.injEq, Value.slice.injEq, true_and, and_true, Int.natCast_zero, Int.natCast_add, Int.natCast_one, List.length_nil]; try omega))⟩
    · simp -implicitDefEqProofs (maxSteps := 2000000) (disch := first | omega | (simp only [nx_new, nx_set, List.length_cons, List.length_nil, List.length_map, List.length_set, ne_eq, not_true_eq_false, not_false_eq_true, Nat.succ_ne_zero]; done) | (simp only [nx_new, nx_set, List.length_cons, List.length_nil, List.length_map, List.length_set, ne_eq, not_true_eq_false, not_false_eq_true, Nat.succ_ne_zero]; omega)) only [go_sem, reduceIte, reduceCtorEq, Nat.succ_ne_zero, not_false_eq_true, decide_true, decide_false, Nat.reduceAdd, Nat.reduceMul, Nat.reduceEqDiff, Nat.reduceLeDiff, l1]
      exact ret_r (v := .int .i64 b) (by rw [ares_tmp ret43]; rfl) ⟨by rw [orV, if_neg (by omega), if_pos hb], rfl⟩
  | 2, _ =>
    have ha := h1 (by omega)
    have hb := h2 (by omega)
    by_cases hc : c = 0
    · simp -implicitDefEqProofs (maxSteps := 2000000) (disch := first | omega | (simp only [nx_new, nx_set, List.length_cons, List.length_nil, List.length_map, List.length_set, ne_eq, not_true_eq_false, not_false_eq_true, Nat.succ_ne_zero]; done) | (simp only [nx_new, nx_set, List.length_cons, List.length_nil, List.length_map, List.length_set, ne_eq, not_true_eq_false, not_false_eq_true, Nat.succ_ne_zero]; omega)) only [go_sem, reduceIte, reduceCtorEq, Nat.succ_ne_zero, not_false_eq_true, decide_true, decide_false, Nat.reduceAdd, Nat.reduceMul, Nat.reduceEqDiff, Nat.reduceLeDiff, l2]
      exact ⟨3, ⟨by omega, fun _ => ha, fun _ => hb, fun _ => hc⟩, by omega, Weak.sub (by (simp -implicitDefEqProofs (disch := omega) only [Abs.Sub, get_cons_eq, get_cons_ne, and_self, Option.some.injEq, Value.int.injEq, Value.slice.injEq, true_and, and_true, Int.natCast_zero, Int.natCast_add, Int.natCast_one, List.length_nil]; try omega))⟩
    · simp -implicitDefEqProofs (maxSteps := 2000000) (disch := first | omega | (simp only [nx_new, nx_set, List.length_cons, List.length_nil, List.length_map, List.length_set, ne_eq, not_true_eq_false, not_false_eq_true, Nat.succ_ne_zero]; done) | (simp only [nx_new, nx_set, List.length_cons, List.length_nil, List.length_map, List.length_set, ne_eq, not_true_eq_false, not_false_eq_true, Nat.succ_ne_zero]; omega)) only [go_sem, reduceIte, reduceCtorEq, Nat.succ_ne_zero, not_false_eq_true, decide_true, decide_false, Nat.reduceAdd, Nat.reduceMul, Nat.reduceEqDiff, Nat.reduceLeDiff, l2]
      exact ret_r (v := .int .i64 c) (by rw [ares_tmp ret43]; rfl) ⟨by rw [orV, if_neg (by omega), if_neg (by omega)], rfl⟩
  | 3, _ =>
    have ha := h1 (by omega)
    have hb := h2 (by omega)
    have hc := h3 (by omega)
    simp -implicitDefEqProofs (maxSteps := 2000000) (disch := first | omega | (simp only [nx_new, nx_set, List.length_cons, List.length_nil, List.length_map, List.length_set, ne_eq, not_true_eq_false, not_false_eq_true, Nat.succ_ne_zero]; done) | (simp only [nx_new, nx_set, List.length_cons, List.length_nil, List.length_map, List.length_set, ne_eq, not_true_eq_false, not_false_eq_true, Nat.succ_ne_zero]; omega)) only [go_sem, reduceIte, reduceCtorEq, Nat.succ_ne_zero, not_false_eq_true, decide_true, decide_false, Nat.reduceAdd, Nat.reduceMul, Nat.reduceEqDiff, Nat.reduceLeDiff]
    exact ret_r (v := .int .i64 0) (by rw [ares_tmp ret43]; rfl) ⟨by rw [orV, if_neg (by omega), if_neg (by omega), hc], rfl⟩
theorem n27 : Try.f27.ntmps = 22 := rfl
theorem ret27 : Try.f27.results = #[.tmp 4] := rfl
def cmpP (p q : Pl) : Int := orV (p.t - q.t) (p.c - q.c) (p.f - q.f)
def small (x : Int) : Prop := -1000000000 ≤ x ∧ x ≤ 1000000000
theorem compare_spec (H : Hp) (p q : Pl) (h : small p.t ∧ small p.c ∧ small p.f) (h' : small q.t ∧ small q.c ∧ small q.f) : ACalls Try.prog 27 [.agg p.cells.toArray, .agg q.cells.toArray] H (fun v H' => v = .int .i64 (cmpP p q) ∧ Keeps H H') := by
  obtain ⟨a, b, c⟩ := p
  obtain ⟨x, y, z⟩ := q
  simp only [Pl.cells, small] at h h' ⊢
  refine ACalls_enter Try.func27 (by kernel_rfl) rfl (by kernel_rfl) (by simp [n27]) fun hw hr => AWP_of_awp ?_
  simp -implicitDefEqProofs (maxSteps := 2000000) (disch := first | omega | (simp only [nx_new, nx_set, List.length_cons, List.length_nil, List.length_map, List.length_set, ne_eq, not_true_eq_false, not_false_eq_true, Nat.succ_ne_zero]; done) | (simp only [nx_new, nx_set, List.length_cons, List.length_nil, List.length_map, List.length_set, ne_eq, not_true_eq_false, not_false_eq_true, Nat.succ_ne_zero]; omega)) only [go_sem, reduceIte, reduceCtorEq, Nat.succ_ne_zero, not_false_eq_true, decide_true, decide_false, Nat.reduceAdd, Nat.reduceMul, Nat.reduceEqDiff, Nat.reduceLeDiff]
  refine ACalls.use_eq (or_spec (a - x) (b - y) (c - z) (Hp.get_new_same _ _ _ rfl)) ?_
  simp -implicitDefEqProofs (maxSteps := 2000000) (disch := first | omega | (simp only [nx_new, nx_set, List.length_cons, List.length_nil, List.length_map, List.length_set, ne_eq, not_true_eq_false, not_false_eq_true, Nat.succ_ne_zero]; done) | (simp only [nx_new, nx_set, List.length_cons, List.length_nil, List.length_map, List.length_set, ne_eq, not_true_eq_false, not_false_eq_true, Nat.succ_ne_zero]; omega)) only [go_sem, reduceIte, reduceCtorEq, Nat.succ_ne_zero, not_false_eq_true, decide_true, decide_false, Nat.reduceAdd, Nat.reduceMul, Nat.reduceEqDiff, Nat.reduceLeDiff]
  exact ret_r (v := .int .i64 (orV (a - x) (b - y) (c - z))) (by rw [ares_tmp ret27]; rfl) ⟨rfl, ((Keeps.new _ _).trans (Keeps.new _ _)).trans (Keeps.new _ _)⟩

/-! ### the library's sorting -/
abbrev OkPl := { p : Pl // okP p.t p.c p.f = true }
instance : Inhabited OkPl := ⟨⟨⟨0, 0, 0⟩, rfl⟩⟩
def plo (p : OkPl) : List Value := p.1.cells
def cfp (x y : OkPl) : Int := cmpP x.1 y.1
theorem okP_in {t c f : Int} (h : okP t c f = true) : 0 ≤ t ∧ t < 512 ∧ 0 ≤ c ∧ c < 4 ∧ 0 ≤ f ∧ f < 8 := by
  simp only [okP, Bool.and_eq_true, decide_eq_true_eq] at h
  omega
theorem ok_small {p : Pl} (h : okP p.t p.c p.f = true) : small p.t ∧ small p.c ∧ small p.f := by
  have := okP_in h
  simp only [small]; omega
theorem isAgg55 (w : World) : (isAgg 55).run Try.prog w = .ok true w := run_isAgg_of tg55
theorem sizeOf55 (w : World) : (Go.sizeOf 55).run Try.prog w = .ok 3 w := run_sizeOf_of ts55
theorem grow_of {w w' : World} (h : Ext w.heap.size w w') : ∃ q os', w' = grow (w.drewN q) os' := by
  refine ⟨w'.drawn - w.drawn, w'.heap.extract w.heap.size w'.heap.size, ?_⟩
  obtain ⟨⟨h1, h2, h3, h4, h5⟩, _, h6⟩ := h
  obtain ⟨hp, tp, dr, o, ou⟩ := w
  obtain ⟨hp', tp', dr', o', ou'⟩ := w'
  simp only at h1 h2 h3 h4 h5 h6
  subst h1; subst h2; subst h3
  simp only [grow, World.drewN, World.mk.injEq, true_and, and_true]
  refine ⟨?_, by omega⟩
  apply Array.ext_getElem?
  intro i
  rcases Nat.lt_or_ge i hp.size with hi | hi
  · rw [Array.getElem?_append_left hi, h5 i hi]
  · rw [Array.getElem?_append_right hi, Array.getElem?_extract]
    have e : hp.size + (i - hp.size) = i := by omega
    rw [e]
    by_cases hlt : i < hp'.size
    · rw [if_pos (by omega)]
    · rw [if_neg (by omega), Array.getElem?_eq_none (by omega)]
theorem closure27 (x y : OkPl) (W : World) : Calls Try.prog 27 #[.agg x.1.cells.toArray, .agg y.1.cells.toArray] W fun e w' => e = .returned (.int .i64 (cfp x y)) ∧ ∃ q os', w' = grow (W.drewN q) os' := by
  refine ((compare_spec ⟨0, fun _ => .dead, fun _ => none⟩ x.1 y.1 (ok_small x.2) (ok_small y.2)).2 W.heap.size (fun _ => none) W #[.agg x.1.cells.toArray, .agg y.1.cells.toArray] (Sim.start W) ?_).mono ?_
  · exact ⟨_, _, rfl, VR_self rfl, _, _, rfl, VR_self rfl, rfl⟩
  · rintro e w' ⟨v, v', H', rfl, ⟨rfl, _⟩, ν, _, hv, _, hx⟩
    have hv2 : v' = .int .i64 (cmpP x.1 y.1) := hv
    subst hv2
    exact ⟨rfl, grow_of hx⟩
theorem orV_neg {a b c : Int} : orV a b c < 0 ↔ a < 0 ∨ (a = 0 ∧ (b < 0 ∨ (b = 0 ∧ c < 0))) := by
  unfold orV
  split
  · omega
  · split <;> omega
/-- p stands ahead of q. -/
def Pl.lt (p q : Pl) : Prop := p.t < q.t ∨ (p.t = q.t ∧ (p.c < q.c ∨ (p.c = q.c ∧ p.f < q.f)))
instance (p q : Pl) : Decidable (p.lt q) := inferInstanceAs (Decidable (p.t < q.t ∨ (p.t = q.t ∧ (p.c < q.c ∨ (p.c = q.c ∧ p.f < q.f)))))
theorem cmp_lt {p q : Pl} : cmpP p q < 0 ↔ p.lt q := by
  rw [cmpP, orV_neg, Pl.lt]; omega
theorem cmp_zero {p q : Pl} : cmpP p q = 0 ↔ p = q := by
  obtain ⟨a, b, c⟩ := p
  obtain ⟨x, y, z⟩ := q
  simp only [cmpP, orV, Pl.mk.injEq]
  split
  · omega
  · split <;> omega
theorem ltOf_iff {x y : OkPl} : ltOf cfp x y = true ↔ x.1.lt y.1 := by
  rw [← cmp_lt]
  exact decide_eq_true_iff
theorem ltOf_false {x y : OkPl} : ltOf cfp x y = false ↔ ¬ x.1.lt y.1 := by
  rw [← ltOf_iff]; simp
theorem swo27 : SWO (ltOf cfp) where
  irrefl x := ltOf_false.2 (by simp only [Pl.lt]; omega)
  trans x y z h1 h2 := ltOf_iff.2 (by have a := ltOf_iff.1 h1; have b := ltOf_iff.1 h2; simp only [Pl.lt] at *; omega)
  ntrans x y z h1 h2 := ltOf_false.2 (by have a := ltOf_false.1 h1; have b := ltOf_false.1 h2; simp only [Pl.lt] at *; omega)
theorem plo_len (x : OkPl) : (plo x).length = 3 := rfl
theorem sort_ok {H : Hp} {b kk : Nat} {l : List OkPl} (hg : H.get b = .row (l.map plo).flatten true kk) (hn : l.length ≠ 0) (hs : l.length < 4611686018427387904) :
    ACalls Try.prog 41 [.slice (some ⟨b, 0, none⟩) l.length l.length, .func (.func 27) #[] #[]] H (fun v H' => v = .tuple #[] ∧ ∃ l' : List OkPl, l'.Perm l ∧ l'.Pairwise (fun x y => ltOf cfp y x = false) ∧ H' = H.set b (.row (l'.map plo).flatten true kk)) :=
  sort_struct_calls plo_len (fun _ => rfl) (fun _ => rfl) ⟨_, Try.func41, by kernel_rfl, rfl⟩ (fun blk off cap d w h1 h2 h3 =>
    AnyQ.slices_SortFunc Try.sortF 3 isAgg55 sizeOf55 plo plo_len (fun x v hv => by simp [plo, Pl.cells] at hv; rcases hv with rfl | rfl | rfl <;> rfl) cfp swo27 27 #[] blk off cap d w (enters_of Try.func27 (by kernel_rfl) rfl) (fun _ _ _ _ x y => closure27 x y _) h1 h2 h3) hg hn hs
end Go.Proofs.Ytjdmndklnfhmjaa
