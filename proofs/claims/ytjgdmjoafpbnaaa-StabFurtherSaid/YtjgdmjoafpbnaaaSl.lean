/- The chapter's examples; what a chain says. -/
import Derived.Test.YtjgdmjoafpbnaaaSh
import Derived.Test.YtjgdmjoafpbnaaaSk
set_option linter.unusedVariables false
set_option linter.unusedSimpArgs false
set_option linter.unusedSectionVars false
namespace Go.Proofs.Ytjgdmjoafpbnaaa
open Go.Abs Go.Sm
set_option maxHeartbeats 8000000
set_option maxRecDepth 100000

def hl : List Sp := [(1, 4), (3, 6), (8, 9), (4, 8)]
theorem h_chain : Chain hl (-40000) [0, 2] := by
  refine ⟨by decide, by decide, fun j hj h => ?_, by decide, by decide, fun j hj h => ?_, fun j hj => ?_⟩
  · match j, hj with
    | 0, _ => exact .inr rfl
    | 1, _ => exact .inl (.inl (by decide))
    | 2, _ => exact .inl (.inl (by decide))
    | 3, _ => exact .inl (.inl (by decide))
  · match j, hj with
    | 0, _ => exact absurd h (by decide)
    | 1, _ => exact absurd h (by decide)
    | 2, _ => exact .inr rfl
    | 3, _ => exact absurd h (by decide)
  · match j, hj with
    | 0, _ => decide
    | 1, _ => decide
    | 2, _ => decide
    | 3, _ => decide
theorem h_nil : Chain [] (-40000) [] := fun j hj => by simp at hj
theorem ints_row (G : Hp) (l : List Int) : Elems (G.new (.row (l.map (Value.int .i64)) true 1)) (some ⟨G.next, 0, none⟩) 1 (l.map ic) := Elems.one (Value.int .i64) l (Nat.lt_succ_self _) (Hp.get_new_same _ _ _ rfl)
/-- Two new lists of numbers behind a memory. -/
theorem check_two {X H : Hp} {a : Option Addr} {l : List Sp} {xs ys : List Int} {b b2 : Nat} (hb : b = X.next) (hb2 : b2 = X.next + 1) (he : Elems X a 2 (l.map spc)) (hl : l.length ≤ 1000000) (hx : xs.length ≤ 1000000) (hy : ys.length ≤ 1000000) (hk : Keeps H X) :
    ACalls Try.prog 15 [.slice a l.length l.length, .slice (some ⟨b, 0, none⟩) xs.length xs.length, .slice (some ⟨b2, 0, none⟩) ys.length ys.length] ((X.new (.row (xs.map (Value.int .i64)) true 1)).new (.row (ys.map (Value.int .i64)) true 1)) (fun v H' => v = .bool (checkB l xs ys) ∧ Keeps X H' ∧ Keeps H H') := by
  subst hb; subst hb2
  refine (Check_spec _ _ _ _ l xs ys hl hx hy ((he.grows (Grows.new _ _)).grows (Grows.new _ _)) ((ints_row X xs).grows (Grows.new _ _)) (ints_row _ ys)).mono ?_
  rintro v H' ⟨h1, h2⟩
  have := ((Keeps.new _ _).trans (Keeps.new _ _)).trans h2
  exact ⟨h1, this, hk.trans this⟩
theorem n10 : Try.f10.ntmps = 72 := rfl
theorem ret10 : Try.f10.results = #[.tmp 0] := rfl
theorem head_spec (H : Hp) : ACalls Try.prog 10 [] H (fun v H' => v = .bool true ∧ Keeps H H') := by
  refine ACalls_enter Try.func10 (by kernel_rfl) rfl (by kernel_rfl) (by simp [n10]) fun hw hr => AWP_of_awp ?_
  simp -implicitDefEqProofs (maxSteps := 2000000) (disch := first | omega | (simp only [nx_new, nx_set, List.length_cons, List.length_nil, List.length_map, List.length_set, ne_eq, not_true_eq_false, not_false_eq_true, Nat.succ_ne_zero]; done) | (simp only [nx_new, nx_set, List.length_cons, List.length_nil, List.length_map, List.length_set, ne_eq, not_true_eq_false, not_false_eq_true, Nat.succ_ne_zero]; omega)) only [go_sem, reduceIte, reduceCtorEq, Nat.succ_ne_zero, not_false_eq_true, decide_true, decide_false, Nat.reduceAdd, Nat.reduceMul, Nat.reduceEqDiff, Nat.reduceLeDiff]
  have e0 : Elems (H.new (.row [.int .i64 1, .int .i64 4, .int .i64 3, .int .i64 6, .int .i64 8, .int .i64 9, .int .i64 4, .int .i64 8] true 2)) (some ⟨H.next, 0, none⟩) 2 (hl.map spc) :=
    Elems.row (k := 2) (own := true) (Nat.lt_succ_self _) (Hp.get_new_same _ _ _ rfl) (spc_len _)
  have k0 : Keeps H (H.new (.row [.int .i64 1, .int .i64 4, .int .i64 3, .int .i64 6, .int .i64 8, .int .i64 9, .int .i64 4, .int .i64 8] true 2)) := Keeps.new _ _
  generalize H.new (.row [.int .i64 1, .int .i64 4, .int .i64 3, .int .i64 6, .int .i64 8, .int .i64 9, .int .i64 4, .int .i64 8] true 2) = G0 at *
  refine (Plan_spec G0 (some ⟨H.next, 0, none⟩) hl (by decide) e0).mono ?_
  rintro _ G1 ⟨k1, ⟨hv, _⟩ | ⟨_, aps, o1, o2, hch, rfl, ep, ea⟩⟩
  · exact absurd hv (by decide)
  obtain rfl := hch.unique h_chain
  simp -implicitDefEqProofs (maxSteps := 2000000) (disch := first | omega | (simp only [nx_new, nx_set, List.length_cons, List.length_nil, List.length_map, List.length_set, ne_eq, not_true_eq_false, not_false_eq_true, Nat.succ_ne_zero]; done) | (simp only [nx_new, nx_set, List.length_cons, List.length_nil, List.length_map, List.length_set, ne_eq, not_true_eq_false, not_false_eq_true, Nat.succ_ne_zero]; omega)) only [go_sem, reduceIte, reduceCtorEq, Nat.succ_ne_zero, not_false_eq_true, decide_true, decide_false, Nat.reduceAdd, Nat.reduceMul, Nat.reduceEqDiff, Nat.reduceLeDiff]
  refine (Plan_spec G1 none [] (by decide) Elems.nil).mono ?_
  rintro _ G2 ⟨k2, ⟨hv, _⟩ | ⟨_, aps2, o3, o4, hch2, rfl, _, _⟩⟩
  · exact absurd hv (by decide)
  obtain rfl := hch2.unique h_nil
  have ep2 : Elems G2 o1 1 (([4, 9] : List Int).map ic) := ep.grows k2.grows
  have ea2 : Elems G2 o2 1 (([0, 2] : List Int).map ic) := ea.grows k2.grows
  have e2 := (e0.grows k1.grows).grows k2.grows
  have kk : Keeps H G2 := (k0.trans k1).trans k2
  simp -implicitDefEqProofs (maxSteps := 2000000) (disch := first | omega | (simp only [nx_new, nx_set, List.length_cons, List.length_nil, List.length_map, List.length_set, ne_eq, not_true_eq_false, not_false_eq_true, Nat.succ_ne_zero]; done) | (simp only [nx_new, nx_set, List.length_cons, List.length_nil, List.length_map, List.length_set, ne_eq, not_true_eq_false, not_false_eq_true, Nat.succ_ne_zero]; omega)) only [go_sem, reduceIte, reduceCtorEq, Nat.succ_ne_zero, not_false_eq_true, decide_true, decide_false, Nat.reduceAdd, Nat.reduceMul, Nat.reduceEqDiff, Nat.reduceLeDiff]
  refine ACalls.use_eq (ints_spec _ o1 _ [4, 9] [4, 9] (by decide) (by decide) (ep2.grows (Grows.new _ _)) (ints_row G2 [4, 9])) ?_
  rw [decide_eq_true rfl]
  simp -implicitDefEqProofs (maxSteps := 2000000) (disch := first | omega | (simp only [nx_new, nx_set, List.length_cons, List.length_nil, List.length_map, List.length_set, ne_eq, not_true_eq_false, not_false_eq_true, Nat.succ_ne_zero]; done) | (simp only [nx_new, nx_set, List.length_cons, List.length_nil, List.length_map, List.length_set, ne_eq, not_true_eq_false, not_false_eq_true, Nat.succ_ne_zero]; omega)) only [go_sem, reduceIte, reduceCtorEq, Nat.succ_ne_zero, not_false_eq_true, decide_true, decide_false, Nat.reduceAdd, Nat.reduceMul, Nat.reduceEqDiff, Nat.reduceLeDiff]
  refine ACalls.use_eq (ints_spec _ o2 _ [0, 2] [0, 2] (by decide) (by decide) ((ea2.grows (Grows.new _ _)).grows (Grows.new _ _)) (ints_row _ [0, 2])) ?_
  rw [decide_eq_true rfl]
  simp -implicitDefEqProofs (maxSteps := 2000000) (disch := first | omega | (simp only [nx_new, nx_set, List.length_cons, List.length_nil, List.length_map, List.length_set, ne_eq, not_true_eq_false, not_false_eq_true, Nat.succ_ne_zero]; done) | (simp only [nx_new, nx_set, List.length_cons, List.length_nil, List.length_map, List.length_set, ne_eq, not_true_eq_false, not_false_eq_true, Nat.succ_ne_zero]; omega)) only [go_sem, reduceIte, reduceCtorEq, Nat.succ_ne_zero, not_false_eq_true, decide_true, decide_false, Nat.reduceAdd, Nat.reduceMul, Nat.reduceEqDiff, Nat.reduceLeDiff]
  have e3 := (e2.grows (Grows.new G2 (.row [.int .i64 4, .int .i64 9] true 1))).grows (Grows.new _ (.row [.int .i64 0, .int .i64 2] true 1))
  have kk3 : Keeps H ((G2.new (.row [.int .i64 4, .int .i64 9] true 1)).new (.row [.int .i64 0, .int .i64 2] true 1)) := (kk.trans (Keeps.new _ _)).trans (Keeps.new _ _)
  have hn3 : ((G2.new (.row [.int .i64 4, .int .i64 9] true 1)).new (.row [.int .i64 0, .int .i64 2] true 1)).next = G2.next + 1 + 1 := rfl
  generalize (G2.new (.row [.int .i64 4, .int .i64 9] true 1)).new (.row [.int .i64 0, .int .i64 2] true 1) = G3 at *
  refine (check_two (l := hl) (xs := [4, 8]) (ys := [0, 2]) (by omega) (by omega) e3 (by decide) (by decide) (by decide) kk3).mono ?_
  rintro _ G4 ⟨rfl, k4, kk4⟩
  rw [show checkB hl [4, 8] [0, 2] = true by decide]
  simp -implicitDefEqProofs (maxSteps := 2000000) (disch := first | omega | (simp only [nx_new, nx_set, List.length_cons, List.length_nil, List.length_map, List.length_set, ne_eq, not_true_eq_false, not_false_eq_true, Nat.succ_ne_zero]; done) | (simp only [nx_new, nx_set, List.length_cons, List.length_nil, List.length_map, List.length_set, ne_eq, not_true_eq_false, not_false_eq_true, Nat.succ_ne_zero]; omega)) only [go_sem, reduceIte, reduceCtorEq, Nat.succ_ne_zero, not_false_eq_true, decide_true, decide_false, Nat.reduceAdd, Nat.reduceMul, Nat.reduceEqDiff, Nat.reduceLeDiff]
  refine (check_two (l := hl) (xs := [3, 4, 8]) (ys := [0, 2]) (by omega) (by omega) (e3.grows k4.grows) (by decide) (by decide) (by decide) kk4).mono ?_
  rintro _ G5 ⟨rfl, k5, kk5⟩
  rw [show checkB hl [3, 4, 8] [0, 2] = false by decide]
  simp -implicitDefEqProofs (maxSteps := 2000000) (disch := first | omega | (simp only [nx_new, nx_set, List.length_cons, List.length_nil, List.length_map, List.length_set, ne_eq, not_true_eq_false, not_false_eq_true, Nat.succ_ne_zero]; done) | (simp only [nx_new, nx_set, List.length_cons, List.length_nil, List.length_map, List.length_set, ne_eq, not_true_eq_false, not_false_eq_true, Nat.succ_ne_zero]; omega)) only [go_sem, reduceIte, reduceCtorEq, Nat.succ_ne_zero, not_false_eq_true, decide_true, decide_false, Nat.reduceAdd, Nat.reduceMul, Nat.reduceEqDiff, Nat.reduceLeDiff]
  refine (check_two (l := hl) (xs := [4, 9]) (ys := [0, 3]) (by omega) (by omega) ((e3.grows k4.grows).grows k5.grows) (by decide) (by decide) (by decide) kk5).mono ?_
  rintro _ G6 ⟨rfl, k6, kk6⟩
  rw [show checkB hl [4, 9] [0, 3] = false by decide]
  simp -implicitDefEqProofs (maxSteps := 2000000) (disch := first | omega | (simp only [nx_new, nx_set, List.length_cons, List.length_nil, List.length_map, List.length_set, ne_eq, not_true_eq_false, not_false_eq_true, Nat.succ_ne_zero]; done) | (simp only [nx_new, nx_set, List.length_cons, List.length_nil, List.length_map, List.length_set, ne_eq, not_true_eq_false, not_false_eq_true, Nat.succ_ne_zero]; omega)) only [go_sem, reduceIte, reduceCtorEq, Nat.succ_ne_zero, not_false_eq_true, decide_true, decide_false, Nat.reduceAdd, Nat.reduceMul, Nat.reduceEqDiff, Nat.reduceLeDiff]
  exact ret_r (v := .bool true) (by rw [ares_tmp ret10]; rfl) ⟨rfl, kk6⟩

/-! ### what a chain says -/
/-- The spans are well-formed. -/
def Wf (l : List Sp) : Prop := ∀ s, s ∈ l → -39399 ≤ s.1 ∧ s.2 ≤ 39399 ∧ s.1 ≤ s.2
theorem Wf.at {l : List Sp} (h : Wf l) {i : Nat} (hi : i < l.length) : -39399 ≤ (at_ l i).1 ∧ till l i ≤ 39399 ∧ (at_ l i).1 ≤ till l i := by
  rw [till, at_get hi]; exact h _ (List.getElem_mem hi)
theorem at_mem {l : List Sp} {s : Sp} (h : s ∈ l) : ∃ i, i < l.length ∧ at_ l i = s := by
  obtain ⟨i, hi, rfl⟩ := List.getElem_of_mem h
  exact ⟨i, hi, at_get hi⟩
theorem Chain.lt {l : List Sp} (hw : Wf l) : ∀ {aps : List Nat} {P : Int}, Chain l P aps → ∀ p, p ∈ ptsOf l aps → P < p
  | i :: r, P, h, p, hp => by
    have := hw.at h.1
    have h2 := h.2.1
    rcases List.mem_cons.1 hp with rfl | hp
    · omega
    · have := Chain.lt hw h.2.2.2 p hp; omega
theorem Chain.inc {l : List Sp} (hw : Wf l) : ∀ {aps : List Nat} {P : Int}, Chain l P aps → (ptsOf l aps).Pairwise (· < ·)
  | [], _, _ => List.Pairwise.nil
  | i :: r, P, h => List.pairwise_cons.2 ⟨fun p hp => Chain.lt hw h.2.2.2 p hp, Chain.inc hw h.2.2.2⟩
theorem Chain.meets {l : List Sp} (hw : Wf l) : ∀ {aps : List Nat} {P : Int}, Chain l P aps → ∀ j, j < l.length → P < (at_ l j).1 → meetB (at_ l j) (ptsOf l aps) = true
  | [], P, h, j, hj, hP => by have := h j hj; omega
  | i :: r, P, h, j, hj, hP => by
    have hj2 := hw.at hj
    have hle : till l i ≤ till l j := by
      rcases h.2.2.1 j hj hP with h1 | rfl
      · rcases h1 with h1 | h1 <;> omega
      · exact Int.le_refl _
    by_cases hc : (at_ l j).1 ≤ till l i
    · simp only [meetB, ptsOf, List.map_cons, List.any_cons, Bool.or_eq_true, Bool.and_eq_true, decide_eq_true_eq]
      exact .inl ⟨hc, hle⟩
    · have := Chain.meets hw h.2.2.2 j hj (by omega)
      simp only [meetB, ptsOf, List.map_cons, List.any_cons, Bool.or_eq_true] at this ⊢
      exact .inr this
theorem Chain.in {l : List Sp} : ∀ {aps : List Nat} {P : Int}, Chain l P aps → ∀ i, i ∈ aps → i < l.length ∧ P < (at_ l i).1 ∨ i < l.length
  | i :: r, P, h, j, hj => by
    rcases List.mem_cons.1 hj with rfl | hj
    · exact .inr h.1
    · rcases Chain.in h.2.2.2 j hj with h1 | h1
      · exact .inr h1.1
      · exact .inr h1
theorem Chain.behind {l : List Sp} (hw : Wf l) : ∀ {aps : List Nat} {P : Int}, Chain l P aps → ∀ i, i ∈ aps → P < (at_ l i).1
  | i :: r, P, h, j, hj => by
    rcases List.mem_cons.1 hj with rfl | hj
    · exact h.2.1
    · have := Chain.behind hw h.2.2.2 j hj
      have h1 := hw.at h.1
      have h2 := h.2.1
      omega
theorem Chain.disj {l : List Sp} (hw : Wf l) : ∀ {aps : List Nat} {P : Int}, Chain l P aps → (aps.map (at_ l)).Pairwise (fun s t => s.2 < t.1)
  | [], _, _ => List.Pairwise.nil
  | i :: r, P, h => by
    rw [List.map_cons]
    refine List.pairwise_cons.2 ⟨fun t ht => ?_, Chain.disj hw h.2.2.2⟩
    obtain ⟨j, hj, rfl⟩ := List.mem_map.1 ht
    exact Chain.behind hw h.2.2.2 j hj
theorem chosen_ints (l : List Sp) (aps : List Nat) : chosen l (ints aps) = aps.map (at_ l) := by
  simp [chosen, ints, Function.comp_def]
/-- Check accepts what Plan returns. -/
theorem check_chain {l : List Sp} (hv : validB l = true) {aps : List Nat} (hch : Chain l (-40000) aps) : checkB l (ptsOf l aps) (ints aps) = true := by
  have hw : Wf l := valid_in hv
  have h1 : (ptsOf l aps).length = (ints aps).length := by simp [ptsOf, ints]
  have h2 : incB (ptsOf l aps) = true := decide_eq_true (hch.inc hw)
  have h3 : (l.all fun s => meetB s (ptsOf l aps)) = true := List.all_eq_true.2 fun s hs => by
    obtain ⟨j, hj, rfl⟩ := at_mem hs
    exact hch.meets hw j hj (by have := hw.at hj; omega)
  have h4 : (ints aps).all (inrB l.length) = true := List.all_eq_true.2 fun i hi => by
    obtain ⟨j, hj, rfl⟩ := List.mem_map.1 hi
    have : j < l.length := by rcases hch.in j hj with h | h <;> first | exact h.1 | exact h
    rw [inrB, decide_eq_true (by omega), decide_eq_true (by omega)]; rfl
  have h5 : disjC (chosen l (ints aps)) = true := by
    rw [chosen_ints]
    refine decide_eq_true ((hch.disj hw).imp fun {s t} h => ?_)
    rw [disjB, decide_eq_true h]; rfl
  rw [checkB, hv, decide_eq_true h1, h2, h3, h4, h5]; rfl
end Go.Proofs.Ytjgdmjoafpbnaaa
