/- slices.Sorted over slices.Values; Median. -/
import Derived.Test.YtejpfdhlpcgfkaaVa
import Derived.Test.YtejpfdhlpcgfkaaLaid
import Derived.Test.YtejpfdhlpcgfkaaAbsS
set_option linter.unusedVariables false
set_option linter.unusedSimpArgs false
set_option linter.unusedSectionVars false
namespace Go.Proofs.Ytejpfdhlpcgfkaa
open Go.Abs
set_option maxHeartbeats 8000000
set_option maxRecDepth 100000
theorem ic_flat (l : List Int) : (l.map ic).flatten = l.map (Value.int .i64) := by
  induction l with
  | nil => rfl
  | cons x l ih => simp only [List.map_cons, List.flatten_cons, ih]; rfl
theorem n43 : Try.f43.ntmps = 13 := rfl
theorem ret43 : Try.f43.results = #[.tmp 4] := rfl
def seqI (G : Hp) (l : List Int) (i : Nat) (G' : Hp) : Prop :=
  Keeps G G' ∧ G.next < G'.next ∧ ∃ o, G'.get G.next = .row [.slice o i i] true 0 ∧ OwnSl (G.next + 1) G' o 1 ((l.take i).map ic).flatten
theorem appendSeq_spec {G : Hp} {a : Option Addr} {l : List Int} {q : Nat} (hn : l.length ≤ 1000000) (hqn : q < G.next) (hq : G.get q = .row [.slice a l.length l.length] true 0) (he : Elems G a 1 (l.map ic)) :
    ACalls Try.prog 43 [.slice none 0 0, .func (.func 39) #[] #[.pointer (some ⟨q, 0, none⟩)]] G (fun v H' => Keeps G H' ∧ ∃ o, v = .slice o l.length l.length ∧ OwnSl G.next H' o 1 (l.map ic).flatten) := by
  refine ACalls_enter Try.func43 (by kernel_rfl) rfl (by kernel_rfl) (by simp [n43]) fun hw hr => AWP_of_awp ?_
  simp -implicitDefEqProofs (maxSteps := 2000000) (disch := first | omega | (simp only [nx_new, nx_set, List.length_cons, List.length_nil, List.length_map, List.length_set, ne_eq, not_true_eq_false, not_false_eq_true, Nat.succ_ne_zero]; done) | (simp only [nx_new, nx_set, List.length_cons, List.length_nil, List.length_map, List.length_set, ne_eq, not_true_eq_false, not_false_eq_true, Nat.succ_ne_zero]; omega)) only [go_sem, reduceIte, reduceCtorEq, Nat.succ_ne_zero, not_false_eq_true, decide_true, decide_false, Nat.reduceAdd, Nat.reduceMul, Nat.reduceEqDiff, Nat.reduceLeDiff]
  have hI : ∀ i G', seqI G l i G' → G'.get q = .row [.slice a l.length l.length] true 0 ∧ Elems G' a 1 (l.map ic) := fun i G' h => ⟨by rw [h.1.get _ hqn]; exact hq, he.grows h.1.grows⟩
  have h0 : seqI G l 0 (G.new (.row [.slice none 0 0] true 0)) := ⟨Keeps.new _ _, by rw [Hp.next_new]; omega, none, Hp.get_new_same _ _ _ rfl, OwnSl.none⟩
  refine AWP_range (A := fun i => [.int .i64 (l.getD i 0)]) (I := seqI G l) rfl (values_iter hn hI h0) (fun i _ => rfl) rfl (fun r i G' hi hI' => ?_) (fun G' hI' => ?_)
  · show AWP _ _ _ _ _ _ ((7, .int .i64 (l.getD i 0)) :: _) _
    refine AWP_of_awp ?_
    simp -implicitDefEqProofs (maxSteps := 2000000) (disch := first | omega | (simp only [nx_new, nx_set, List.length_cons, List.length_nil, List.length_map, List.length_set, ne_eq, not_true_eq_false, not_false_eq_true, Nat.succ_ne_zero]; done) | (simp only [nx_new, nx_set, List.length_cons, List.length_nil, List.length_map, List.length_set, ne_eq, not_true_eq_false, not_false_eq_true, Nat.succ_ne_zero]; omega)) only [go_sem, reduceIte, reduceCtorEq, Nat.succ_ne_zero, not_false_eq_true, decide_true, decide_false, Nat.reduceAdd, Nat.reduceMul, Nat.reduceEqDiff, Nat.reduceLeDiff]
    obtain ⟨hk, hlt, o, hb, ho⟩ := hI'
    have l0 : load1 G' ⟨G.next, 0, none⟩ = some (.slice o i i) := (l1_row _ _ _ _ _ hb).trans rfl
    refine AWP_of_awp ?_
    simp -implicitDefEqProofs (maxSteps := 2000000) (disch := first | omega | (simp only [nx_new, nx_set, List.length_cons, List.length_nil, List.length_map, List.length_set, ne_eq, not_true_eq_false, not_false_eq_true, Nat.succ_ne_zero]; done) | (simp only [nx_new, nx_set, List.length_cons, List.length_nil, List.length_map, List.length_set, ne_eq, not_true_eq_false, not_false_eq_true, Nat.succ_ne_zero]; omega)) only [go_sem, reduceIte, reduceCtorEq, Nat.succ_ne_zero, not_false_eq_true, decide_true, decide_false, Nat.reduceAdd, Nat.reduceMul, Nat.reduceEqDiff, Nat.reduceLeDiff, l0]
    have htl : ((l.take i).map ic).length = i := by rw [List.length_map, List.length_take]; omega
    obtain ⟨G2, hap, h2n, h2g, hold⟩ := append_own (P := Try.prog) u23 u23 ts3 tb3 tz3 rfl (by decide) (by decide) (G := G'.new (.row [.int .i64 (l.getD i 0)] true 1)) (lo := G.next + 1) (n := i) (c := i) (m := 1) (c' := 1) (r := G'.next) (ro := 0) (xs := [.int .i64 (l.getD i 0)]) (ho.keeps (Keeps.new _ _))
      (by simp -implicitDefEqProofs (maxSteps := 2000000) (disch := first | omega | (simp only [nx_new, nx_set, List.length_cons, List.length_nil, List.length_map, List.length_set, ne_eq, not_true_eq_false, not_false_eq_true, Nat.succ_ne_zero]; done) | (simp only [nx_new, nx_set, List.length_cons, List.length_nil, List.length_map, List.length_set, ne_eq, not_true_eq_false, not_false_eq_true, Nat.succ_ne_zero]; omega)) only [go_sem, reduceIte, reduceCtorEq, Nat.succ_ne_zero, not_false_eq_true, decide_true, decide_false, Nat.reduceAdd, Nat.reduceMul, Nat.reduceEqDiff, Nat.reduceLeDiff]) rfl (by decide) (by rw [ic_flat, List.length_map, List.length_take]; omega) (by omega)
    rw [hap]
    have hnx : G2.next = G'.next + 1 + 1 := h2n
    have hg2 : G2.get (G'.next + 1) = .row (((l.take i).map ic).flatten ++ [.int .i64 (l.getD i 0)]) true 1 := h2g
    have hb2 : G2.get G.next = .row [.slice o i i] true 0 := by
      rw [hold G.next (by simp only [Hp.next_new]; omega) (ho.lo_ne (by omega)), Hp.get_new_ne _ _ _ (by omega)]
      exact hb
    simp -implicitDefEqProofs (maxSteps := 2000000) (disch := first | omega | (simp only [nx_new, nx_set, List.length_cons, List.length_nil, List.length_map, List.length_set, ne_eq, not_true_eq_false, not_false_eq_true, Nat.succ_ne_zero]; done) | (simp only [nx_new, nx_set, List.length_cons, List.length_nil, List.length_map, List.length_set, ne_eq, not_true_eq_false, not_false_eq_true, Nat.succ_ne_zero]; omega)) only [go_sem, reduceIte, reduceCtorEq, Nat.succ_ne_zero, not_false_eq_true, decide_true, decide_false, Nat.reduceAdd, Nat.reduceMul, Nat.reduceEqDiff, Nat.reduceLeDiff, hb2]
    refine ⟨⟨by simp only [Hp.next_set]; have := hk.next; omega, fun b hbl => ?_⟩, by simp only [Hp.next_set]; omega, some ⟨G'.next + 1, 0, none⟩, Hp.get_set_same _ _ _ _ rfl, .inr ⟨G'.next + 1, rfl, by omega, by simp only [Hp.next_set]; omega, ?_⟩⟩
    · rw [Hp.get_set_ne _ _ _ _ (by omega), hold b (by simp only [Hp.next_new]; omega) (ho.lo_ne (by omega)), Hp.get_new_ne _ _ _ (by omega)]
      exact hk.get b hbl
    · rw [Hp.get_set_ne _ _ _ _ (by omega), hg2, List.take_succ_eq_append_getElem hi, List.map_append, List.flatten_append, List.getD_eq_getElem?_getD, List.getElem?_eq_getElem hi]
      rfl
  · obtain ⟨hk, hlt, o, hb, ho⟩ := hI'
    have l0 : load1 G' ⟨G.next, 0, none⟩ = some (.slice o l.length l.length) := (l1_row _ _ _ _ _ hb).trans rfl
    rw [List.take_of_length_le (Nat.le_refl _)] at ho
    simp -implicitDefEqProofs (maxSteps := 2000000) (disch := first | omega | (simp only [nx_new, nx_set, List.length_cons, List.length_nil, List.length_map, List.length_set, ne_eq, not_true_eq_false, not_false_eq_true, Nat.succ_ne_zero]; done) | (simp only [nx_new, nx_set, List.length_cons, List.length_nil, List.length_map, List.length_set, ne_eq, not_true_eq_false, not_false_eq_true, Nat.succ_ne_zero]; omega)) only [go_sem, reduceIte, reduceCtorEq, Nat.succ_ne_zero, not_false_eq_true, decide_true, decide_false, Nat.reduceAdd, Nat.reduceMul, Nat.reduceEqDiff, Nat.reduceLeDiff, l0]
    refine ret_r (v := .slice o l.length l.length) (by rw [ares_tmp ret43]; rfl) ⟨hk, o, rfl, ?_⟩
    rcases ho with h | ⟨p, h1, h2, h3, h4⟩
    · exact .inl h
    · exact .inr ⟨p, h1, by omega, h3, h4⟩
theorem n37 : Try.f37.ntmps = 5 := rfl
theorem ret37 : Try.f37.results = #[.tmp 2] := rfl
theorem collect_spec {G : Hp} {a : Option Addr} {l : List Int} {q : Nat} (hn : l.length ≤ 1000000) (hqn : q < G.next) (hq : G.get q = .row [.slice a l.length l.length] true 0) (he : Elems G a 1 (l.map ic)) :
    ACalls Try.prog 37 [.func (.func 39) #[] #[.pointer (some ⟨q, 0, none⟩)]] G (fun v H' => Keeps G H' ∧ ∃ o, v = .slice o l.length l.length ∧ OwnSl G.next H' o 1 (l.map ic).flatten) := by
  refine ACalls_enter Try.func37 (by kernel_rfl) rfl (by kernel_rfl) (by simp [n37]) fun hw hr => AWP_of_awp ?_
  simp -implicitDefEqProofs (maxSteps := 2000000) (disch := first | omega | (simp only [nx_new, nx_set, List.length_cons, List.length_nil, List.length_map, List.length_set, ne_eq, not_true_eq_false, not_false_eq_true, Nat.succ_ne_zero]; done) | (simp only [nx_new, nx_set, List.length_cons, List.length_nil, List.length_map, List.length_set, ne_eq, not_true_eq_false, not_false_eq_true, Nat.succ_ne_zero]; omega)) only [go_sem, reduceIte, reduceCtorEq, Nat.succ_ne_zero, not_false_eq_true, decide_true, decide_false, Nat.reduceAdd, Nat.reduceMul, Nat.reduceEqDiff, Nat.reduceLeDiff]
  refine (appendSeq_spec hn hqn hq he).mono ?_
  rintro _ G' ⟨hk, o, rfl, ho⟩
  simp -implicitDefEqProofs (maxSteps := 2000000) (disch := first | omega | (simp only [nx_new, nx_set, List.length_cons, List.length_nil, List.length_map, List.length_set, ne_eq, not_true_eq_false, not_false_eq_true, Nat.succ_ne_zero]; done) | (simp only [nx_new, nx_set, List.length_cons, List.length_nil, List.length_map, List.length_set, ne_eq, not_true_eq_false, not_false_eq_true, Nat.succ_ne_zero]; omega)) only [go_sem, reduceIte, reduceCtorEq, Nat.succ_ne_zero, not_false_eq_true, decide_true, decide_false, Nat.reduceAdd, Nat.reduceMul, Nat.reduceEqDiff, Nat.reduceLeDiff]
  exact ret_r (v := .slice o l.length l.length) (by rw [ares_tmp ret37]; rfl) ⟨hk, o, rfl, ho⟩
open Go.Shelf in
theorem sort_spec {H : Hp} {b k : Nat} {l : List Int} (hg : H.get b = .row (l.map (Value.int .i64)) true k) (hn : l.length ≠ 0) (hs : l.length < 4611686018427387904) :
    ACalls Try.prog 38 [.slice (some ⟨b, 0, none⟩) l.length l.length] H (fun v H' => v = .tuple #[] ∧ H' = H.set b (.row ((l.mergeSort fun x y => decide (x ≤ y)).map (Value.int .i64)) true k)) :=
  sort_int_calls ⟨_, Try.func38, by kernel_rfl, rfl⟩ (fun blk off cap zs w h1 h2 h3 => AnyM.slices_Sort_int Try.sortL blk off cap zs w h1 h2 h3) hg hn hs
def srt (l : List Int) : List Int := l.mergeSort fun x y => decide (x ≤ y)
theorem n27 : Try.f27.ntmps = 9 := rfl
theorem ret27 : Try.f27.results = #[.tmp 2] := rfl
theorem sorted_spec {G : Hp} {a : Option Addr} {l : List Int} {q : Nat} (hn : l.length ≤ 1000000) (h0 : l.length ≠ 0) (hqn : q < G.next) (hq : G.get q = .row [.slice a l.length l.length] true 0) (he : Elems G a 1 (l.map ic)) :
    ACalls Try.prog 27 [.func (.func 39) #[] #[.pointer (some ⟨q, 0, none⟩)]] G (fun v H' => Keeps G H' ∧ ∃ p, v = .slice (some ⟨p, 0, none⟩) l.length l.length ∧ p < H'.next ∧ H'.get p = .row ((srt l).map (Value.int .i64)) true 1) := by
  refine ACalls_enter Try.func27 (by kernel_rfl) rfl (by kernel_rfl) (by simp [n27]) fun hw hr => AWP_of_awp ?_
  simp -implicitDefEqProofs (maxSteps := 2000000) (disch := first | omega | (simp only [nx_new, nx_set, List.length_cons, List.length_nil, List.length_map, List.length_set, ne_eq, not_true_eq_false, not_false_eq_true, Nat.succ_ne_zero]; done) | (simp only [nx_new, nx_set, List.length_cons, List.length_nil, List.length_map, List.length_set, ne_eq, not_true_eq_false, not_false_eq_true, Nat.succ_ne_zero]; omega)) only [go_sem, reduceIte, reduceCtorEq, Nat.succ_ne_zero, not_false_eq_true, decide_true, decide_false, Nat.reduceAdd, Nat.reduceMul, Nat.reduceEqDiff, Nat.reduceLeDiff]
  refine (collect_spec hn hqn hq he).mono ?_
  rintro _ G' ⟨hk, o, rfl, ho⟩
  rcases ho with ⟨_, h⟩ | ⟨p, rfl, h2, h3, h4⟩
  · rw [ic_flat] at h
    exact absurd (by simpa using congrArg List.length h) h0
  rw [ic_flat] at h4
  simp -implicitDefEqProofs (maxSteps := 2000000) (disch := first | omega | (simp only [nx_new, nx_set, List.length_cons, List.length_nil, List.length_map, List.length_set, ne_eq, not_true_eq_false, not_false_eq_true, Nat.succ_ne_zero]; done) | (simp only [nx_new, nx_set, List.length_cons, List.length_nil, List.length_map, List.length_set, ne_eq, not_true_eq_false, not_false_eq_true, Nat.succ_ne_zero]; omega)) only [go_sem, reduceIte, reduceCtorEq, Nat.succ_ne_zero, not_false_eq_true, decide_true, decide_false, Nat.reduceAdd, Nat.reduceMul, Nat.reduceEqDiff, Nat.reduceLeDiff]
  refine ACalls.use_eq (sort_spec h4 h0 (by omega)) ?_
  simp -implicitDefEqProofs (maxSteps := 2000000) (disch := first | omega | (simp only [nx_new, nx_set, List.length_cons, List.length_nil, List.length_map, List.length_set, ne_eq, not_true_eq_false, not_false_eq_true, Nat.succ_ne_zero]; done) | (simp only [nx_new, nx_set, List.length_cons, List.length_nil, List.length_map, List.length_set, ne_eq, not_true_eq_false, not_false_eq_true, Nat.succ_ne_zero]; omega)) only [go_sem, reduceIte, reduceCtorEq, Nat.succ_ne_zero, not_false_eq_true, decide_true, decide_false, Nat.reduceAdd, Nat.reduceMul, Nat.reduceEqDiff, Nat.reduceLeDiff]
  refine ret_r (v := .slice (some ⟨p, 0, none⟩) l.length l.length) (by rw [ares_tmp ret27]; rfl) ⟨⟨by rw [Hp.next_set]; exact hk.next, fun b hb => by rw [Hp.get_set_ne _ _ _ _ (by omega)]; exact hk.get b hb⟩, p, rfl, by rw [Hp.next_set]; exact h3, Hp.get_set_same _ _ _ _ rfl⟩
theorem n28 : Try.f28.ntmps = 4 := rfl
theorem ret28 : Try.f28.results = #[.tmp 2] := rfl
theorem values_spec (H : Hp) (a : Option Addr) (n : Nat) :
    ACalls Try.prog 28 [.slice a n n] H (fun v H' => v = .func (.func 39) #[] #[.pointer (some ⟨H.next, 0, none⟩)] ∧ H' = H.new (.row [.slice a n n] true 0)) := by
  refine ACalls_enter Try.func28 (by kernel_rfl) rfl (by kernel_rfl) (by simp [n28]) fun hw hr => AWP_of_awp ?_
  simp -implicitDefEqProofs (maxSteps := 2000000) (disch := first | omega | (simp only [nx_new, nx_set, List.length_cons, List.length_nil, List.length_map, List.length_set, ne_eq, not_true_eq_false, not_false_eq_true, Nat.succ_ne_zero]; done) | (simp only [nx_new, nx_set, List.length_cons, List.length_nil, List.length_map, List.length_set, ne_eq, not_true_eq_false, not_false_eq_true, Nat.succ_ne_zero]; omega)) only [go_sem, reduceIte, reduceCtorEq, Nat.succ_ne_zero, not_false_eq_true, decide_true, decide_false, Nat.reduceAdd, Nat.reduceMul, Nat.reduceEqDiff, Nat.reduceLeDiff]
  exact ret_r (v := .func (.func 39) #[] #[.pointer (some ⟨H.next, 0, none⟩)]) (by rw [ares_tmp ret28]; rfl) ⟨rfl, rfl⟩
/-- The lower median. -/
def med (l : List Int) : Int := (srt l).getD ((l.length - 1) / 2) 0
def medE (l : List Int) : Int := if 1000 < l.length then 2 else if l.length = 0 then 10 else 0
def medV (l : List Int) : Int := if 1000 < l.length then 0 else if l.length = 0 then 0 else med l
theorem n13 : Try.f13.ntmps = 23 := rfl
theorem ret13 : Try.f13.results = #[.tmp 2, .tmp 3] := rfl
theorem median_spec (H : Hp) (a : Option Addr) (l : List Int) (hl : l.length ≤ 1000000) (he : Elems H a 1 (l.map ic)) :
    ACalls Try.prog 13 [.slice a l.length l.length] H (fun v H' => v = .tuple #[.int .i64 (medV l), .int .i64 (medE l)] ∧ Keeps H H') := by
  refine ACalls_enter Try.func13 (by kernel_rfl) rfl (by kernel_rfl) (by simp [n13]) fun hw hr => AWP_of_awp ?_
  simp -implicitDefEqProofs (maxSteps := 2000000) (disch := first | omega | (simp only [nx_new, nx_set, List.length_cons, List.length_nil, List.length_map, List.length_set, ne_eq, not_true_eq_false, not_false_eq_true, Nat.succ_ne_zero]; done) | (simp only [nx_new, nx_set, List.length_cons, List.length_nil, List.length_map, List.length_set, ne_eq, not_true_eq_false, not_false_eq_true, Nat.succ_ne_zero]; omega)) only [go_sem, reduceIte, reduceCtorEq, Nat.succ_ne_zero, not_false_eq_true, decide_true, decide_false, Nat.reduceAdd, Nat.reduceMul, Nat.reduceEqDiff, Nat.reduceLeDiff]
  refine condS_split (fun hc => ?_) (fun hc => ?_)
  · have h1 : 1000 < l.length := by have := of_decide_eq_true hc; omega
    simp -implicitDefEqProofs (maxSteps := 2000000) (disch := first | omega | (simp only [nx_new, nx_set, List.length_cons, List.length_nil, List.length_map, List.length_set, ne_eq, not_true_eq_false, not_false_eq_true, Nat.succ_ne_zero]; done) | (simp only [nx_new, nx_set, List.length_cons, List.length_nil, List.length_map, List.length_set, ne_eq, not_true_eq_false, not_false_eq_true, Nat.succ_ne_zero]; omega)) only [go_sem, reduceIte, reduceCtorEq, Nat.succ_ne_zero, not_false_eq_true, decide_true, decide_false, Nat.reduceAdd, Nat.reduceMul, Nat.reduceEqDiff, Nat.reduceLeDiff, hc]
    exact ret_r (v := .tuple #[.int .i64 0, .int .i64 2]) (by rw [ares_tmp_tmp ret13]; rfl) ⟨by simp [medV, medE, h1], Keeps.refl _⟩
  · have h1 : ¬1000 < l.length := by have := of_decide_eq_false hc; omega
    simp -implicitDefEqProofs (maxSteps := 2000000) (disch := first | omega | (simp only [nx_new, nx_set, List.length_cons, List.length_nil, List.length_map, List.length_set, ne_eq, not_true_eq_false, not_false_eq_true, Nat.succ_ne_zero]; done) | (simp only [nx_new, nx_set, List.length_cons, List.length_nil, List.length_map, List.length_set, ne_eq, not_true_eq_false, not_false_eq_true, Nat.succ_ne_zero]; omega)) only [go_sem, reduceIte, reduceCtorEq, Nat.succ_ne_zero, not_false_eq_true, decide_true, decide_false, Nat.reduceAdd, Nat.reduceMul, Nat.reduceEqDiff, Nat.reduceLeDiff, hc]
    refine condS_split (fun hz => ?_) (fun hz => ?_)
    · have h0 : l.length = 0 := by simpa using hz
      simp -implicitDefEqProofs (maxSteps := 2000000) (disch := first | omega | (simp only [nx_new, nx_set, List.length_cons, List.length_nil, List.length_map, List.length_set, ne_eq, not_true_eq_false, not_false_eq_true, Nat.succ_ne_zero]; done) | (simp only [nx_new, nx_set, List.length_cons, List.length_nil, List.length_map, List.length_set, ne_eq, not_true_eq_false, not_false_eq_true, Nat.succ_ne_zero]; omega)) only [go_sem, reduceIte, reduceCtorEq, Nat.succ_ne_zero, not_false_eq_true, decide_true, decide_false, Nat.reduceAdd, Nat.reduceMul, Nat.reduceEqDiff, Nat.reduceLeDiff, hz]
      exact ret_r (v := .tuple #[.int .i64 0, .int .i64 10]) (by rw [ares_tmp_tmp ret13]; rfl) ⟨by simp [medV, medE, h0], Keeps.refl _⟩
    · have h0 : l.length ≠ 0 := by simpa using hz
      simp -implicitDefEqProofs (maxSteps := 2000000) (disch := first | omega | (simp only [nx_new, nx_set, List.length_cons, List.length_nil, List.length_map, List.length_set, ne_eq, not_true_eq_false, not_false_eq_true, Nat.succ_ne_zero]; done) | (simp only [nx_new, nx_set, List.length_cons, List.length_nil, List.length_map, List.length_set, ne_eq, not_true_eq_false, not_false_eq_true, Nat.succ_ne_zero]; omega)) only [go_sem, reduceIte, reduceCtorEq, Nat.succ_ne_zero, not_false_eq_true, decide_true, decide_false, Nat.reduceAdd, Nat.reduceMul, Nat.reduceEqDiff, Nat.reduceLeDiff, hz]
      refine ACalls.use_eq (values_spec _ _ _) ?_
      simp -implicitDefEqProofs (maxSteps := 2000000) (disch := first | omega | (simp only [nx_new, nx_set, List.length_cons, List.length_nil, List.length_map, List.length_set, ne_eq, not_true_eq_false, not_false_eq_true, Nat.succ_ne_zero]; done) | (simp only [nx_new, nx_set, List.length_cons, List.length_nil, List.length_map, List.length_set, ne_eq, not_true_eq_false, not_false_eq_true, Nat.succ_ne_zero]; omega)) only [go_sem, reduceIte, reduceCtorEq, Nat.succ_ne_zero, not_false_eq_true, decide_true, decide_false, Nat.reduceAdd, Nat.reduceMul, Nat.reduceEqDiff, Nat.reduceLeDiff]
      refine (sorted_spec hl h0 (Nat.lt_succ_self _) (Hp.get_new_same _ _ _ rfl) (he.grows (Grows.new _ _))).mono ?_
      rintro _ G ⟨hk, p, rfl, hp, hg⟩
      have hlen : (srt l).length = l.length := List.length_mergeSort _
      have hlt : (l.length - 1) / 2 < (srt l).length := by omega
      have hld : load1 G ⟨p, (l.length - 1) / 2, none⟩ = some (.int .i64 (med l)) := by
        rw [l1_row _ _ _ _ _ hg, List.getElem?_map, List.getElem?_eq_getElem hlt, med, List.getD_eq_getElem?_getD, List.getElem?_eq_getElem hlt]
        rfl
      have hidx : IntKind.i64.wrap (((l.length : Int) - 1).tdiv 2) = (((l.length - 1) / 2 : Nat) : Int) := by
        have e : ((l.length : Int) - 1).tdiv 2 = (((l.length - 1) / 2 : Nat) : Int) := by
          rw [show (l.length : Int) - 1 = ((l.length - 1 : Nat) : Int) by omega]
          exact (Int.ofNat_tdiv _ _).symm
        rw [e]
        exact wrap_i64 (by omega) (by omega)
      simp -implicitDefEqProofs (maxSteps := 2000000) (disch := first | omega | (simp only [nx_new, nx_set, List.length_cons, List.length_nil, List.length_map, List.length_set, ne_eq, not_true_eq_false, not_false_eq_true, Nat.succ_ne_zero]; done) | (simp only [nx_new, nx_set, List.length_cons, List.length_nil, List.length_map, List.length_set, ne_eq, not_true_eq_false, not_false_eq_true, Nat.succ_ne_zero]; omega)) only [go_sem, reduceIte, reduceCtorEq, Nat.succ_ne_zero, not_false_eq_true, decide_true, decide_false, Nat.reduceAdd, Nat.reduceMul, Nat.reduceEqDiff, Nat.reduceLeDiff, hidx, hld]
      exact ret_r (v := .tuple #[.int .i64 (med l), .int .i64 0]) (by rw [ares_tmp_tmp ret13]; rfl) ⟨by simp [medV, medE, h1, h0], (Keeps.new _ _).trans hk⟩
end Go.Proofs.Ytejpfdhlpcgfkaa
