/- DefectOrder. -/
import Derived.Test.YtalijeodmmlfjaaWj
set_option linter.unusedVariables false
set_option linter.unusedSimpArgs false
set_option linter.unusedSectionVars false
namespace Go.Proofs.Ytalijeodmmlfjaa
open Go.Abs
set_option maxHeartbeats 8000000
set_option maxRecDepth 100000

/-- The opposite order, and twice: what has come after k rounds. -/
def backL (l : List D) (k : Nat) : List D := (l.reverse.take k).flatMap fun d => [d, d]
theorem backL_succ {l : List D} {k : Nat} (hk : k < l.length) : backL l (k + 1) = backL l k ++ [l[l.length - 1 - k]'(by omega), l[l.length - 1 - k]'(by omega)] := by
  have h : k < l.reverse.length := by simpa using hk
  simp only [backL, List.take_succ_eq_append_getElem h, List.flatMap_append, List.flatMap_cons, List.flatMap_nil, List.append_nil, List.getElem_reverse]
theorem backL_len {l : List D} : ∀ {k : Nat}, k ≤ l.length → (backL l k).length = 2 * k
  | 0, _ => by simp [backL]
  | k + 1, h => by rw [backL_succ h, List.length_append, backL_len (by omega)]; simp; omega
theorem backL_all (l : List D) : backL l l.length = l.reverse.flatMap fun d => [d, d] := by
  rw [backL, List.take_of_length_le (by simp)]
theorem backL_mem {l : List D} {d : D} : d ∈ backL l l.length ↔ d ∈ l := by
  rw [backL_all]; simp
theorem any_congr_mem {l l' : List D} (h : ∀ d, d ∈ l ↔ d ∈ l') (p : D → Bool) : l.any p = l'.any p := by
  rw [Bool.eq_iff_iff, List.any_eq_true, List.any_eq_true]
  constructor
  · rintro ⟨d, h1, h2⟩; exact ⟨d, (h d).1 h1, h2⟩
  · rintro ⟨d, h1, h2⟩; exact ⟨d, (h d).2 h1, h2⟩
theorem all_congr_mem {l l' : List D} (h : ∀ d, d ∈ l ↔ d ∈ l') (p : D → Bool) : l.all p = l'.all p := by
  rw [Bool.eq_iff_iff, List.all_eq_true, List.all_eq_true]
  constructor
  · intro g d hd; exact g d ((h d).2 hd)
  · intro g d hd; exact g d ((h d).1 hd)
theorem maskB_mem {l l' : List D} (h : ∀ d, d ∈ l ↔ d ∈ l') (tel valid known : Int) : maskB l tel valid known = maskB l' tel valid known := by
  apply List.ext_getElem?
  intro i
  by_cases hi : i < 4
  · rw [maskB_get _ _ _ _ hi, maskB_get _ _ _ _ hi]
    simp only [Option.some.injEq]
    exact any_congr_mem h _
  · rw [List.getElem?_eq_none (by rw [maskB_length]; omega), List.getElem?_eq_none (by rw [maskB_length]; omega)]
theorem validB_mem {l l' : List D} (h : ∀ d, d ∈ l ↔ d ∈ l') (h1 : l.length ≤ 200) (h2 : l'.length ≤ 200) : validB l = validB l' := by
  rw [validB, validB, all_congr_mem h, decide_eq_true h1, decide_eq_true h2]
theorem argsB_mem {l l' : List D} (h : ∀ d, d ∈ l ↔ d ∈ l') (h1 : l.length ≤ 200) (h2 : l'.length ≤ 200) (tel x y : Int) : argsB l tel x y = argsB l' tel x y := by
  rw [argsB, argsB, validB_mem h h1 h2]
theorem ChangesL_mem {l l' : List D} (h : ∀ d, d ∈ l ↔ d ∈ l') (h1 : l.length ≤ 200) (h2 : l'.length ≤ 200) (tel x y : Int) : ChangesL l tel x y = ChangesL l' tel x y := by
  rw [ChangesL, ChangesL, ← argsB_mem h h1 h2]
  split
  · rename_i ha
    have hin := in_of (argsB_iff.1 ha).1.1
    refine changes_same hin (fun d hd => hin d ((h d).2 hd)) fun m _ _ => ?_
    unfold differ
    rw [maskB_mem h, maskB_mem h]
  · rfl

theorem n6 : Try.f6.ntmps = 100 := rfl
theorem ret6 : Try.f6.results = #[.tmp 12] := rfl
theorem order_law (H : Hp) (a : Option Addr) (l : List D) (tel valid known one two : Int) (he : Elems H a 5 (l.map D.cells)) :
    ACalls Try.prog 6 [.slice a l.length l.length, .int .i64 tel, .int .i64 valid, .int .i64 known, .int .i64 one, .int .i64 two] H (fun v H' => v = .bool true) := by
  refine ACalls_enter Try.func6 (by kernel_rfl) rfl (by kernel_rfl) (by simp [n6]) fun hw hr => AWP_of_awp ?_
  simp -implicitDefEqProofs (maxSteps := 2000000) (disch := first | omega | (simp only [nx_new, nx_set, List.length_cons, List.length_nil, List.length_map, List.length_set, ne_eq, not_true_eq_false, not_false_eq_true, Nat.succ_ne_zero]; done) | (simp only [nx_new, nx_set, List.length_cons, List.length_nil, List.length_map, List.length_set, ne_eq, not_true_eq_false, not_false_eq_true, Nat.succ_ne_zero]; omega)) only [go_sem, reduceIte, reduceCtorEq, Nat.succ_ne_zero, not_false_eq_true, decide_true, decide_false, Nat.reduceAdd, Nat.reduceMul, Nat.reduceEqDiff, Nat.reduceLeDiff]
  refine ACalls.use_eq (head_spec _) ?_
  simp -implicitDefEqProofs (maxSteps := 2000000) (disch := first | omega | (simp only [nx_new, nx_set, List.length_cons, List.length_nil, List.length_map, List.length_set, ne_eq, not_true_eq_false, not_false_eq_true, Nat.succ_ne_zero]; done) | (simp only [nx_new, nx_set, List.length_cons, List.length_nil, List.length_map, List.length_set, ne_eq, not_true_eq_false, not_false_eq_true, Nat.succ_ne_zero]; omega)) only [go_sem, reduceIte, reduceCtorEq, Nat.succ_ne_zero, not_false_eq_true, decide_true, decide_false, Nat.reduceAdd, Nat.reduceMul, Nat.reduceEqDiff, Nat.reduceLeDiff]
  refine condS_split (fun hc => ?_) (fun hc => ?_)
  · simp -implicitDefEqProofs (maxSteps := 2000000) (disch := first | omega | (simp only [nx_new, nx_set, List.length_cons, List.length_nil, List.length_map, List.length_set, ne_eq, not_true_eq_false, not_false_eq_true, Nat.succ_ne_zero]; done) | (simp only [nx_new, nx_set, List.length_cons, List.length_nil, List.length_map, List.length_set, ne_eq, not_true_eq_false, not_false_eq_true, Nat.succ_ne_zero]; omega)) only [go_sem, reduceIte, reduceCtorEq, Nat.succ_ne_zero, not_false_eq_true, decide_true, decide_false, Nat.reduceAdd, Nat.reduceMul, Nat.reduceEqDiff, Nat.reduceLeDiff, hc]
    exact ret_r (v := .bool true) (by rw [ares_tmp ret6]; rfl) rfl
  · have hlen : l.length ≤ 20 := by have := of_decide_eq_false hc; omega
    have hl : l.length ≤ 9223372036854775806 := by omega
    simp -implicitDefEqProofs (maxSteps := 2000000) (disch := first | omega | (simp only [nx_new, nx_set, List.length_cons, List.length_nil, List.length_map, List.length_set, ne_eq, not_true_eq_false, not_false_eq_true, Nat.succ_ne_zero]; done) | (simp only [nx_new, nx_set, List.length_cons, List.length_nil, List.length_map, List.length_set, ne_eq, not_true_eq_false, not_false_eq_true, Nat.succ_ne_zero]; omega)) only [go_sem, reduceIte, reduceCtorEq, Nat.succ_ne_zero, not_false_eq_true, decide_true, decide_false, Nat.reduceAdd, Nat.reduceMul, Nat.reduceEqDiff, Nat.reduceLeDiff, hc]
    refine AWP_loop (σ := Nat × Hp × Option Addr) (fun s => [(15, .int .i64 ((l.length : Int) - 1 - s.1)), (14, .slice s.2.2 (2 * s.1) (2 * s.1)), (13, .bool true), (0, .slice a l.length l.length), (1, .int .i64 tel), (2, .int .i64 valid), (3, .int .i64 known), (4, .int .i64 one), (5, .int .i64 two)])
      (fun s => s.2.1) (fun s => s.1 ≤ l.length ∧ Keeps H s.2.1 ∧ OwnSl H.next s.2.1 s.2.2 5 ((backL l s.1).map D.cells).flatten) (fun s => l.length - s.1) (0, H, none) ⟨Nat.zero_le _, Keeps.refl _, OwnSl.none⟩ (Weak.sub ?_) ?_
    · simp -implicitDefEqProofs (disch := omega) only [Abs.Sub, get_cons_eq, get_cons_ne, and_self, Int.natCast_zero, Int.natCast_add, Int.natCast_one]
      refine ⟨?_, trivial⟩
      (first | rfl | (simp only [Option.some.injEq, Value.int.injEq, Value.slice.injEq, true_and, and_true]; omega))
    · rintro ⟨k, G, c⟩ ⟨hk, hkeep, hown⟩
      simp only at hk hkeep hown ⊢
      refine AWP_of_awp ?_
      have hbl := backL_len hk
      by_cases hlt : k < l.length
      · obtain ⟨b0, o, rfl, hb, hload⟩ := (he.grows hkeep.grows) (l.length - 1 - k) (by rw [List.length_map]; omega)
        simp only [List.getElem_map] at hload
        have hnext := backL_succ hlt
        generalize l[l.length - 1 - k]'(by omega) = d at *
        simp only [D.cells] at hload
        have hidx : ((l.length : Int) - 1 - k).toNat = l.length - 1 - k := by omega
        simp -implicitDefEqProofs (maxSteps := 2000000) (disch := first | omega | (simp only [nx_new, nx_set, List.length_cons, List.length_nil, List.length_map, List.length_set, ne_eq, not_true_eq_false, not_false_eq_true, Nat.succ_ne_zero]; done) | (simp only [nx_new, nx_set, List.length_cons, List.length_nil, List.length_map, List.length_set, ne_eq, not_true_eq_false, not_false_eq_true, Nat.succ_ne_zero]; omega)) only [go_sem, reduceIte, reduceCtorEq, Nat.succ_ne_zero, not_false_eq_true, decide_true, decide_false, Nat.reduceAdd, Nat.reduceMul, Nat.reduceEqDiff, Nat.reduceLeDiff]
        refine AWP_draw_fast mo (by kernel_rfl) ?_
        simp -implicitDefEqProofs (maxSteps := 2000000) (disch := first | omega | (simp only [nx_new, nx_set, List.length_cons, List.length_nil, List.length_map, List.length_set, ne_eq, not_true_eq_false, not_false_eq_true, Nat.succ_ne_zero]; done) | (simp only [nx_new, nx_set, List.length_cons, List.length_nil, List.length_map, List.length_set, ne_eq, not_true_eq_false, not_false_eq_true, Nat.succ_ne_zero]; omega)) only [go_sem, reduceIte, reduceCtorEq, Nat.succ_ne_zero, not_false_eq_true, decide_true, decide_false, Nat.reduceAdd, Nat.reduceMul, Nat.reduceEqDiff, Nat.reduceLeDiff, hload, hidx]
        obtain ⟨G', hap, hn, hg, hold⟩ := append_own (P := Try.prog) u22 u22 ts36 tb36 tz36 rfl (by decide) (by decide) (G := G.new (.row (d.cells ++ d.cells) true 5)) (lo := H.next) (n := 2 * k) (c := 2 * k) (m := 2) (c' := 2) (r := G.next) (ro := 0) (xs := d.cells ++ d.cells) (hown.keeps (Keeps.new _ _))
          (by simp -implicitDefEqProofs (maxSteps := 2000000) (disch := first | omega | (simp only [nx_new, nx_set, List.length_cons, List.length_nil, List.length_map, List.length_set, ne_eq, not_true_eq_false, not_false_eq_true, Nat.succ_ne_zero]; done) | (simp only [nx_new, nx_set, List.length_cons, List.length_nil, List.length_map, List.length_set, ne_eq, not_true_eq_false, not_false_eq_true, Nat.succ_ne_zero]; omega)) only [go_sem, reduceIte, reduceCtorEq, Nat.succ_ne_zero, not_false_eq_true, decide_true, decide_false, Nat.reduceAdd, Nat.reduceMul, Nat.reduceEqDiff, Nat.reduceLeDiff, D.cells]) rfl (by decide) (by rw [flat_len (cells_len _), List.length_map, hbl]) (by omega)
        simp only [D.cells, List.cons_append, List.nil_append] at hap hn hold
        rw [hap]
        simp -implicitDefEqProofs (maxSteps := 2000000) (disch := first | omega | (simp only [nx_new, nx_set, List.length_cons, List.length_nil, List.length_map, List.length_set, ne_eq, not_true_eq_false, not_false_eq_true, Nat.succ_ne_zero]; done) | (simp only [nx_new, nx_set, List.length_cons, List.length_nil, List.length_map, List.length_set, ne_eq, not_true_eq_false, not_false_eq_true, Nat.succ_ne_zero]; omega)) only [go_sem, reduceIte, reduceCtorEq, Nat.succ_ne_zero, not_false_eq_true, decide_true, decide_false, Nat.reduceAdd, Nat.reduceMul, Nat.reduceEqDiff, Nat.reduceLeDiff]
        refine ⟨(k + 1, G', some ⟨G.next + 1, 0, none⟩), ⟨hlt, ⟨?_, fun b hb => ?_⟩, .inr ⟨G.next + 1, rfl, ?_, ?_, ?_⟩⟩, by simp only; omega, Weak.sub ?_⟩
        · have := hkeep.next; rw [hn]; simp only [Hp.next_new]; omega
        · have := hkeep.next
          rw [hold b (by simp only [Hp.next_new]; omega) (hown.lo_ne hb), Hp.get_new_ne _ _ _ (by omega)]
          exact hkeep.get b hb
        · have := hkeep.next; omega
        · rw [hn]; simp only [Hp.next_new]; omega
        · rw [hnext, List.map_append, List.flatten_append]
          have hg' : G'.get (G.next + 1) = _ := hg
          simpa [D.cells] using hg'
        · have e2 : ((l.length : Int) - 1 - k) - 1 = (l.length : Int) - 1 - (k + 1 : Nat) := by omega
          have e3 : 2 * (k + 1) = 2 * k + 2 := by omega
          simp only [e3, ← e2]
          simp -implicitDefEqProofs (disch := omega) only [Abs.Sub, get_cons_eq, get_cons_ne, and_self, Int.natCast_zero, Int.natCast_add, Int.natCast_one]
      · have hkl : k = l.length := by omega
        subst hkl
        have hes := hown.elems (cells_len _) (by decide)
        have hmem : ∀ d, d ∈ l ↔ d ∈ backL l l.length := fun d => backL_mem.symm
        have q1 := argsB_mem hmem (by omega) (by omega) tel valid known
        have q2 := argsB_mem hmem (by omega) (by omega) tel one two
        have q3 : MaskB l tel valid known = MaskB (backL l l.length) tel valid known := by rw [MaskB, MaskB, q1, maskB_mem hmem]
        have q4 : errB l tel valid known = errB (backL l l.length) tel valid known := by rw [errB, errB, q1]
        have q5 := ChangesL_mem hmem (by omega) (by omega) tel one two
        have q6 : errB l tel one two = errB (backL l l.length) tel one two := by rw [errB, errB, q2]
        generalize backL l l.length = l' at *
        rw [← hbl]
        simp -implicitDefEqProofs (maxSteps := 2000000) (disch := first | omega | (simp only [nx_new, nx_set, List.length_cons, List.length_nil, List.length_map, List.length_set, ne_eq, not_true_eq_false, not_false_eq_true, Nat.succ_ne_zero]; done) | (simp only [nx_new, nx_set, List.length_cons, List.length_nil, List.length_map, List.length_set, ne_eq, not_true_eq_false, not_false_eq_true, Nat.succ_ne_zero]; omega)) only [go_sem, reduceIte, reduceCtorEq, Nat.succ_ne_zero, not_false_eq_true, decide_true, decide_false, Nat.reduceAdd, Nat.reduceMul, Nat.reduceEqDiff, Nat.reduceLeDiff]
        refine ACalls.use_eq (Mask_spec _ _ l tel valid known hl (he.grows hkeep.grows)) ?_
        obtain ⟨x1, y1, z1, w1, p1⟩ := vb4 _ (MaskB_length l tel valid known)
        rw [maskV_of p1]
        simp -implicitDefEqProofs (maxSteps := 2000000) (disch := first | omega | (simp only [nx_new, nx_set, List.length_cons, List.length_nil, List.length_map, List.length_set, ne_eq, not_true_eq_false, not_false_eq_true, Nat.succ_ne_zero]; done) | (simp only [nx_new, nx_set, List.length_cons, List.length_nil, List.length_map, List.length_set, ne_eq, not_true_eq_false, not_false_eq_true, Nat.succ_ne_zero]; omega)) only [go_sem, reduceIte, reduceCtorEq, Nat.succ_ne_zero, not_false_eq_true, decide_true, decide_false, Nat.reduceAdd, Nat.reduceMul, Nat.reduceEqDiff, Nat.reduceLeDiff]
        refine ACalls.use_eq (Mask_spec _ _ l' tel valid known (by omega) (hes.grows (Grows.new _ _))) ?_
        rw [q3] at p1
        rw [maskV_of p1, ← q4]
        simp -implicitDefEqProofs (maxSteps := 2000000) (disch := first | omega | (simp only [nx_new, nx_set, List.length_cons, List.length_nil, List.length_map, List.length_set, ne_eq, not_true_eq_false, not_false_eq_true, Nat.succ_ne_zero]; done) | (simp only [nx_new, nx_set, List.length_cons, List.length_nil, List.length_map, List.length_set, ne_eq, not_true_eq_false, not_false_eq_true, Nat.succ_ne_zero]; omega)) only [go_sem, reduceIte, reduceCtorEq, Nat.succ_ne_zero, not_false_eq_true, decide_true, decide_false, Nat.reduceAdd, Nat.reduceMul, Nat.reduceEqDiff, Nat.reduceLeDiff]
        refine (Changes_spec _ _ l tel one two hl ((he.grows hkeep.grows).grows ((Grows.new _ _).trans (Grows.new _ _)))).mono ?_
        rintro _ G1 ⟨o1, rfl, hk1, hs1⟩
        simp -implicitDefEqProofs (maxSteps := 2000000) (disch := first | omega | (simp only [nx_new, nx_set, List.length_cons, List.length_nil, List.length_map, List.length_set, ne_eq, not_true_eq_false, not_false_eq_true, Nat.succ_ne_zero]; done) | (simp only [nx_new, nx_set, List.length_cons, List.length_nil, List.length_map, List.length_set, ne_eq, not_true_eq_false, not_false_eq_true, Nat.succ_ne_zero]; omega)) only [go_sem, reduceIte, reduceCtorEq, Nat.succ_ne_zero, not_false_eq_true, decide_true, decide_false, Nat.reduceAdd, Nat.reduceMul, Nat.reduceEqDiff, Nat.reduceLeDiff]
        refine (Changes_spec _ _ l' tel one two (by omega) ((hes.grows ((Grows.new _ _).trans (Grows.new _ _))).grows hk1.grows)).mono ?_
        rintro _ G2 ⟨o2, rfl, hk2, hs2⟩
        rw [← q5, ← q6]
        rw [← q5] at hs2
        have hlx := ChangesL_len (l := l) tel one two (by omega)
        have hkk := hk1.trans hk2
        simp -implicitDefEqProofs (maxSteps := 2000000) (disch := first | omega | (simp only [nx_new, nx_set, List.length_cons, List.length_nil, List.length_map, List.length_set, ne_eq, not_true_eq_false, not_false_eq_true, Nat.succ_ne_zero]; done) | (simp only [nx_new, nx_set, List.length_cons, List.length_nil, List.length_map, List.length_set, ne_eq, not_true_eq_false, not_false_eq_true, Nat.succ_ne_zero]; omega)) only [go_sem, reduceIte, reduceCtorEq, Nat.succ_ne_zero, not_false_eq_true, decide_true, decide_false, Nat.reduceAdd, Nat.reduceMul, Nat.reduceEqDiff, Nat.reduceLeDiff, hkk.ld, beq_self_eq_true]
        refine ACalls.use_eq (spans_spec _ _ _ _ _ (by omega) (by omega) (hs1.grows hk2.grows) hs2) ?_
        rw [decide_eq_true rfl]
        simp -implicitDefEqProofs (maxSteps := 2000000) (disch := first | omega | (simp only [nx_new, nx_set, List.length_cons, List.length_nil, List.length_map, List.length_set, ne_eq, not_true_eq_false, not_false_eq_true, Nat.succ_ne_zero]; done) | (simp only [nx_new, nx_set, List.length_cons, List.length_nil, List.length_map, List.length_set, ne_eq, not_true_eq_false, not_false_eq_true, Nat.succ_ne_zero]; omega)) only [go_sem, reduceIte, reduceCtorEq, Nat.succ_ne_zero, not_false_eq_true, decide_true, decide_false, Nat.reduceAdd, Nat.reduceMul, Nat.reduceEqDiff, Nat.reduceLeDiff, beq_self_eq_true]
        exact ret_r (v := .bool true) (by rw [ares_tmp ret6]; rfl) rfl
end Go.Proofs.Ytalijeodmmlfjaa
