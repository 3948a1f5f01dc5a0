/- defect.Changes. -/
import Derived.Test.YtalijeodmmlfjaaWs
import Derived.Test.YtalijeodmmlfjaaWd
set_option linter.unusedVariables false
set_option linter.unusedSimpArgs false
set_option linter.unusedSectionVars false
namespace Go.Proofs.Ytalijeodmmlfjaa
open Go.Abs
set_option maxHeartbeats 8000000
set_option maxRecDepth 100000

def bordB (l : List D) : List Int := [0, 38400] ++ l.flatMap fun d => [d.frm, d.til + 1]
def bordL (l : List D) : List Int := sortedL (bordB l)
def stepL (l : List D) (tel one two : Int) (bs : List Int) (out : List (Int × Int)) (k : Nat) : List (Int × Int) :=
  if maskB l tel (bs.getD k 0) one = maskB l tel (bs.getD k 0) two then out else addL out (bs.getD k 0, bs.getD (k + 1) 0 - 1)
def scanL (l : List D) (tel one two : Int) (bs : List Int) (k : Nat) : List (Int × Int) := (List.range k).foldl (stepL l tel one two bs) []
def changesL (l : List D) (tel one two : Int) : List (Int × Int) := scanL l tel one two (bordL l) ((bordL l).length - 1)
def ChangesL (l : List D) (tel one two : Int) : List (Int × Int) := if argsB l tel one two then changesL l tel one two else []

theorem scanL_succ (l : List D) (tel one two : Int) (bs : List Int) (k : Nat) : scanL l tel one two bs (k + 1) = stepL l tel one two bs (scanL l tel one two bs k) k := by
  simp only [scanL, List.range_succ, List.foldl_append, List.foldl_cons, List.foldl_nil]
theorem addL_len (out : List (Int × Int)) (s : Int × Int) : (addL out s).length ≤ out.length + 1 := by
  rcases List.eq_nil_or_concat out with rfl | ⟨init, t, rfl⟩
  · simp [addL]
  · rw [List.concat_eq_append, addL_last]; split <;> simp
theorem addL_mem {out : List (Int × Int)} {s t : Int × Int} (h : t ∈ addL out s) : t ∈ out ∨ t.2 = s.2 := by
  rcases List.eq_nil_or_concat out with rfl | ⟨init, u, rfl⟩
  · simp [addL] at h; subst h; exact .inr rfl
  · rw [List.concat_eq_append] at h ⊢
    rw [addL_last] at h
    split at h
    · simp only [List.mem_append, List.mem_singleton] at h ⊢
      rcases h with h | rfl
      · exact .inl (.inl h)
      · exact .inr rfl
    · simp only [List.mem_append, List.mem_singleton] at h ⊢
      rcases h with h | rfl
      · exact .inl h
      · exact .inr rfl
theorem compact_mem {l : List Int} {x : Int} (h : x ∈ Lib.compact l) : x ∈ l := by
  simp only [Lib.compact, Lib.compactUpTo, List.mem_map, List.mem_filter, List.mem_range] at h
  obtain ⟨i, ⟨hi, _⟩, rfl⟩ := h
  rw [getElem!_pos _ i (by simpa using hi)]
  simp
theorem bordL_mem {l : List D} {x : Int} (h : x ∈ bordL l) : x ∈ bordB l := by
  have := compact_mem h
  exact (List.mem_mergeSort).1 this
theorem bordB_in {l : List D} (hl : ∀ d, d ∈ l → d.In) {x : Int} (h : x ∈ bordB l) : 0 ≤ x ∧ x ≤ 38400 := by
  simp only [bordB, List.cons_append, List.nil_append, List.mem_cons, List.mem_flatMap, List.not_mem_nil, or_false] at h
  rcases h with rfl | rfl | ⟨d, hd, rfl | rfl⟩
  · omega
  · omega
  · obtain ⟨_, _, _, _, _, _, _, _, _⟩ := hl d hd; omega
  · obtain ⟨_, _, _, _, _, _, _, _, _⟩ := hl d hd; omega
theorem bordL_in {l : List D} (hl : ∀ d, d ∈ l → d.In) (k : Nat) : 0 ≤ (bordL l).getD k 0 ∧ (bordL l).getD k 0 ≤ 38400 := by
  by_cases hk : k < (bordL l).length
  · rw [List.getD_eq_getElem?_getD, List.getElem?_eq_getElem hk]
    exact bordB_in hl (bordL_mem (List.getElem_mem hk))
  · rw [List.getD_eq_getElem?_getD, List.getElem?_eq_none (by omega)]
    simp
theorem bordB_len (l : List D) : (bordB l).length = 2 + 2 * l.length := by
  have : ∀ l : List D, (l.flatMap fun d => [d.frm, d.til + 1]).length = 2 * l.length := by
    intro l
    induction l with
    | nil => rfl
    | cons d l ih => simp only [List.flatMap_cons, List.length_append, ih, List.length_cons, List.length_nil]; omega
  simp only [bordB, List.length_append, this, List.length_cons, List.length_nil]
theorem bordL_len (l : List D) : (bordL l).length ≤ 2 + 2 * l.length := by
  have := compact_le ((bordB l).mergeSort fun x y => decide (x ≤ y))
  rw [List.length_mergeSort, bordB_len] at this
  exact this
theorem compact_pos {l : List Int} (h : l ≠ []) : 0 < (Lib.compact l).length := by
  simp only [Lib.compact, Lib.compactUpTo, List.length_map]
  apply List.length_pos_of_mem (a := 0)
  simp only [List.mem_filter, List.mem_range]
  exact ⟨List.length_pos_iff.2 h, Lib.keeps_lt_one _ _ (by omega)⟩
theorem bordL_pos (l : List D) : 0 < (bordL l).length := compact_pos (by
  intro h
  have := congrArg List.length h
  rw [List.length_mergeSort, bordB_len] at this
  simp at this)
theorem scanL_facts {l : List D} (hl : ∀ d, d ∈ l → d.In) (tel one two : Int) (k : Nat) : (scanL l tel one two (bordL l) k).length ≤ k ∧ ∀ t, t ∈ scanL l tel one two (bordL l) k → -1 ≤ t.2 ∧ t.2 ≤ 40000 := by
  induction k with
  | zero => exact ⟨Nat.le_refl _, fun t h => by simp [scanL] at h⟩
  | succ k ih =>
    rw [scanL_succ]
    unfold stepL
    split
    · exact ⟨by omega, ih.2⟩
    · refine ⟨Nat.le_trans (addL_len _ _) (by omega), fun t h => ?_⟩
      rcases addL_mem h with h | h
      · exact ih.2 t h
      · rw [h]; have := bordL_in hl (k + 1); simp only; omega
theorem bordB_take {l : List D} {k : Nat} (hk : k < l.length) : bordB (l.take (k + 1)) = bordB (l.take k) ++ [l[k].frm, l[k].til + 1] := by
  simp only [bordB, List.take_succ_eq_append_getElem hk, List.flatMap_append, List.flatMap_cons, List.flatMap_nil, List.append_nil, List.append_assoc]

theorem aslice_hi {P : Program} {H : Hp} {t e : TypeId} {s : Nat} (u : P.underlying t = some (.slice e)) (hs : tsz P e = some s) {b o n c : Nat} {k : IntKind} {i : Int} (h0 : 0 ≤ i) (h1 : i ≤ n) (hc : cutOk H b s = true) :
    aslice P H t (.slice (some ⟨b, o, none⟩) n c) none (some (.int k i)) none = some (.slice (some ⟨b, o, none⟩) i.toNat i.toNat) := by
  simp only [aslice, u, hs, bnd, h0, h1, and_self, if_true, Option.bind_some, hc, Option.isSome_none, Nat.zero_mul, Nat.add_zero, Nat.sub_zero, Bool.false_eq_true, if_false]

theorem n13 : Try.f13.ntmps = 86 := rfl
theorem ret13 : Try.f13.results = #[.tmp 8, .tmp 9] := rfl
theorem Changes_spec (H : Hp) (a : Option Addr) (l : List D) (tel one two : Int) (hl : l.length ≤ 9223372036854775806) (he : Elems H a 5 (l.map D.cells)) :
    ACalls Try.prog 13 [.slice a l.length l.length, .int .i64 tel, .int .i64 one, .int .i64 two] H
      (fun v H' => ∃ o, v = .tuple #[.slice o (ChangesL l tel one two).length (ChangesL l tel one two).length, .int .i64 (errB l tel one two)] ∧ Keeps H H' ∧ Elems H' o 2 ((ChangesL l tel one two).map spc)) := by
  refine ACalls_enter Try.func13 (by kernel_rfl) rfl (by kernel_rfl) (by simp [n13]) fun hw hr => AWP_of_awp ?_
  simp -implicitDefEqProofs (maxSteps := 2000000) (disch := first | omega | (simp only [nx_new, nx_set, List.length_cons, List.length_nil, List.length_map, List.length_set, ne_eq, not_true_eq_false, not_false_eq_true, Nat.succ_ne_zero]; done) | (simp only [nx_new, nx_set, List.length_cons, List.length_nil, List.length_map, List.length_set, ne_eq, not_true_eq_false, not_false_eq_true, Nat.succ_ne_zero]; omega)) only [go_sem, reduceIte, reduceCtorEq, Nat.succ_ne_zero, not_false_eq_true, decide_true, decide_false, Nat.reduceAdd, Nat.reduceMul, Nat.reduceEqDiff, Nat.reduceLeDiff]
  refine ACalls.use_eq (valid_spec _ a l hl he) ?_
  simp -implicitDefEqProofs (maxSteps := 2000000) (disch := first | omega | (simp only [nx_new, nx_set, List.length_cons, List.length_nil, List.length_map, List.length_set, ne_eq, not_true_eq_false, not_false_eq_true, Nat.succ_ne_zero]; done) | (simp only [nx_new, nx_set, List.length_cons, List.length_nil, List.length_map, List.length_set, ne_eq, not_true_eq_false, not_false_eq_true, Nat.succ_ne_zero]; omega)) only [go_sem, reduceIte, reduceCtorEq, Nat.succ_ne_zero, not_false_eq_true, decide_true, decide_false, Nat.reduceAdd, Nat.reduceMul, Nat.reduceEqDiff, Nat.reduceLeDiff]
  refine guardS_split (fun hc => ?_) (fun hc => ?_)
  · have hb : argsB l tel one two = false := by simp only [Bool.not_eq_true'] at hc; simp [argsB, hc]
    simp -implicitDefEqProofs (maxSteps := 2000000) (disch := first | omega | (simp only [nx_new, nx_set, List.length_cons, List.length_nil, List.length_map, List.length_set, ne_eq, not_true_eq_false, not_false_eq_true, Nat.succ_ne_zero]; done) | (simp only [nx_new, nx_set, List.length_cons, List.length_nil, List.length_map, List.length_set, ne_eq, not_true_eq_false, not_false_eq_true, Nat.succ_ne_zero]; omega)) only [go_sem, reduceIte, reduceCtorEq, Nat.succ_ne_zero, not_false_eq_true, decide_true, decide_false, Nat.reduceAdd, Nat.reduceMul, Nat.reduceEqDiff, Nat.reduceLeDiff, hc]
    refine ret_r (v := .tuple #[.slice none 0 0, .int .i64 1]) (by rw [ares_tmp_tmp ret13]; rfl) ⟨none, ?_, Keeps.refl _, ?_⟩
    · simp only [ChangesL, errB, hb]; rfl
    · simp only [ChangesL, hb]; exact Elems.nil
  · simp -implicitDefEqProofs (maxSteps := 2000000) (disch := first | omega | (simp only [nx_new, nx_set, List.length_cons, List.length_nil, List.length_map, List.length_set, ne_eq, not_true_eq_false, not_false_eq_true, Nat.succ_ne_zero]; done) | (simp only [nx_new, nx_set, List.length_cons, List.length_nil, List.length_map, List.length_set, ne_eq, not_true_eq_false, not_false_eq_true, Nat.succ_ne_zero]; omega)) only [go_sem, reduceIte, reduceCtorEq, Nat.succ_ne_zero, not_false_eq_true, decide_true, decide_false, Nat.reduceAdd, Nat.reduceMul, Nat.reduceEqDiff, Nat.reduceLeDiff, hc]
    refine ACalls.use_eq (in1 (by first | rfl | omega)) ?_
    simp -implicitDefEqProofs (maxSteps := 2000000) (disch := first | omega | (simp only [nx_new, nx_set, List.length_cons, List.length_nil, List.length_map, List.length_set, ne_eq, not_true_eq_false, not_false_eq_true, Nat.succ_ne_zero]; done) | (simp only [nx_new, nx_set, List.length_cons, List.length_nil, List.length_map, List.length_set, ne_eq, not_true_eq_false, not_false_eq_true, Nat.succ_ne_zero]; omega)) only [go_sem, reduceIte, reduceCtorEq, Nat.succ_ne_zero, not_false_eq_true, decide_true, decide_false, Nat.reduceAdd, Nat.reduceMul, Nat.reduceEqDiff, Nat.reduceLeDiff]
    refine guardS_split (fun hc2 => ?_) (fun hc2 => ?_)
    · have hb : argsB l tel one two = false := by simp only [Bool.not_eq_true'] at hc2; simp [argsB, hc2]
      simp -implicitDefEqProofs (maxSteps := 2000000) (disch := first | omega | (simp only [nx_new, nx_set, List.length_cons, List.length_nil, List.length_map, List.length_set, ne_eq, not_true_eq_false, not_false_eq_true, Nat.succ_ne_zero]; done) | (simp only [nx_new, nx_set, List.length_cons, List.length_nil, List.length_map, List.length_set, ne_eq, not_true_eq_false, not_false_eq_true, Nat.succ_ne_zero]; omega)) only [go_sem, reduceIte, reduceCtorEq, Nat.succ_ne_zero, not_false_eq_true, decide_true, decide_false, Nat.reduceAdd, Nat.reduceMul, Nat.reduceEqDiff, Nat.reduceLeDiff, hc2]
      refine ret_r (v := .tuple #[.slice none 0 0, .int .i64 1]) (by rw [ares_tmp_tmp ret13]; rfl) ⟨none, ?_, Keeps.new _ _, ?_⟩
      · simp only [ChangesL, errB, hb]; rfl
      · simp only [ChangesL, hb]; exact Elems.nil
    · simp -implicitDefEqProofs (maxSteps := 2000000) (disch := first | omega | (simp only [nx_new, nx_set, List.length_cons, List.length_nil, List.length_map, List.length_set, ne_eq, not_true_eq_false, not_false_eq_true, Nat.succ_ne_zero]; done) | (simp only [nx_new, nx_set, List.length_cons, List.length_nil, List.length_map, List.length_set, ne_eq, not_true_eq_false, not_false_eq_true, Nat.succ_ne_zero]; omega)) only [go_sem, reduceIte, reduceCtorEq, Nat.succ_ne_zero, not_false_eq_true, decide_true, decide_false, Nat.reduceAdd, Nat.reduceMul, Nat.reduceEqDiff, Nat.reduceLeDiff, hc2]
      refine ACalls.use_eq (in2 (by first | rfl | omega)) ?_
      simp -implicitDefEqProofs (maxSteps := 2000000) (disch := first | omega | (simp only [nx_new, nx_set, List.length_cons, List.length_nil, List.length_map, List.length_set, ne_eq, not_true_eq_false, not_false_eq_true, Nat.succ_ne_zero]; done) | (simp only [nx_new, nx_set, List.length_cons, List.length_nil, List.length_map, List.length_set, ne_eq, not_true_eq_false, not_false_eq_true, Nat.succ_ne_zero]; omega)) only [go_sem, reduceIte, reduceCtorEq, Nat.succ_ne_zero, not_false_eq_true, decide_true, decide_false, Nat.reduceAdd, Nat.reduceMul, Nat.reduceEqDiff, Nat.reduceLeDiff]
      refine condS_split (fun hc3 => ?_) (fun hc3 => ?_)
      · have hb : argsB l tel one two = false := by simp only [Bool.not_eq_true'] at hc3; simp [argsB, hc3]
        simp -implicitDefEqProofs (maxSteps := 2000000) (disch := first | omega | (simp only [nx_new, nx_set, List.length_cons, List.length_nil, List.length_map, List.length_set, ne_eq, not_true_eq_false, not_false_eq_true, Nat.succ_ne_zero]; done) | (simp only [nx_new, nx_set, List.length_cons, List.length_nil, List.length_map, List.length_set, ne_eq, not_true_eq_false, not_false_eq_true, Nat.succ_ne_zero]; omega)) only [go_sem, reduceIte, reduceCtorEq, Nat.succ_ne_zero, not_false_eq_true, decide_true, decide_false, Nat.reduceAdd, Nat.reduceMul, Nat.reduceEqDiff, Nat.reduceLeDiff, hc3]
        refine ret_r (v := .tuple #[.slice none 0 0, .int .i64 1]) (by rw [ares_tmp_tmp ret13]; rfl) ⟨none, ?_, (Keeps.new _ _).trans (Keeps.new _ _), ?_⟩
        · simp only [ChangesL, errB, hb]; rfl
        · simp only [ChangesL, hb]; exact Elems.nil
      · simp -implicitDefEqProofs (maxSteps := 2000000) (disch := first | omega | (simp only [nx_new, nx_set, List.length_cons, List.length_nil, List.length_map, List.length_set, ne_eq, not_true_eq_false, not_false_eq_true, Nat.succ_ne_zero]; done) | (simp only [nx_new, nx_set, List.length_cons, List.length_nil, List.length_map, List.length_set, ne_eq, not_true_eq_false, not_false_eq_true, Nat.succ_ne_zero]; omega)) only [go_sem, reduceIte, reduceCtorEq, Nat.succ_ne_zero, not_false_eq_true, decide_true, decide_false, Nat.reduceAdd, Nat.reduceMul, Nat.reduceEqDiff, Nat.reduceLeDiff, hc3]
        simp only [Bool.not_eq_false'] at hc hc2 hc3
        have hok : argsB l tel one two = true := by simp [argsB, hc, hc2, hc3]
        have hin := in_of hc
        have hlen : l.length ≤ 200 := by simp only [validB, Bool.and_eq_true, decide_eq_true_eq] at hc; exact hc.2
        have ev : errB l tel one two = 0 := by simp [errB, hok]
        have ec : ChangesL l tel one two = changesL l tel one two := by simp [ChangesL, hok]
        rw [ev, ec]
        refine AWP_loop (σ := Nat × Hp × Nat) (fun s => [(36, .int .i64 s.1), (35, .int .i64 l.length), (34, .slice a l.length l.length), (10, .slice (some ⟨s.2.2, 0, none⟩) (bordB (l.take s.1)).length (bordB (l.take s.1)).length), (0, .slice a l.length l.length), (1, .int .i64 tel), (2, .int .i64 one), (3, .int .i64 two)])
          (fun s => s.2.1) (fun s => s.1 ≤ l.length ∧ Keeps H s.2.1 ∧ H.next ≤ s.2.2 ∧ s.2.2 < s.2.1.next ∧ s.2.1.get s.2.2 = .row ((bordB (l.take s.1)).map (Value.int .i64)) true 1) (fun s => l.length - s.1) (0, _, H.next + 1 + 1) ⟨Nat.zero_le _, ((Keeps.new _ _).trans (Keeps.new _ _)).trans (Keeps.new _ _), by simp only; omega, by simp only [Hp.next_new]; omega, by simp -implicitDefEqProofs (maxSteps := 2000000) (disch := first | omega | (simp only [nx_new, nx_set, List.length_cons, List.length_nil, List.length_map, List.length_set, ne_eq, not_true_eq_false, not_false_eq_true, Nat.succ_ne_zero]; done) | (simp only [nx_new, nx_set, List.length_cons, List.length_nil, List.length_map, List.length_set, ne_eq, not_true_eq_false, not_false_eq_true, Nat.succ_ne_zero]; omega)) only [go_sem, reduceIte, reduceCtorEq, Nat.succ_ne_zero, not_false_eq_true, decide_true, decide_false, Nat.reduceAdd, Nat.reduceMul, Nat.reduceEqDiff, Nat.reduceLeDiff]; rfl⟩ (Weak.sub ?_) ?_
        · simp -implicitDefEqProofs (disch := omega) only [Abs.Sub, get_cons_eq, get_cons_ne, and_self, Int.natCast_zero, Int.natCast_add, Int.natCast_one]
          exact ⟨trivial, trivial, trivial, rfl, trivial⟩
        · rintro ⟨k, G, b⟩ ⟨hk, hkeep, hb1, hb2, hbg⟩
          simp only at hk hkeep hb1 hb2 hbg ⊢
          refine AWP_of_awp ?_
          have hbl := bordB_len (l.take k)
          rw [List.length_take, Nat.min_eq_left hk] at hbl
          by_cases hlt : k < l.length
          · obtain ⟨b0, o, rfl, hb, hload⟩ := (he.grows hkeep.grows) k (by simpa using hlt)
            simp only [List.getElem_map, D.cells] at hload
            have hd := hin _ (List.getElem_mem hlt)
            have hnext := bordB_take hlt
            have hbl2 := bordB_len (l.take (k + 1))
            rw [List.length_take, Nat.min_eq_left hlt] at hbl2
            generalize l[k] = d at *
            obtain ⟨hi1, hi2, hi3, hi4, hi5, hi6, hi7, hi8, hi9⟩ := hd
            simp -implicitDefEqProofs (maxSteps := 2000000) (disch := first | omega | (simp only [nx_new, nx_set, List.length_cons, List.length_nil, List.length_map, List.length_set, ne_eq, not_true_eq_false, not_false_eq_true, Nat.succ_ne_zero]; done) | (simp only [nx_new, nx_set, List.length_cons, List.length_nil, List.length_map, List.length_set, ne_eq, not_true_eq_false, not_false_eq_true, Nat.succ_ne_zero]; omega)) only [go_sem, reduceIte, reduceCtorEq, Nat.succ_ne_zero, not_false_eq_true, decide_true, decide_false, Nat.reduceAdd, Nat.reduceMul, Nat.reduceEqDiff, Nat.reduceLeDiff, hload]
            rw [append_row u45 u45 ts3 tb3 tz3 rfl (by decide) (by decide) (cs := (bordB (l.take k)).map (Value.int .i64)) (xs := [.int .i64 d.frm, .int .i64 (d.til + 1)]) (by simp -implicitDefEqProofs (maxSteps := 2000000) (disch := first | omega | (simp only [nx_new, nx_set, List.length_cons, List.length_nil, List.length_map, List.length_set, ne_eq, not_true_eq_false, not_false_eq_true, Nat.succ_ne_zero]; done) | (simp only [nx_new, nx_set, List.length_cons, List.length_nil, List.length_map, List.length_set, ne_eq, not_true_eq_false, not_false_eq_true, Nat.succ_ne_zero]; omega)) only [go_sem, reduceIte, reduceCtorEq, Nat.succ_ne_zero, not_false_eq_true, decide_true, decide_false, Nat.reduceAdd, Nat.reduceMul, Nat.reduceEqDiff, Nat.reduceLeDiff, hbg]) (by simp -implicitDefEqProofs (maxSteps := 2000000) (disch := first | omega | (simp only [nx_new, nx_set, List.length_cons, List.length_nil, List.length_map, List.length_set, ne_eq, not_true_eq_false, not_false_eq_true, Nat.succ_ne_zero]; done) | (simp only [nx_new, nx_set, List.length_cons, List.length_nil, List.length_map, List.length_set, ne_eq, not_true_eq_false, not_false_eq_true, Nat.succ_ne_zero]; omega)) only [go_sem, reduceIte, reduceCtorEq, Nat.succ_ne_zero, not_false_eq_true, decide_true, decide_false, Nat.reduceAdd, Nat.reduceMul, Nat.reduceEqDiff, Nat.reduceLeDiff]) rfl (by rw [List.length_map, Nat.mul_one]) (by omega)]
            simp -implicitDefEqProofs (maxSteps := 2000000) (disch := first | omega | (simp only [nx_new, nx_set, List.length_cons, List.length_nil, List.length_map, List.length_set, ne_eq, not_true_eq_false, not_false_eq_true, Nat.succ_ne_zero]; done) | (simp only [nx_new, nx_set, List.length_cons, List.length_nil, List.length_map, List.length_set, ne_eq, not_true_eq_false, not_false_eq_true, Nat.succ_ne_zero]; omega)) only [go_sem, reduceIte, reduceCtorEq, Nat.succ_ne_zero, not_false_eq_true, decide_true, decide_false, Nat.reduceAdd, Nat.reduceMul, Nat.reduceEqDiff, Nat.reduceLeDiff]
            refine ⟨(k + 1, _, G.next + 1 + 1), ⟨hlt, (((hkeep.set hb1).trans (Keeps.new _ _)).trans (Keeps.new _ _)).trans (Keeps.new _ _), ?_, ?_, ?_⟩, by simp only; omega, Weak.sub ?_⟩
            · have := hkeep.next; simp only; omega
            · simp only [Hp.next_new, Hp.next_set]; omega
            · rw [hnext, List.map_append]
              simp -implicitDefEqProofs (maxSteps := 2000000) (disch := first | omega | (simp only [nx_new, nx_set, List.length_cons, List.length_nil, List.length_map, List.length_set, ne_eq, not_true_eq_false, not_false_eq_true, Nat.succ_ne_zero]; done) | (simp only [nx_new, nx_set, List.length_cons, List.length_nil, List.length_map, List.length_set, ne_eq, not_true_eq_false, not_false_eq_true, Nat.succ_ne_zero]; omega)) only [go_sem, reduceIte, reduceCtorEq, Nat.succ_ne_zero, not_false_eq_true, decide_true, decide_false, Nat.reduceAdd, Nat.reduceMul, Nat.reduceEqDiff, Nat.reduceLeDiff]
            · have e2 : (bordB (l.take (k + 1))).length = (bordB (l.take k)).length + 2 := by omega
              simp only [e2]
              simp -implicitDefEqProofs (disch := omega) only [Abs.Sub, get_cons_eq, get_cons_ne, and_self, Int.natCast_zero, Int.natCast_add, Int.natCast_one]
          · have e : l.take k = l := List.take_of_length_le (by omega)
            rw [e] at hbl hbg ⊢
            have hbs := bordB_len l
            simp -implicitDefEqProofs (maxSteps := 2000000) (disch := first | omega | (simp only [nx_new, nx_set, List.length_cons, List.length_nil, List.length_map, List.length_set, ne_eq, not_true_eq_false, not_false_eq_true, Nat.succ_ne_zero]; done) | (simp only [nx_new, nx_set, List.length_cons, List.length_nil, List.length_map, List.length_set, ne_eq, not_true_eq_false, not_false_eq_true, Nat.succ_ne_zero]; omega)) only [go_sem, reduceIte, reduceCtorEq, Nat.succ_ne_zero, not_false_eq_true, decide_true, decide_false, Nat.reduceAdd, Nat.reduceMul, Nat.reduceEqDiff, Nat.reduceLeDiff]
            refine ACalls.use_eq (sorted_spec hbg (by omega) (by omega)) ?_
            have hbp : 0 < (sortedL (bordB l)).length := bordL_pos l
            have hble : (sortedL (bordB l)).length ≤ 2 + 2 * l.length := bordL_len l
            have hsf : ∀ t k, scanL l tel one two (sortedL (bordB l)) k = t → t.length ≤ k ∧ ∀ x, x ∈ t → -1 ≤ x.2 ∧ x.2 ≤ 40000 := fun t k h => h ▸ scanL_facts hin tel one two k
            have hbi : ∀ k, 0 ≤ (sortedL (bordB l)).getD k 0 ∧ (sortedL (bordB l)).getD k 0 ≤ 38400 := bordL_in hin
            have hch : changesL l tel one two = scanL l tel one two (sortedL (bordB l)) ((sortedL (bordB l)).length - 1) := rfl
            rw [hch]
            generalize sortedL (bordB l) = bs at *
            generalize hzs : List.replicate ((bordB l).length - bs.length) (0 : Int) = zs
            generalize hG1 : G.set b (.row ((bs ++ zs).map (Value.int .i64)) true 1) = G1
            have hg1 : G1.get b = .row ((bs ++ zs).map (Value.int .i64)) true 1 := by rw [← hG1]; exact Hp.get_set_same _ _ _ _ rfl
            have hn1 : G1.next = G.next := by rw [← hG1]; rfl
            have hk1 : Keeps H G1 := by rw [← hG1]; exact hkeep.set hb1
            simp -implicitDefEqProofs (maxSteps := 2000000) (disch := first | omega | (simp only [nx_new, nx_set, List.length_cons, List.length_nil, List.length_map, List.length_set, ne_eq, not_true_eq_false, not_false_eq_true, Nat.succ_ne_zero]; done) | (simp only [nx_new, nx_set, List.length_cons, List.length_nil, List.length_map, List.length_set, ne_eq, not_true_eq_false, not_false_eq_true, Nat.succ_ne_zero]; omega)) only [go_sem, reduceIte, reduceCtorEq, Nat.succ_ne_zero, not_false_eq_true, decide_true, decide_false, Nat.reduceAdd, Nat.reduceMul, Nat.reduceEqDiff, Nat.reduceLeDiff]
            rw [aslice_hi u45 ts3 (by omega) (by omega) (by simp only [cutOk]; simp -implicitDefEqProofs (maxSteps := 2000000) (disch := first | omega | (simp only [nx_new, nx_set, List.length_cons, List.length_nil, List.length_map, List.length_set, ne_eq, not_true_eq_false, not_false_eq_true, Nat.succ_ne_zero]; done) | (simp only [nx_new, nx_set, List.length_cons, List.length_nil, List.length_map, List.length_set, ne_eq, not_true_eq_false, not_false_eq_true, Nat.succ_ne_zero]; omega)) only [go_sem, reduceIte, reduceCtorEq, Nat.succ_ne_zero, not_false_eq_true, decide_true, decide_false, Nat.reduceAdd, Nat.reduceMul, Nat.reduceEqDiff, Nat.reduceLeDiff, hg1]; rfl)]
            have hN : ((bs.length : Int) - 1).toNat = bs.length - 1 := by omega
            simp -implicitDefEqProofs (maxSteps := 2000000) (disch := first | omega | (simp only [nx_new, nx_set, List.length_cons, List.length_nil, List.length_map, List.length_set, ne_eq, not_true_eq_false, not_false_eq_true, Nat.succ_ne_zero]; done) | (simp only [nx_new, nx_set, List.length_cons, List.length_nil, List.length_map, List.length_set, ne_eq, not_true_eq_false, not_false_eq_true, Nat.succ_ne_zero]; omega)) only [go_sem, reduceIte, reduceCtorEq, Nat.succ_ne_zero, not_false_eq_true, decide_true, decide_false, Nat.reduceAdd, Nat.reduceMul, Nat.reduceEqDiff, Nat.reduceLeDiff, hN]
            refine AWP_loop (σ := Nat × Hp) (fun s => [(58, .int .i64 s.1), (57, .int .i64 (bs.length - 1 : Nat)), (56, .slice (some ⟨b, 0, none⟩) (bs.length - 1) (bs.length - 1)), (14, .func (.func 25) #[] #[.pointer (some ⟨G1.next, 0, none⟩)]), (13, .pointer (some ⟨G1.next, 0, none⟩)), (10, .slice (some ⟨b, 0, none⟩) bs.length bs.length), (0, .slice a l.length l.length), (1, .int .i64 tel), (2, .int .i64 one), (3, .int .i64 two)])
              (fun s => s.2) (fun s => s.1 ≤ bs.length - 1 ∧ OutAt s.2 G1.next (scanL l tel one two bs s.1) ∧ ∀ x, x < G1.next → s.2.get x = G1.get x) (fun s => bs.length - 1 - s.1) (0, _) ⟨Nat.zero_le _, ⟨?_, none, ?_, .inl ⟨rfl, rfl⟩⟩, ?_⟩ (Weak.sub ?_) ?_
            rotate_left 3
            · simp -implicitDefEqProofs (disch := omega) only [Abs.Sub, get_cons_eq, get_cons_ne, and_self, Int.natCast_zero, Int.natCast_add, Int.natCast_one]
            · rintro ⟨k, G2⟩ ⟨hk, hout, hold⟩
              simp only at hk hout hold ⊢
              refine AWP_of_awp ?_
              have hp2 : G1.next < G2.next := hout.1
              have hk2 : Keeps H G2 := ⟨by have := hk1.next; omega, fun x hx => (hold x (by have := hk1.next; omega)).trans (hk1.get x hx)⟩
              by_cases hlt : k < bs.length - 1
              · have hgb : G2.get b = .row ((bs ++ zs).map (Value.int .i64)) true 1 := (hold b (by omega)).trans hg1
                have hld : ∀ j, j < bs.length → load1 G2 ⟨b, j, none⟩ = some (.int .i64 (bs.getD j 0)) := fun j hj => by
                  rw [l1_row _ _ _ _ _ hgb, List.getElem?_map, List.getElem?_append_left hj, List.getElem?_eq_getElem hj, List.getD_eq_getElem?_getD, List.getElem?_eq_getElem hj]
                  rfl
                have hl1 := hld k (by omega)
                have hl2 := hld (k + 1) (by omega)
                have hm := hbi k
                have hm2 := hbi (k + 1)
                have hstep := scanL_succ l tel one two bs k
                unfold stepL at hstep
                have hsk := hsf _ k rfl
                generalize bs.getD k 0 = m at *
                generalize bs.getD (k + 1) 0 = m2 at *
                generalize scanL l tel one two bs k = out at *
                simp -implicitDefEqProofs (maxSteps := 2000000) (disch := first | omega | (simp only [nx_new, nx_set, List.length_cons, List.length_nil, List.length_map, List.length_set, ne_eq, not_true_eq_false, not_false_eq_true, Nat.succ_ne_zero]; done) | (simp only [nx_new, nx_set, List.length_cons, List.length_nil, List.length_map, List.length_set, ne_eq, not_true_eq_false, not_false_eq_true, Nat.succ_ne_zero]; omega)) only [go_sem, reduceIte, reduceCtorEq, Nat.succ_ne_zero, not_false_eq_true, decide_true, decide_false, Nat.reduceAdd, Nat.reduceMul, Nat.reduceEqDiff, Nat.reduceLeDiff, hl1]
                refine ACalls.use_eq (mask_spec _ _ l tel m one (by omega) (he.grows hk2.grows) hin hm.1 hm.2) ?_
                simp -implicitDefEqProofs (maxSteps := 2000000) (disch := first | omega | (simp only [nx_new, nx_set, List.length_cons, List.length_nil, List.length_map, List.length_set, ne_eq, not_true_eq_false, not_false_eq_true, Nat.succ_ne_zero]; done) | (simp only [nx_new, nx_set, List.length_cons, List.length_nil, List.length_map, List.length_set, ne_eq, not_true_eq_false, not_false_eq_true, Nat.succ_ne_zero]; omega)) only [go_sem, reduceIte, reduceCtorEq, Nat.succ_ne_zero, not_false_eq_true, decide_true, decide_false, Nat.reduceAdd, Nat.reduceMul, Nat.reduceEqDiff, Nat.reduceLeDiff]
                refine ACalls.use_eq (mask_spec _ _ l tel m two (by omega) (he.grows hk2.grows) hin hm.1 hm.2) ?_
                obtain ⟨x1, y1, z1, u1, e1⟩ := vb4 _ (maskB_length l tel m one)
                obtain ⟨x2, y2, z2, u2, e2⟩ := vb4 _ (maskB_length l tel m two)
                simp only [vb, e1, e2, List.map_cons, List.map_nil] at hstep ⊢
                simp -implicitDefEqProofs (maxSteps := 2000000) (disch := first | omega | (simp only [nx_new, nx_set, List.length_cons, List.length_nil, List.length_map, List.length_set, ne_eq, not_true_eq_false, not_false_eq_true, Nat.succ_ne_zero]; done) | (simp only [nx_new, nx_set, List.length_cons, List.length_nil, List.length_map, List.length_set, ne_eq, not_true_eq_false, not_false_eq_true, Nat.succ_ne_zero]; omega)) only [go_sem, reduceIte, reduceCtorEq, Nat.succ_ne_zero, not_false_eq_true, decide_true, decide_false, Nat.reduceAdd, Nat.reduceMul, Nat.reduceEqDiff, Nat.reduceLeDiff]
                have hk1' : ((k : Int) + 1).toNat = k + 1 := by omega
                refine condS_split (fun hd => ?_) (fun hd => ?_)
                · have hne : ¬([x1, y1, z1, u1] = [x2, y2, z2, u2]) := fun h => by
                    cases h
                    simp at hd
                  rw [if_neg hne] at hstep
                  simp -implicitDefEqProofs (maxSteps := 2000000) (disch := first | omega | (simp only [nx_new, nx_set, List.length_cons, List.length_nil, List.length_map, List.length_set, ne_eq, not_true_eq_false, not_false_eq_true, Nat.succ_ne_zero]; done) | (simp only [nx_new, nx_set, List.length_cons, List.length_nil, List.length_map, List.length_set, ne_eq, not_true_eq_false, not_false_eq_true, Nat.succ_ne_zero]; omega)) only [go_sem, reduceIte, reduceCtorEq, Nat.succ_ne_zero, not_false_eq_true, decide_true, decide_false, Nat.reduceAdd, Nat.reduceMul, Nat.reduceEqDiff, Nat.reduceLeDiff, hd, hl2, hk1']
                  refine (add_spec (m, m2 - 1) hout hsk.2 (by omega)).mono ?_
                  rintro _ G3 ⟨rfl, h1, h2, h3⟩
                  simp -implicitDefEqProofs (maxSteps := 2000000) (disch := first | omega | (simp only [nx_new, nx_set, List.length_cons, List.length_nil, List.length_map, List.length_set, ne_eq, not_true_eq_false, not_false_eq_true, Nat.succ_ne_zero]; done) | (simp only [nx_new, nx_set, List.length_cons, List.length_nil, List.length_map, List.length_set, ne_eq, not_true_eq_false, not_false_eq_true, Nat.succ_ne_zero]; omega)) only [go_sem, reduceIte, reduceCtorEq, Nat.succ_ne_zero, not_false_eq_true, decide_true, decide_false, Nat.reduceAdd, Nat.reduceMul, Nat.reduceEqDiff, Nat.reduceLeDiff]
                  refine ⟨(k + 1, G3), ⟨by simp only; omega, by simp only; rw [hstep]; exact h1, fun x hx => (h3 x hx).trans (hold x hx)⟩, by simp only; omega, Weak.sub ?_⟩
                  simp -implicitDefEqProofs (disch := omega) only [Abs.Sub, get_cons_eq, get_cons_ne, and_self, Int.natCast_zero, Int.natCast_add, Int.natCast_one]
                · have heq : [x1, y1, z1, u1] = [x2, y2, z2, u2] := by
                    simp only [Bool.not_eq_false', Bool.and_eq_true, beq_iff_eq] at hd
                    rw [hd.1, hd.2.1, hd.2.2.1, hd.2.2.2]
                  rw [if_pos heq] at hstep
                  simp -implicitDefEqProofs (maxSteps := 2000000) (disch := first | omega | (simp only [nx_new, nx_set, List.length_cons, List.length_nil, List.length_map, List.length_set, ne_eq, not_true_eq_false, not_false_eq_true, Nat.succ_ne_zero]; done) | (simp only [nx_new, nx_set, List.length_cons, List.length_nil, List.length_map, List.length_set, ne_eq, not_true_eq_false, not_false_eq_true, Nat.succ_ne_zero]; omega)) only [go_sem, reduceIte, reduceCtorEq, Nat.succ_ne_zero, not_false_eq_true, decide_true, decide_false, Nat.reduceAdd, Nat.reduceMul, Nat.reduceEqDiff, Nat.reduceLeDiff, hd]
                  refine ⟨(k + 1, G2), ⟨by simp only; omega, by simp only; rw [hstep]; exact hout, hold⟩, by simp only; omega, Weak.sub ?_⟩
                  simp -implicitDefEqProofs (disch := omega) only [Abs.Sub, get_cons_eq, get_cons_ne, and_self, Int.natCast_zero, Int.natCast_add, Int.natCast_one]
              · have hkk : k = bs.length - 1 := by omega
                subst hkk
                obtain ⟨hp3, a2, hga, hor⟩ := hout
                have hla : load1 G2 ⟨G1.next, 0, none⟩ = some (.slice a2 (scanL l tel one two bs (bs.length - 1)).length (scanL l tel one two bs (bs.length - 1)).length) := (l1_row _ _ _ _ _ hga).trans rfl
                simp -implicitDefEqProofs (maxSteps := 2000000) (disch := first | omega | (simp only [nx_new, nx_set, List.length_cons, List.length_nil, List.length_map, List.length_set, ne_eq, not_true_eq_false, not_false_eq_true, Nat.succ_ne_zero]; done) | (simp only [nx_new, nx_set, List.length_cons, List.length_nil, List.length_map, List.length_set, ne_eq, not_true_eq_false, not_false_eq_true, Nat.succ_ne_zero]; omega)) only [go_sem, reduceIte, reduceCtorEq, Nat.succ_ne_zero, not_false_eq_true, decide_true, decide_false, Nat.reduceAdd, Nat.reduceMul, Nat.reduceEqDiff, Nat.reduceLeDiff, hla]
                refine ret_r (v := .tuple #[.slice a2 (scanL l tel one two bs (bs.length - 1)).length (scanL l tel one two bs (bs.length - 1)).length, .int .i64 0]) (by rw [ares_tmp_tmp ret13]; rfl) ⟨a2, rfl, hk2, ?_⟩
                rcases hor with ⟨rfl, h0⟩ | ⟨q, _, rfl, _, hq1, hq2⟩
                · rw [h0]; exact Elems.nil
                · exact Elems.row hq1 hq2 (spc_len _)
            · exact Nat.lt_succ_self _
            · exact Hp.get_new_same _ _ _ rfl
            · exact fun x hx => Hp.get_new_ne _ _ _ (by omega)
end Go.Proofs.Ytalijeodmmlfjaa
