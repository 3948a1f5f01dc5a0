/- DefectMasks. -/
import Derived.Test.YtalijeodmmlfjaaWf
set_option linter.unusedVariables false
set_option linter.unusedSimpArgs false
set_option linter.unusedSectionVars false
namespace Go.Proofs.Ytalijeodmmlfjaa
open Go.Abs
set_option maxHeartbeats 8000000
set_option maxRecDepth 100000

theorem foldl_mark_get (tel valid known : Int) (i : Nat) : ∀ (l : List D) (m : List Bool), i < m.length → (l.foldl (markB tel valid known) m)[i]? = some ((m[i]?).getD false || l.any fun d => d.force tel valid known && d.cell.toNat == i)
  | [], m, h => by simp [h]
  | d :: l, m, h => by
    rw [List.foldl_cons, foldl_mark_get tel valid known i l _ (by rw [markB_length]; exact h)]
    simp only [List.any_cons, Option.some.injEq]
    rw [← Bool.or_assoc]
    congr 1
    unfold markB
    split
    · rename_i hf
      rw [hf, Bool.true_and, List.getElem?_set]
      by_cases hi : d.cell.toNat = i
      · subst hi; simp [h]
      · simp [hi]
    · rename_i hf
      simp [hf]
theorem maskB_get (l : List D) (tel valid known : Int) {i : Nat} (hi : i < 4) : (maskB l tel valid known)[i]? = some (l.any fun d => d.force tel valid known && d.cell.toNat == i) := by
  have : ([false, false, false, false] : List Bool)[i]? = some false := by
    match i, hi with
    | 0, _ => rfl
    | 1, _ => rfl
    | 2, _ => rfl
    | 3, _ => rfl
  unfold maskB
  rw [foldl_mark_get _ _ _ _ _ _ hi, this]
  simp
theorem force_eq (tel valid known : Int) (d : D) : d.force tel valid known = (d.tel == tel && decide (d.frm ≤ valid) && decide (valid ≤ d.til) && decide (d.known ≤ known)) := by
  have : inB (d.til - d.frm) [valid - d.frm] = (decide (d.frm ≤ valid) && decide (valid ≤ d.til)) := by
    simp only [inB, List.all_cons, List.all_nil, Bool.and_true]
    congr 1
    · exact decide_eq_decide.2 (by omega)
    · exact decide_eq_decide.2 (by omega)
  rw [D.force, this]; simp only [Bool.and_assoc]
theorem force_mono {tel valid known known' : Int} (h : known ≤ known') {d : D} (hd : d.force tel valid known = true) : d.force tel valid known' = true := by
  rw [force_eq] at hd ⊢
  simp only [Bool.and_eq_true, decide_eq_true_eq] at hd ⊢
  exact ⟨hd.1, by omega⟩
theorem maskB_mono {l : List D} {tel valid known known' : Int} (h : known ≤ known') {i : Nat} (hi : i < 4) (hm : (maskB l tel valid known)[i]? = some true) : (maskB l tel valid known')[i]? = some true := by
  rw [maskB_get _ _ _ _ hi] at hm ⊢
  simp only [Option.some.injEq, List.any_eq_true, Bool.and_eq_true] at hm ⊢
  obtain ⟨d, h1, h2, h3⟩ := hm
  exact ⟨d, h1, force_mono h h2, h3⟩
theorem argsB_later {l : List D} {tel valid known later : Int} (h : argsB l tel valid known = true) : argsB l tel valid (max known later) = true ∨ (argsB l tel valid (max known later) = false ∧ 38399 < later) := by
  simp only [argsB, Bool.and_eq_true, inB, List.all_cons, List.all_nil, Bool.and_true, decide_eq_true_eq] at h
  by_cases hl : later ≤ 38399
  · left
    simp only [argsB, Bool.and_eq_true, inB, List.all_cons, List.all_nil, Bool.and_true, decide_eq_true_eq]
    exact ⟨⟨h.1.1, h.1.2⟩, h.2.1, by omega⟩
  · right
    refine ⟨?_, by omega⟩
    simp only [argsB, inB, List.all_cons, List.all_nil, Bool.and_true]
    rw [show decide (max known later ≤ 38399) = false from decide_eq_false (by omega)]
    simp

theorem MaskB_length (l : List D) (tel valid known : Int) : (MaskB l tel valid known).length = 4 := by
  unfold MaskB; split
  · exact maskB_length _ _ _ _
  · rfl
theorem maskV_of {l : List D} {tel valid known : Int} {x y z u : Bool} (e : MaskB l tel valid known = [x, y, z, u]) : maskV l tel valid known = .tuple #[.agg #[.bool x, .bool y, .bool z, .bool u], .int .i64 (errB l tel valid known)] := by
  rw [maskV, e]; rfl
theorem n4 : Try.f4.ntmps = 133 := rfl
theorem ret4 : Try.f4.results = #[.tmp 10] := rfl
theorem masks_spec (H : Hp) (a : Option Addr) (l : List D) (tel valid known later : Int) (he : Elems H a 5 (l.map D.cells)) :
    ACalls Try.prog 4 [.slice a l.length l.length, .int .i64 tel, .int .i64 valid, .int .i64 known, .int .i64 later] H (fun v H' => v = .bool true) := by
  refine ACalls_enter Try.func4 (by kernel_rfl) rfl (by kernel_rfl) (by simp [n4]) fun hw hr => AWP_of_awp ?_
  simp -implicitDefEqProofs (maxSteps := 2000000) (disch := first | omega | (simp only [nx_new, nx_set, List.length_cons, List.length_nil, List.length_map, List.length_set, ne_eq, not_true_eq_false, not_false_eq_true, Nat.succ_ne_zero]; done) | (simp only [nx_new, nx_set, List.length_cons, List.length_nil, List.length_map, List.length_set, ne_eq, not_true_eq_false, not_false_eq_true, Nat.succ_ne_zero]; omega)) only [go_sem, reduceIte, reduceCtorEq, Nat.succ_ne_zero, not_false_eq_true, decide_true, decide_false, Nat.reduceAdd, Nat.reduceMul, Nat.reduceEqDiff, Nat.reduceLeDiff]
  refine ACalls.use_eq (head_spec H) ?_
  simp -implicitDefEqProofs (maxSteps := 2000000) (disch := first | omega | (simp only [nx_new, nx_set, List.length_cons, List.length_nil, List.length_map, List.length_set, ne_eq, not_true_eq_false, not_false_eq_true, Nat.succ_ne_zero]; done) | (simp only [nx_new, nx_set, List.length_cons, List.length_nil, List.length_map, List.length_set, ne_eq, not_true_eq_false, not_false_eq_true, Nat.succ_ne_zero]; omega)) only [go_sem, reduceIte, reduceCtorEq, Nat.succ_ne_zero, not_false_eq_true, decide_true, decide_false, Nat.reduceAdd, Nat.reduceMul, Nat.reduceEqDiff, Nat.reduceLeDiff]
  refine condS_split (fun hc => ?_) (fun hc => ?_)
  · simp -implicitDefEqProofs (maxSteps := 2000000) (disch := first | omega | (simp only [nx_new, nx_set, List.length_cons, List.length_nil, List.length_map, List.length_set, ne_eq, not_true_eq_false, not_false_eq_true, Nat.succ_ne_zero]; done) | (simp only [nx_new, nx_set, List.length_cons, List.length_nil, List.length_map, List.length_set, ne_eq, not_true_eq_false, not_false_eq_true, Nat.succ_ne_zero]; omega)) only [go_sem, reduceIte, reduceCtorEq, Nat.succ_ne_zero, not_false_eq_true, decide_true, decide_false, Nat.reduceAdd, Nat.reduceMul, Nat.reduceEqDiff, Nat.reduceLeDiff, hc]
    exact ret_r (v := .bool true) (by rw [ares_tmp ret4]; rfl) rfl
  · have hlen : l.length ≤ 20 := by have := of_decide_eq_false hc; omega
    have hl : l.length ≤ 9223372036854775806 := by omega
    simp -implicitDefEqProofs (maxSteps := 2000000) (disch := first | omega | (simp only [nx_new, nx_set, List.length_cons, List.length_nil, List.length_map, List.length_set, ne_eq, not_true_eq_false, not_false_eq_true, Nat.succ_ne_zero]; done) | (simp only [nx_new, nx_set, List.length_cons, List.length_nil, List.length_map, List.length_set, ne_eq, not_true_eq_false, not_false_eq_true, Nat.succ_ne_zero]; omega)) only [go_sem, reduceIte, reduceCtorEq, Nat.succ_ne_zero, not_false_eq_true, decide_true, decide_false, Nat.reduceAdd, Nat.reduceMul, Nat.reduceEqDiff, Nat.reduceLeDiff, hc]
    refine ACalls.use_eq (Mask_spec _ _ l tel valid known hl he) ?_
    obtain ⟨x1, y1, z1, u1, e1⟩ := vb4 _ (MaskB_length l tel valid known)
    rw [maskV_of e1]
    simp -implicitDefEqProofs (maxSteps := 2000000) (disch := first | omega | (simp only [nx_new, nx_set, List.length_cons, List.length_nil, List.length_map, List.length_set, ne_eq, not_true_eq_false, not_false_eq_true, Nat.succ_ne_zero]; done) | (simp only [nx_new, nx_set, List.length_cons, List.length_nil, List.length_map, List.length_set, ne_eq, not_true_eq_false, not_false_eq_true, Nat.succ_ne_zero]; omega)) only [go_sem, reduceIte, reduceCtorEq, Nat.succ_ne_zero, not_false_eq_true, decide_true, decide_false, Nat.reduceAdd, Nat.reduceMul, Nat.reduceEqDiff, Nat.reduceLeDiff]
    refine ACalls.use_eq (Mask_spec _ _ l tel valid (max known later) hl (he.grows (Grows.new _ _))) ?_
    obtain ⟨x2, y2, z2, u2, e2⟩ := vb4 _ (MaskB_length l tel valid (max known later))
    rw [maskV_of e2]
    simp -implicitDefEqProofs (maxSteps := 2000000) (disch := first | omega | (simp only [nx_new, nx_set, List.length_cons, List.length_nil, List.length_map, List.length_set, ne_eq, not_true_eq_false, not_false_eq_true, Nat.succ_ne_zero]; done) | (simp only [nx_new, nx_set, List.length_cons, List.length_nil, List.length_map, List.length_set, ne_eq, not_true_eq_false, not_false_eq_true, Nat.succ_ne_zero]; omega)) only [go_sem, reduceIte, reduceCtorEq, Nat.succ_ne_zero, not_false_eq_true, decide_true, decide_false, Nat.reduceAdd, Nat.reduceMul, Nat.reduceEqDiff, Nat.reduceLeDiff]
    by_cases hok : argsB l tel valid known = true
    · have hv := hok
      simp only [argsB, Bool.and_eq_true] at hv
      have hin := in_of hv.1.1
      have hm : maskB l tel valid known = [x1, y1, z1, u1] := by rw [← e1, MaskB, if_pos hok]
      have h0 : errB l tel valid known = 0 := by simp [errB, hok]
      rw [h0]
      simp -implicitDefEqProofs (maxSteps := 2000000) (disch := first | omega | (simp only [nx_new, nx_set, List.length_cons, List.length_nil, List.length_map, List.length_set, ne_eq, not_true_eq_false, not_false_eq_true, Nat.succ_ne_zero]; done) | (simp only [nx_new, nx_set, List.length_cons, List.length_nil, List.length_map, List.length_set, ne_eq, not_true_eq_false, not_false_eq_true, Nat.succ_ne_zero]; omega)) only [go_sem, reduceIte, reduceCtorEq, Nat.succ_ne_zero, not_false_eq_true, decide_true, decide_false, Nat.reduceAdd, Nat.reduceMul, Nat.reduceEqDiff, Nat.reduceLeDiff]
      refine AWP_loop (σ := Nat × Hp) (fun s => [(17, .int .i64 s.1), (16, .pointer (some ⟨H.next + 1 + 1, 0, none⟩)), (15, .int .i64 (errB l tel valid (max known later))), (14, .pointer (some ⟨H.next + 1, 0, none⟩)), (13, .int .i64 0), (12, .pointer (some ⟨H.next, 0, none⟩)), (11, .bool true), (0, .slice a l.length l.length), (1, .int .i64 tel), (2, .int .i64 valid), (3, .int .i64 known), (4, .int .i64 later)])
        (fun s => s.2) (fun s => s.1 ≤ l.length ∧ Keeps ((H.new (.row [.bool x1, .bool y1, .bool z1, .bool u1] true 0)).new (.row [.bool x2, .bool y2, .bool z2, .bool u2] true 0)) s.2 ∧ H.next + 1 + 1 < s.2.next ∧ s.2.get (H.next + 1 + 1) = .row ((maskB (l.take s.1) tel valid known).map Value.bool) true 0)
        (fun s => l.length - s.1) (0, _) ⟨Nat.zero_le _, Keeps.new _ _, Nat.lt_succ_self _, ?_⟩ (Weak.sub ?_) ?_
      rotate_left 1
      · simp -implicitDefEqProofs (disch := omega) only [Abs.Sub, get_cons_eq, get_cons_ne, and_self, Int.natCast_zero, Int.natCast_add, Int.natCast_one]
      · rintro ⟨k, G⟩ ⟨hk, hkeep, hp, hgp⟩
        simp only at hk hkeep hp hgp ⊢
        refine AWP_of_awp ?_
        have hkH : Keeps H G := ((Keeps.new _ _).trans (Keeps.new _ _)).trans hkeep
        by_cases hlt : k < l.length
        · obtain ⟨b, o, rfl, hb, hload⟩ := (he.grows hkH.grows) k (by simpa using hlt)
          have hmn := maskB_length (l.take k) tel valid known
          have hnext := maskB_take hlt tel valid known
          have hd := hin _ (List.getElem_mem hlt)
          simp only [List.getElem_map, D.cells] at hload
          generalize l[k] = d at *
          generalize hm2 : maskB (l.take (k + 1)) tel valid known = m2 at *
          generalize maskB (l.take k) tel valid known = m at *
          rw [markB, force_eq] at hnext
          obtain ⟨hi1, hi2, hi3, hi4, hi5, hi6, hi7, hi8, hi9⟩ := hd
          simp -implicitDefEqProofs (maxSteps := 2000000) (disch := first | omega | (simp only [nx_new, nx_set, List.length_cons, List.length_nil, List.length_map, List.length_set, ne_eq, not_true_eq_false, not_false_eq_true, Nat.succ_ne_zero]; done) | (simp only [nx_new, nx_set, List.length_cons, List.length_nil, List.length_map, List.length_set, ne_eq, not_true_eq_false, not_false_eq_true, Nat.succ_ne_zero]; omega)) only [go_sem, reduceIte, reduceCtorEq, Nat.succ_ne_zero, not_false_eq_true, decide_true, decide_false, Nat.reduceAdd, Nat.reduceMul, Nat.reduceEqDiff, Nat.reduceLeDiff, hload]
          refine guardS_split (fun hc1 => ?_) (fun hc1 => ?_)
          · simp -implicitDefEqProofs (maxSteps := 2000000) (disch := first | omega | (simp only [nx_new, nx_set, List.length_cons, List.length_nil, List.length_map, List.length_set, ne_eq, not_true_eq_false, not_false_eq_true, Nat.succ_ne_zero]; done) | (simp only [nx_new, nx_set, List.length_cons, List.length_nil, List.length_map, List.length_set, ne_eq, not_true_eq_false, not_false_eq_true, Nat.succ_ne_zero]; omega)) only [go_sem, reduceIte, reduceCtorEq, Nat.succ_ne_zero, not_false_eq_true, decide_true, decide_false, Nat.reduceAdd, Nat.reduceMul, Nat.reduceEqDiff, Nat.reduceLeDiff, hc1]
            refine guardS_split (fun hc2 => ?_) (fun hc2 => ?_)
            · simp -implicitDefEqProofs (maxSteps := 2000000) (disch := first | omega | (simp only [nx_new, nx_set, List.length_cons, List.length_nil, List.length_map, List.length_set, ne_eq, not_true_eq_false, not_false_eq_true, Nat.succ_ne_zero]; done) | (simp only [nx_new, nx_set, List.length_cons, List.length_nil, List.length_map, List.length_set, ne_eq, not_true_eq_false, not_false_eq_true, Nat.succ_ne_zero]; omega)) only [go_sem, reduceIte, reduceCtorEq, Nat.succ_ne_zero, not_false_eq_true, decide_true, decide_false, Nat.reduceAdd, Nat.reduceMul, Nat.reduceEqDiff, Nat.reduceLeDiff, hc2]
              refine guardS_split (fun hc3 => ?_) (fun hc3 => ?_)
              · simp -implicitDefEqProofs (maxSteps := 2000000) (disch := first | omega | (simp only [nx_new, nx_set, List.length_cons, List.length_nil, List.length_map, List.length_set, ne_eq, not_true_eq_false, not_false_eq_true, Nat.succ_ne_zero]; done) | (simp only [nx_new, nx_set, List.length_cons, List.length_nil, List.length_map, List.length_set, ne_eq, not_true_eq_false, not_false_eq_true, Nat.succ_ne_zero]; omega)) only [go_sem, reduceIte, reduceCtorEq, Nat.succ_ne_zero, not_false_eq_true, decide_true, decide_false, Nat.reduceAdd, Nat.reduceMul, Nat.reduceEqDiff, Nat.reduceLeDiff, hc3]
                refine condS_split (fun hc4 => ?_) (fun hc4 => ?_)
                · simp -implicitDefEqProofs (maxSteps := 2000000) (disch := first | omega | (simp only [nx_new, nx_set, List.length_cons, List.length_nil, List.length_map, List.length_set, ne_eq, not_true_eq_false, not_false_eq_true, Nat.succ_ne_zero]; done) | (simp only [nx_new, nx_set, List.length_cons, List.length_nil, List.length_map, List.length_set, ne_eq, not_true_eq_false, not_false_eq_true, Nat.succ_ne_zero]; omega)) only [go_sem, reduceIte, reduceCtorEq, Nat.succ_ne_zero, not_false_eq_true, decide_true, decide_false, Nat.reduceAdd, Nat.reduceMul, Nat.reduceEqDiff, Nat.reduceLeDiff, hc4, hgp]
                  refine ⟨(k + 1, _), ⟨hlt, (hkeep.set (by simp only [Hp.next_new]; omega)).trans (Keeps.new _ _), by simp only [Hp.next_new, Hp.next_set]; omega, ?_⟩, by simp only; omega, Weak.sub ?_⟩
                  · show Hp.get _ _ = Blk.row ((maskB (l.take (k + 1)) tel valid known).map Value.bool) true 0
                    rw [hm2, hnext, if_pos (by simp [hc1, hc2, hc3, hc4]), List.map_set]
                    simp -implicitDefEqProofs (maxSteps := 2000000) (disch := first | omega | (simp only [nx_new, nx_set, List.length_cons, List.length_nil, List.length_map, List.length_set, ne_eq, not_true_eq_false, not_false_eq_true, Nat.succ_ne_zero]; done) | (simp only [nx_new, nx_set, List.length_cons, List.length_nil, List.length_map, List.length_set, ne_eq, not_true_eq_false, not_false_eq_true, Nat.succ_ne_zero]; omega)) only [go_sem, reduceIte, reduceCtorEq, Nat.succ_ne_zero, not_false_eq_true, decide_true, decide_false, Nat.reduceAdd, Nat.reduceMul, Nat.reduceEqDiff, Nat.reduceLeDiff]
                    exact if_neg (by omega)
                  · simp -implicitDefEqProofs (disch := omega) only [Abs.Sub, get_cons_eq, get_cons_ne, and_self, Int.natCast_zero, Int.natCast_add, Int.natCast_one]
                · simp -implicitDefEqProofs (maxSteps := 2000000) (disch := first | omega | (simp only [nx_new, nx_set, List.length_cons, List.length_nil, List.length_map, List.length_set, ne_eq, not_true_eq_false, not_false_eq_true, Nat.succ_ne_zero]; done) | (simp only [nx_new, nx_set, List.length_cons, List.length_nil, List.length_map, List.length_set, ne_eq, not_true_eq_false, not_false_eq_true, Nat.succ_ne_zero]; omega)) only [go_sem, reduceIte, reduceCtorEq, Nat.succ_ne_zero, not_false_eq_true, decide_true, decide_false, Nat.reduceAdd, Nat.reduceMul, Nat.reduceEqDiff, Nat.reduceLeDiff, hc4]
                  refine ⟨(k + 1, _), ⟨hlt, hkeep.trans (Keeps.new _ _), by simp only [Hp.next_new, Hp.next_set]; omega, ?_⟩, by simp only; omega, Weak.sub ?_⟩
                  · show Hp.get _ _ = Blk.row ((maskB (l.take (k + 1)) tel valid known).map Value.bool) true 0
                    rw [hm2, hnext, if_neg (by simp [hc1, hc2, hc3, hc4])]
                    simp -implicitDefEqProofs (maxSteps := 2000000) (disch := first | omega | (simp only [nx_new, nx_set, List.length_cons, List.length_nil, List.length_map, List.length_set, ne_eq, not_true_eq_false, not_false_eq_true, Nat.succ_ne_zero]; done) | (simp only [nx_new, nx_set, List.length_cons, List.length_nil, List.length_map, List.length_set, ne_eq, not_true_eq_false, not_false_eq_true, Nat.succ_ne_zero]; omega)) only [go_sem, reduceIte, reduceCtorEq, Nat.succ_ne_zero, not_false_eq_true, decide_true, decide_false, Nat.reduceAdd, Nat.reduceMul, Nat.reduceEqDiff, Nat.reduceLeDiff, hgp]
                    exact if_neg (by omega)
                  · simp -implicitDefEqProofs (disch := omega) only [Abs.Sub, get_cons_eq, get_cons_ne, and_self, Int.natCast_zero, Int.natCast_add, Int.natCast_one]
              · simp -implicitDefEqProofs (maxSteps := 2000000) (disch := first | omega | (simp only [nx_new, nx_set, List.length_cons, List.length_nil, List.length_map, List.length_set, ne_eq, not_true_eq_false, not_false_eq_true, Nat.succ_ne_zero]; done) | (simp only [nx_new, nx_set, List.length_cons, List.length_nil, List.length_map, List.length_set, ne_eq, not_true_eq_false, not_false_eq_true, Nat.succ_ne_zero]; omega)) only [go_sem, reduceIte, reduceCtorEq, Nat.succ_ne_zero, not_false_eq_true, decide_true, decide_false, Nat.reduceAdd, Nat.reduceMul, Nat.reduceEqDiff, Nat.reduceLeDiff, hc3]
                refine ⟨(k + 1, _), ⟨hlt, hkeep.trans (Keeps.new _ _), by simp only [Hp.next_new, Hp.next_set]; omega, ?_⟩, by simp only; omega, Weak.sub ?_⟩
                · show Hp.get _ _ = Blk.row ((maskB (l.take (k + 1)) tel valid known).map Value.bool) true 0
                  rw [hm2, hnext, if_neg (by simp [hc1, hc2, hc3])]
                  simp -implicitDefEqProofs (maxSteps := 2000000) (disch := first | omega | (simp only [nx_new, nx_set, List.length_cons, List.length_nil, List.length_map, List.length_set, ne_eq, not_true_eq_false, not_false_eq_true, Nat.succ_ne_zero]; done) | (simp only [nx_new, nx_set, List.length_cons, List.length_nil, List.length_map, List.length_set, ne_eq, not_true_eq_false, not_false_eq_true, Nat.succ_ne_zero]; omega)) only [go_sem, reduceIte, reduceCtorEq, Nat.succ_ne_zero, not_false_eq_true, decide_true, decide_false, Nat.reduceAdd, Nat.reduceMul, Nat.reduceEqDiff, Nat.reduceLeDiff, hgp]
                  exact if_neg (by omega)
                · simp -implicitDefEqProofs (disch := omega) only [Abs.Sub, get_cons_eq, get_cons_ne, and_self, Int.natCast_zero, Int.natCast_add, Int.natCast_one]
            · simp -implicitDefEqProofs (maxSteps := 2000000) (disch := first | omega | (simp only [nx_new, nx_set, List.length_cons, List.length_nil, List.length_map, List.length_set, ne_eq, not_true_eq_false, not_false_eq_true, Nat.succ_ne_zero]; done) | (simp only [nx_new, nx_set, List.length_cons, List.length_nil, List.length_map, List.length_set, ne_eq, not_true_eq_false, not_false_eq_true, Nat.succ_ne_zero]; omega)) only [go_sem, reduceIte, reduceCtorEq, Nat.succ_ne_zero, not_false_eq_true, decide_true, decide_false, Nat.reduceAdd, Nat.reduceMul, Nat.reduceEqDiff, Nat.reduceLeDiff, hc2]
              refine ⟨(k + 1, _), ⟨hlt, hkeep.trans (Keeps.new _ _), by simp only [Hp.next_new, Hp.next_set]; omega, ?_⟩, by simp only; omega, Weak.sub ?_⟩
              · show Hp.get _ _ = Blk.row ((maskB (l.take (k + 1)) tel valid known).map Value.bool) true 0
                rw [hm2, hnext, if_neg (by simp [hc1, hc2])]
                simp -implicitDefEqProofs (maxSteps := 2000000) (disch := first | omega | (simp only [nx_new, nx_set, List.length_cons, List.length_nil, List.length_map, List.length_set, ne_eq, not_true_eq_false, not_false_eq_true, Nat.succ_ne_zero]; done) | (simp only [nx_new, nx_set, List.length_cons, List.length_nil, List.length_map, List.length_set, ne_eq, not_true_eq_false, not_false_eq_true, Nat.succ_ne_zero]; omega)) only [go_sem, reduceIte, reduceCtorEq, Nat.succ_ne_zero, not_false_eq_true, decide_true, decide_false, Nat.reduceAdd, Nat.reduceMul, Nat.reduceEqDiff, Nat.reduceLeDiff, hgp]
                exact if_neg (by omega)
              · simp -implicitDefEqProofs (disch := omega) only [Abs.Sub, get_cons_eq, get_cons_ne, and_self, Int.natCast_zero, Int.natCast_add, Int.natCast_one]
          · simp -implicitDefEqProofs (maxSteps := 2000000) (disch := first | omega | (simp only [nx_new, nx_set, List.length_cons, List.length_nil, List.length_map, List.length_set, ne_eq, not_true_eq_false, not_false_eq_true, Nat.succ_ne_zero]; done) | (simp only [nx_new, nx_set, List.length_cons, List.length_nil, List.length_map, List.length_set, ne_eq, not_true_eq_false, not_false_eq_true, Nat.succ_ne_zero]; omega)) only [go_sem, reduceIte, reduceCtorEq, Nat.succ_ne_zero, not_false_eq_true, decide_true, decide_false, Nat.reduceAdd, Nat.reduceMul, Nat.reduceEqDiff, Nat.reduceLeDiff, hc1]
            refine ⟨(k + 1, _), ⟨hlt, hkeep.trans (Keeps.new _ _), by simp only [Hp.next_new, Hp.next_set]; omega, ?_⟩, by simp only; omega, Weak.sub ?_⟩
            · show Hp.get _ _ = Blk.row ((maskB (l.take (k + 1)) tel valid known).map Value.bool) true 0
              rw [hm2, hnext, if_neg (by simp [hc1])]
              simp -implicitDefEqProofs (maxSteps := 2000000) (disch := first | omega | (simp only [nx_new, nx_set, List.length_cons, List.length_nil, List.length_map, List.length_set, ne_eq, not_true_eq_false, not_false_eq_true, Nat.succ_ne_zero]; done) | (simp only [nx_new, nx_set, List.length_cons, List.length_nil, List.length_map, List.length_set, ne_eq, not_true_eq_false, not_false_eq_true, Nat.succ_ne_zero]; omega)) only [go_sem, reduceIte, reduceCtorEq, Nat.succ_ne_zero, not_false_eq_true, decide_true, decide_false, Nat.reduceAdd, Nat.reduceMul, Nat.reduceEqDiff, Nat.reduceLeDiff, hgp]
              exact if_neg (by omega)
            · simp -implicitDefEqProofs (disch := omega) only [Abs.Sub, get_cons_eq, get_cons_ne, and_self, Int.natCast_zero, Int.natCast_add, Int.natCast_one]
        · have e : l.take k = l := List.take_of_length_le (by omega)
          rw [e, hm] at hgp
          simp -implicitDefEqProofs (maxSteps := 2000000) (disch := first | omega | (simp only [nx_new, nx_set, List.length_cons, List.length_nil, List.length_map, List.length_set, ne_eq, not_true_eq_false, not_false_eq_true, Nat.succ_ne_zero]; done) | (simp only [nx_new, nx_set, List.length_cons, List.length_nil, List.length_map, List.length_set, ne_eq, not_true_eq_false, not_false_eq_true, Nat.succ_ne_zero]; omega)) only [go_sem, reduceIte, reduceCtorEq, Nat.succ_ne_zero, not_false_eq_true, decide_true, decide_false, Nat.reduceAdd, Nat.reduceMul, Nat.reduceEqDiff, Nat.reduceLeDiff]
          have hX : ∀ i, i < 4 → load1 G ⟨H.next, i, none⟩ = some (.bool ([x1, y1, z1, u1].getD i false)) := fun i hi => by
            rw [hkeep.l1 _ _ (by simp only [Hp.next_new]; omega)]
            match i, hi with
            | 0, _ => simp -implicitDefEqProofs (maxSteps := 2000000) (disch := first | omega | (simp only [nx_new, nx_set, List.length_cons, List.length_nil, List.length_map, List.length_set, ne_eq, not_true_eq_false, not_false_eq_true, Nat.succ_ne_zero]; done) | (simp only [nx_new, nx_set, List.length_cons, List.length_nil, List.length_map, List.length_set, ne_eq, not_true_eq_false, not_false_eq_true, Nat.succ_ne_zero]; omega)) only [go_sem, reduceIte, reduceCtorEq, Nat.succ_ne_zero, not_false_eq_true, decide_true, decide_false, Nat.reduceAdd, Nat.reduceMul, Nat.reduceEqDiff, Nat.reduceLeDiff]; rfl
            | 1, _ => simp -implicitDefEqProofs (maxSteps := 2000000) (disch := first | omega | (simp only [nx_new, nx_set, List.length_cons, List.length_nil, List.length_map, List.length_set, ne_eq, not_true_eq_false, not_false_eq_true, Nat.succ_ne_zero]; done) | (simp only [nx_new, nx_set, List.length_cons, List.length_nil, List.length_map, List.length_set, ne_eq, not_true_eq_false, not_false_eq_true, Nat.succ_ne_zero]; omega)) only [go_sem, reduceIte, reduceCtorEq, Nat.succ_ne_zero, not_false_eq_true, decide_true, decide_false, Nat.reduceAdd, Nat.reduceMul, Nat.reduceEqDiff, Nat.reduceLeDiff]; rfl
            | 2, _ => simp -implicitDefEqProofs (maxSteps := 2000000) (disch := first | omega | (simp only [nx_new, nx_set, List.length_cons, List.length_nil, List.length_map, List.length_set, ne_eq, not_true_eq_false, not_false_eq_true, Nat.succ_ne_zero]; done) | (simp only [nx_new, nx_set, List.length_cons, List.length_nil, List.length_map, List.length_set, ne_eq, not_true_eq_false, not_false_eq_true, Nat.succ_ne_zero]; omega)) only [go_sem, reduceIte, reduceCtorEq, Nat.succ_ne_zero, not_false_eq_true, decide_true, decide_false, Nat.reduceAdd, Nat.reduceMul, Nat.reduceEqDiff, Nat.reduceLeDiff]; rfl
            | 3, _ => simp -implicitDefEqProofs (maxSteps := 2000000) (disch := first | omega | (simp only [nx_new, nx_set, List.length_cons, List.length_nil, List.length_map, List.length_set, ne_eq, not_true_eq_false, not_false_eq_true, Nat.succ_ne_zero]; done) | (simp only [nx_new, nx_set, List.length_cons, List.length_nil, List.length_map, List.length_set, ne_eq, not_true_eq_false, not_false_eq_true, Nat.succ_ne_zero]; omega)) only [go_sem, reduceIte, reduceCtorEq, Nat.succ_ne_zero, not_false_eq_true, decide_true, decide_false, Nat.reduceAdd, Nat.reduceMul, Nat.reduceEqDiff, Nat.reduceLeDiff]; rfl
          have hY : ∀ i, i < 4 → load1 G ⟨H.next + 1, i, none⟩ = some (.bool ([x2, y2, z2, u2].getD i false)) := fun i hi => by
            rw [hkeep.l1 _ _ (by simp only [Hp.next_new]; omega)]
            match i, hi with
            | 0, _ => simp -implicitDefEqProofs (maxSteps := 2000000) (disch := first | omega | (simp only [nx_new, nx_set, List.length_cons, List.length_nil, List.length_map, List.length_set, ne_eq, not_true_eq_false, not_false_eq_true, Nat.succ_ne_zero]; done) | (simp only [nx_new, nx_set, List.length_cons, List.length_nil, List.length_map, List.length_set, ne_eq, not_true_eq_false, not_false_eq_true, Nat.succ_ne_zero]; omega)) only [go_sem, reduceIte, reduceCtorEq, Nat.succ_ne_zero, not_false_eq_true, decide_true, decide_false, Nat.reduceAdd, Nat.reduceMul, Nat.reduceEqDiff, Nat.reduceLeDiff]; rfl
            | 1, _ => simp -implicitDefEqProofs (maxSteps := 2000000) (disch := first | omega | (simp only [nx_new, nx_set, List.length_cons, List.length_nil, List.length_map, List.length_set, ne_eq, not_true_eq_false, not_false_eq_true, Nat.succ_ne_zero]; done) | (simp only [nx_new, nx_set, List.length_cons, List.length_nil, List.length_map, List.length_set, ne_eq, not_true_eq_false, not_false_eq_true, Nat.succ_ne_zero]; omega)) only [go_sem, reduceIte, reduceCtorEq, Nat.succ_ne_zero, not_false_eq_true, decide_true, decide_false, Nat.reduceAdd, Nat.reduceMul, Nat.reduceEqDiff, Nat.reduceLeDiff]; rfl
            | 2, _ => simp -implicitDefEqProofs (maxSteps := 2000000) (disch := first | omega | (simp only [nx_new, nx_set, List.length_cons, List.length_nil, List.length_map, List.length_set, ne_eq, not_true_eq_false, not_false_eq_true, Nat.succ_ne_zero]; done) | (simp only [nx_new, nx_set, List.length_cons, List.length_nil, List.length_map, List.length_set, ne_eq, not_true_eq_false, not_false_eq_true, Nat.succ_ne_zero]; omega)) only [go_sem, reduceIte, reduceCtorEq, Nat.succ_ne_zero, not_false_eq_true, decide_true, decide_false, Nat.reduceAdd, Nat.reduceMul, Nat.reduceEqDiff, Nat.reduceLeDiff]; rfl
            | 3, _ => simp -implicitDefEqProofs (maxSteps := 2000000) (disch := first | omega | (simp only [nx_new, nx_set, List.length_cons, List.length_nil, List.length_map, List.length_set, ne_eq, not_true_eq_false, not_false_eq_true, Nat.succ_ne_zero]; done) | (simp only [nx_new, nx_set, List.length_cons, List.length_nil, List.length_map, List.length_set, ne_eq, not_true_eq_false, not_false_eq_true, Nat.succ_ne_zero]; omega)) only [go_sem, reduceIte, reduceCtorEq, Nat.succ_ne_zero, not_false_eq_true, decide_true, decide_false, Nat.reduceAdd, Nat.reduceMul, Nat.reduceEqDiff, Nat.reduceLeDiff]; rfl
          have hf : (errB l tel valid (max known later) = 0 ∧ ∀ i, i < 4 → [x1, y1, z1, u1].getD i false = true → [x2, y2, z2, u2].getD i false = true) ∨ (errB l tel valid (max known later) = 1 ∧ 38399 < later) := by
            rcases argsB_later (later := later) hok with h | ⟨h, h2⟩
            · refine .inl ⟨by simp [errB, h], fun i hi ht => ?_⟩
              have e3 : maskB l tel valid (max known later) = [x2, y2, z2, u2] := by rw [← e2, MaskB, if_pos h]
              have := maskB_mono (l := l) (tel := tel) (valid := valid) (known := known) (known' := max known later) (by omega) hi (by
                rw [hm]
                simp only [List.getD_eq_getElem?_getD] at ht
                cases hq : [x1, y1, z1, u1][i]? with
                | none => simp [hq] at ht
                | some w => rw [hq] at ht; simp at ht; rw [ht])
              rw [e3] at this
              simp [List.getD_eq_getElem?_getD, this]
            · exact .inr ⟨by simp [errB, h], h2⟩
          generalize errB l tel valid (max known later) = f at *
          refine AWP_loop (σ := Nat) (fun i => [(19, .int .i64 i), (16, .pointer (some ⟨H.next + 1 + 1, 0, none⟩)), (15, .int .i64 f), (14, .pointer (some ⟨H.next + 1, 0, none⟩)), (13, .int .i64 0), (12, .pointer (some ⟨H.next, 0, none⟩)), (11, .bool true), (4, .int .i64 later)])
            (fun _ => G) (fun i => i ≤ 4) (fun i => 4 - i) 0 (Nat.zero_le _) (Weak.sub ?_) ?_
          · simp -implicitDefEqProofs (disch := omega) only [Abs.Sub, get_cons_eq, get_cons_ne, and_self, Int.natCast_zero, Int.natCast_add, Int.natCast_one]
          · intro i hi
            refine AWP_of_awp ?_
            by_cases hlt4 : i < 4
            · have hx := hX i hlt4
              have hy := hY i hlt4
              rcases hf with ⟨rfl, hmo⟩ | ⟨rfl, hlat⟩
              · have hmi := hmo i hlt4
                generalize [x1, y1, z1, u1].getD i false = xi at *
                generalize [x2, y2, z2, u2].getD i false = yi at *
                simp -implicitDefEqProofs (maxSteps := 2000000) (disch := first | omega | (simp only [nx_new, nx_set, List.length_cons, List.length_nil, List.length_map, List.length_set, ne_eq, not_true_eq_false, not_false_eq_true, Nat.succ_ne_zero]; done) | (simp only [nx_new, nx_set, List.length_cons, List.length_nil, List.length_map, List.length_set, ne_eq, not_true_eq_false, not_false_eq_true, Nat.succ_ne_zero]; omega)) only [go_sem, reduceIte, reduceCtorEq, Nat.succ_ne_zero, not_false_eq_true, decide_true, decide_false, Nat.reduceAdd, Nat.reduceMul, Nat.reduceEqDiff, Nat.reduceLeDiff, hx, hy]
                cases xi with
                | false =>
                  simp -implicitDefEqProofs (maxSteps := 2000000) (disch := first | omega | (simp only [nx_new, nx_set, List.length_cons, List.length_nil, List.length_map, List.length_set, ne_eq, not_true_eq_false, not_false_eq_true, Nat.succ_ne_zero]; done) | (simp only [nx_new, nx_set, List.length_cons, List.length_nil, List.length_map, List.length_set, ne_eq, not_true_eq_false, not_false_eq_true, Nat.succ_ne_zero]; omega)) only [go_sem, reduceIte, reduceCtorEq, Nat.succ_ne_zero, not_false_eq_true, decide_true, decide_false, Nat.reduceAdd, Nat.reduceMul, Nat.reduceEqDiff, Nat.reduceLeDiff]
                  refine ⟨i + 1, hlt4, by omega, Weak.sub ?_⟩
                  simp -implicitDefEqProofs (disch := omega) only [Abs.Sub, get_cons_eq, get_cons_ne, and_self, Int.natCast_zero, Int.natCast_add, Int.natCast_one]
                | true =>
                  rw [hmi rfl] at hy
                  simp -implicitDefEqProofs (maxSteps := 2000000) (disch := first | omega | (simp only [nx_new, nx_set, List.length_cons, List.length_nil, List.length_map, List.length_set, ne_eq, not_true_eq_false, not_false_eq_true, Nat.succ_ne_zero]; done) | (simp only [nx_new, nx_set, List.length_cons, List.length_nil, List.length_map, List.length_set, ne_eq, not_true_eq_false, not_false_eq_true, Nat.succ_ne_zero]; omega)) only [go_sem, reduceIte, reduceCtorEq, Nat.succ_ne_zero, not_false_eq_true, decide_true, decide_false, Nat.reduceAdd, Nat.reduceMul, Nat.reduceEqDiff, Nat.reduceLeDiff, hy]
                  refine ⟨i + 1, hlt4, by omega, Weak.sub ?_⟩
                  simp -implicitDefEqProofs (disch := omega) only [Abs.Sub, get_cons_eq, get_cons_ne, and_self, Int.natCast_zero, Int.natCast_add, Int.natCast_one]
              · simp -implicitDefEqProofs (maxSteps := 2000000) (disch := first | omega | (simp only [nx_new, nx_set, List.length_cons, List.length_nil, List.length_map, List.length_set, ne_eq, not_true_eq_false, not_false_eq_true, Nat.succ_ne_zero]; done) | (simp only [nx_new, nx_set, List.length_cons, List.length_nil, List.length_map, List.length_set, ne_eq, not_true_eq_false, not_false_eq_true, Nat.succ_ne_zero]; omega)) only [go_sem, reduceIte, reduceCtorEq, Nat.succ_ne_zero, not_false_eq_true, decide_true, decide_false, Nat.reduceAdd, Nat.reduceMul, Nat.reduceEqDiff, Nat.reduceLeDiff]
                refine ⟨i + 1, hlt4, by omega, Weak.sub ?_⟩
                simp -implicitDefEqProofs (disch := omega) only [Abs.Sub, get_cons_eq, get_cons_ne, and_self, Int.natCast_zero, Int.natCast_add, Int.natCast_one]
            · have hi4 : i = 4 := by omega
              subst hi4
              have hgl : aload G ⟨H.next + 1 + 1, 0, none⟩ 4 = some [.bool x1, .bool y1, .bool z1, .bool u1] := (aload_row hgp (by simp)).trans rfl
              rcases hf with ⟨rfl, _⟩ | ⟨rfl, hlat⟩
              · simp -implicitDefEqProofs (maxSteps := 2000000) (disch := first | omega | (simp only [nx_new, nx_set, List.length_cons, List.length_nil, List.length_map, List.length_set, ne_eq, not_true_eq_false, not_false_eq_true, Nat.succ_ne_zero]; done) | (simp only [nx_new, nx_set, List.length_cons, List.length_nil, List.length_map, List.length_set, ne_eq, not_true_eq_false, not_false_eq_true, Nat.succ_ne_zero]; omega)) only [go_sem, reduceIte, reduceCtorEq, Nat.succ_ne_zero, not_false_eq_true, decide_true, decide_false, Nat.reduceAdd, Nat.reduceMul, Nat.reduceEqDiff, Nat.reduceLeDiff, hkeep.ld, hgl, beq_self_eq_true]
                exact ret_r (v := .bool true) (by rw [ares_tmp ret4]; rfl) rfl
              · simp -implicitDefEqProofs (maxSteps := 2000000) (disch := first | omega | (simp only [nx_new, nx_set, List.length_cons, List.length_nil, List.length_map, List.length_set, ne_eq, not_true_eq_false, not_false_eq_true, Nat.succ_ne_zero]; done) | (simp only [nx_new, nx_set, List.length_cons, List.length_nil, List.length_map, List.length_set, ne_eq, not_true_eq_false, not_false_eq_true, Nat.succ_ne_zero]; omega)) only [go_sem, reduceIte, reduceCtorEq, Nat.succ_ne_zero, not_false_eq_true, decide_true, decide_false, Nat.reduceAdd, Nat.reduceMul, Nat.reduceEqDiff, Nat.reduceLeDiff, hkeep.ld, hgl, beq_self_eq_true]
                exact ret_r (v := .bool true) (by rw [ares_tmp ret4]; rfl) rfl
      · exact Hp.get_new_same _ _ _ rfl
    · simp only [Bool.not_eq_true] at hok
      have h0 : errB l tel valid known = 1 := by simp [errB, hok]
      have h1 : MaskB l tel valid known = no4 := by simp [MaskB, hok]
      rw [h1] at e1
      cases e1
      rw [h0]
      have bff : (false == false) = true := rfl
      simp -implicitDefEqProofs (maxSteps := 2000000) (disch := first | omega | (simp only [nx_new, nx_set, List.length_cons, List.length_nil, List.length_map, List.length_set, ne_eq, not_true_eq_false, not_false_eq_true, Nat.succ_ne_zero]; done) | (simp only [nx_new, nx_set, List.length_cons, List.length_nil, List.length_map, List.length_set, ne_eq, not_true_eq_false, not_false_eq_true, Nat.succ_ne_zero]; omega)) only [go_sem, reduceIte, reduceCtorEq, Nat.succ_ne_zero, not_false_eq_true, decide_true, decide_false, Nat.reduceAdd, Nat.reduceMul, Nat.reduceEqDiff, Nat.reduceLeDiff, bff]
      exact ret_r (v := .bool true) (by rw [ares_tmp ret4]; rfl) rfl
end Go.Proofs.Ytalijeodmmlfjaa
