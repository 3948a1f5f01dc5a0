/- The reference's Changes; DefectMatchesReference. -/
import Derived.Test.YtalijeodmmlfjaaWl
import Derived.Test.YtalijeodmmlfjaaWj
set_option linter.unusedVariables false
set_option linter.unusedSimpArgs false
set_option linter.unusedSectionVars false
namespace Go.Proofs.Ytalijeodmmlfjaa
open Go.Abs
set_option maxHeartbeats 8000000
set_option maxRecDepth 100000

/-- The next border behind m, as far as the defects of l tell. -/
def nextStep (m n : Int) (d : D) : Int :=
  let n1 := if m < d.frm then min n d.frm else n
  if m ≤ d.til then min n1 (d.til + 1) else n1
def nextB (l : List D) (m : Int) : Int := l.foldl (nextStep m) 38400
theorem nextB_succ {l : List D} {k : Nat} (hk : k < l.length) (m : Int) : nextB (l.take (k + 1)) m = nextStep m (nextB (l.take k) m) l[k] := by
  rw [List.take_succ_eq_append_getElem hk]; simp only [nextB, List.foldl_append, List.foldl_cons, List.foldl_nil]
theorem nextStep_le (m n : Int) (d : D) : nextStep m n d ≤ n := by
  unfold nextStep; simp only; split <;> (try split) <;> omega
theorem nextStep_lt {m n : Int} {d : D} (h : m < n) : m < nextStep m n d := by
  unfold nextStep; simp only; split <;> (try split) <;> omega
theorem nextB_lt {m : Int} (hm : m < 38400) (l : List D) : m < nextB l m := by
  have : ∀ (l : List D) (n : Int), m < n → m < l.foldl (nextStep m) n := by
    intro l
    induction l with
    | nil => intro n h; exact h
    | cons d l ih => intro n h; exact ih _ (nextStep_lt h)
  exact this l _ hm
theorem nextB_le (l : List D) (m : Int) : nextB l m ≤ 38400 := by
  have : ∀ (l : List D) (n : Int), l.foldl (nextStep m) n ≤ n := by
    intro l
    induction l with
    | nil => intro n; exact Int.le_refl _
    | cons d l ih => intro n; exact Int.le_trans (ih _) (nextStep_le _ _ _)
  exact this l _
theorem nextB_bord {l : List D} {m b : Int} (hb : b ∈ bordB l) (h0 : 0 ≤ m) (h : m < b) : nextB l m ≤ b := by
  have key : ∀ (l : List D) (n : Int) (d : D), d ∈ l → (m < d.frm → l.foldl (nextStep m) n ≤ d.frm) ∧ (m < d.til + 1 → l.foldl (nextStep m) n ≤ d.til + 1) := by
    have mono : ∀ (l : List D) (n : Int), l.foldl (nextStep m) n ≤ n := by
      intro l
      induction l with
      | nil => intro n; exact Int.le_refl _
      | cons d l ih => intro n; exact Int.le_trans (ih _) (nextStep_le _ _ _)
    intro l
    induction l with
    | nil => intro n d hd; cases hd
    | cons e l ih =>
      intro n d hd
      rw [List.foldl_cons]
      rcases List.mem_cons.1 hd with rfl | hd
      · have := mono l (nextStep m n d)
        refine ⟨fun h => Int.le_trans this ?_, fun h => Int.le_trans this ?_⟩
        · unfold nextStep; simp only; split <;> (try split) <;> omega
        · unfold nextStep; simp only; split <;> (try split) <;> omega
      · exact ih _ d hd
  simp only [bordB, List.cons_append, List.nil_append, List.mem_cons, List.mem_flatMap, List.not_mem_nil, or_false] at hb
  rcases hb with rfl | rfl | ⟨d, hd, rfl | rfl⟩
  · omega
  · exact nextB_le _ _
  · exact (key l _ d hd).1 h
  · exact (key l _ d hd).2 h
theorem next_const {l : List D} {m x : Int} (h0 : 0 ≤ m) (h1 : m ≤ x) (h2 : x < nextB l m) (tel kn : Int) : maskB l tel x kn = maskB l tel m kn :=
  mask_const h1 (fun b hb h => by have := nextB_bord hb h0 h.1; omega) tel kn
theorem normF_len : ∀ {l : List (Int × Int)} {lo m : Int}, NormF lo l → (∀ t, t ∈ l → t.2 < m) → lo ≤ m → (l.length : Int) ≤ m - lo
  | [], lo, m, _, _, h => by simp; omega
  | s :: l, lo, m, hn, ht, h => by
    have h1 := hn.1
    have h2 := hn.2.1
    have h3 := ht s (List.mem_cons_self ..)
    rw [List.length_cons]
    cases l with
    | nil => simp; omega
    | cons t l =>
      have h4 := hn.2.2.1
      have h5 := hn.2.2.2.1
      have h6 := ht t (by simp)
      have := normF_len (m := m) hn.2.2 (fun u hu => ht u (List.mem_cons_of_mem _ hu)) (by omega)
      omega

/-- What has been found up to m. -/
structure ScanTo (l : List D) (tel one two m : Int) (out : List (Int × Int)) : Prop where
  norm : NormF 0 out
  lt : ∀ t, t ∈ out → t.2 < m
  ins : ∀ x, insideB out x = decide (0 ≤ x ∧ x < m ∧ differ l tel one two x)
theorem ScanTo.skip {l : List D} {tel one two m : Int} {out : List (Int × Int)} (h : ScanTo l tel one two m out) (h0 : 0 ≤ m) (hm : m < 38400) (he : maskB l tel m one = maskB l tel m two) : ScanTo l tel one two (nextB l m) out := by
  have hlt := nextB_lt hm l
  refine ⟨h.norm, fun t ht => by have := h.lt t ht; omega, fun x => ?_⟩
  rw [h.ins]
  refine decide_eq_decide.2 ⟨fun g => ⟨g.1, by omega, g.2.2⟩, fun g => ⟨g.1, ?_, g.2.2⟩⟩
  rcases Int.lt_or_le x m with hx | hx
  · exact hx
  · have hd := g.2.2
    unfold differ at hd
    rw [next_const h0 hx g.2.1, next_const h0 hx g.2.1] at hd
    exact absurd he hd
theorem ScanTo.add {l : List D} {tel one two m : Int} {out : List (Int × Int)} (h : ScanTo l tel one two m out) (h0 : 0 ≤ m) (hm : m < 38400) (he : maskB l tel m one ≠ maskB l tel m two) : ScanTo l tel one two (nextB l m) (addL out (m, nextB l m - 1)) := by
  have hlt := nextB_lt hm l
  refine ⟨addL_norm h.norm (by simp only; omega) h0 h.lt, fun t ht => ?_, fun x => ?_⟩
  · rcases addL_mem ht with g | g
    · have := h.lt t g; omega
    · rw [g]; simp only; omega
  · rw [addL_inside h.norm (by simp only; omega), h.ins, Bool.eq_iff_iff]
    simp only [Bool.or_eq_true, Bool.and_eq_true, decide_eq_true_eq]
    constructor
    · rintro (g | g)
      · exact ⟨g.1, by omega, g.2.2⟩
      · refine ⟨by omega, by omega, ?_⟩
        unfold differ
        rw [next_const h0 g.1 (by omega), next_const h0 g.1 (by omega)]
        exact he
    · intro g
      rcases Int.lt_or_le x m with hx | hx
      · exact .inl ⟨g.1, hx, g.2.2⟩
      · exact .inr ⟨hx, by omega⟩

theorem n14 : Try.f14.ntmps = 115 := rfl
theorem ret14 : Try.f14.results = #[.tmp 8, .tmp 9] := rfl
theorem refChanges_spec (H : Hp) (a : Option Addr) (l : List D) (tel one two : Int) (hl : l.length ≤ 9223372036854775806) (he : Elems H a 5 (l.map D.cells)) :
    ACalls Try.prog 14 [.slice a l.length l.length, .int .i64 tel, .int .i64 one, .int .i64 two] H
      (fun v H' => ∃ o, v = .tuple #[.slice o (ChangesL l tel one two).length (ChangesL l tel one two).length, .int .i64 (errB l tel one two)] ∧ Keeps H H' ∧ Elems H' o 2 ((ChangesL l tel one two).map spc)) := by
  refine ACalls_enter Try.func14 (by kernel_rfl) rfl (by kernel_rfl) (by simp [n14]) fun hw hr => AWP_of_awp ?_
  simp -implicitDefEqProofs (maxSteps := 2000000) (disch := first | omega | (simp only [nx_new, nx_set, List.length_cons, List.length_nil, List.length_map, List.length_set, ne_eq, not_true_eq_false, not_false_eq_true, Nat.succ_ne_zero]; done) | (simp only [nx_new, nx_set, List.length_cons, List.length_nil, List.length_map, List.length_set, ne_eq, not_true_eq_false, not_false_eq_true, Nat.succ_ne_zero]; omega)) only [go_sem, reduceIte, reduceCtorEq, Nat.succ_ne_zero, not_false_eq_true, decide_true, decide_false, Nat.reduceAdd, Nat.reduceMul, Nat.reduceEqDiff, Nat.reduceLeDiff]
  refine ACalls.use_eq (refValid_spec _ a l hl he) ?_
  simp -implicitDefEqProofs (maxSteps := 2000000) (disch := first | omega | (simp only [nx_new, nx_set, List.length_cons, List.length_nil, List.length_map, List.length_set, ne_eq, not_true_eq_false, not_false_eq_true, Nat.succ_ne_zero]; done) | (simp only [nx_new, nx_set, List.length_cons, List.length_nil, List.length_map, List.length_set, ne_eq, not_true_eq_false, not_false_eq_true, Nat.succ_ne_zero]; omega)) only [go_sem, reduceIte, reduceCtorEq, Nat.succ_ne_zero, not_false_eq_true, decide_true, decide_false, Nat.reduceAdd, Nat.reduceMul, Nat.reduceEqDiff, Nat.reduceLeDiff]
  refine guardS_split (fun h1 => ?_) (fun h1 => ?_)
  · simp -implicitDefEqProofs (maxSteps := 2000000) (disch := first | omega | (simp only [nx_new, nx_set, List.length_cons, List.length_nil, List.length_map, List.length_set, ne_eq, not_true_eq_false, not_false_eq_true, Nat.succ_ne_zero]; done) | (simp only [nx_new, nx_set, List.length_cons, List.length_nil, List.length_map, List.length_set, ne_eq, not_true_eq_false, not_false_eq_true, Nat.succ_ne_zero]; omega)) only [go_sem, reduceIte, reduceCtorEq, Nat.succ_ne_zero, not_false_eq_true, decide_true, decide_false, Nat.reduceAdd, Nat.reduceMul, Nat.reduceEqDiff, Nat.reduceLeDiff, h1]
    (have hb : argsB l tel one two = false := (by simp only [Bool.not_eq_true'] at h1; rw [argsB_four, h1]; rfl); refine ret_r (v := .tuple #[.slice none 0 0, .int .i64 1]) (by rw [ares_tmp_tmp ret14]; rfl) ⟨none, ?_, Keeps.refl _, ?_⟩; (simp only [ChangesL, errB, hb]; rfl); (simp only [ChangesL, hb]; exact Elems.nil))
  · simp -implicitDefEqProofs (maxSteps := 2000000) (disch := first | omega | (simp only [nx_new, nx_set, List.length_cons, List.length_nil, List.length_map, List.length_set, ne_eq, not_true_eq_false, not_false_eq_true, Nat.succ_ne_zero]; done) | (simp only [nx_new, nx_set, List.length_cons, List.length_nil, List.length_map, List.length_set, ne_eq, not_true_eq_false, not_false_eq_true, Nat.succ_ne_zero]; omega)) only [go_sem, reduceIte, reduceCtorEq, Nat.succ_ne_zero, not_false_eq_true, decide_true, decide_false, Nat.reduceAdd, Nat.reduceMul, Nat.reduceEqDiff, Nat.reduceLeDiff, h1]
    simp only [Bool.not_eq_false'] at h1
    refine ACalls.use_eq (telescope_spec _ tel) ?_
    simp -implicitDefEqProofs (maxSteps := 2000000) (disch := first | omega | (simp only [nx_new, nx_set, List.length_cons, List.length_nil, List.length_map, List.length_set, ne_eq, not_true_eq_false, not_false_eq_true, Nat.succ_ne_zero]; done) | (simp only [nx_new, nx_set, List.length_cons, List.length_nil, List.length_map, List.length_set, ne_eq, not_true_eq_false, not_false_eq_true, Nat.succ_ne_zero]; omega)) only [go_sem, reduceIte, reduceCtorEq, Nat.succ_ne_zero, not_false_eq_true, decide_true, decide_false, Nat.reduceAdd, Nat.reduceMul, Nat.reduceEqDiff, Nat.reduceLeDiff]
    refine guardS_split (fun h2 => ?_) (fun h2 => ?_)
    · simp -implicitDefEqProofs (maxSteps := 2000000) (disch := first | omega | (simp only [nx_new, nx_set, List.length_cons, List.length_nil, List.length_map, List.length_set, ne_eq, not_true_eq_false, not_false_eq_true, Nat.succ_ne_zero]; done) | (simp only [nx_new, nx_set, List.length_cons, List.length_nil, List.length_map, List.length_set, ne_eq, not_true_eq_false, not_false_eq_true, Nat.succ_ne_zero]; omega)) only [go_sem, reduceIte, reduceCtorEq, Nat.succ_ne_zero, not_false_eq_true, decide_true, decide_false, Nat.reduceAdd, Nat.reduceMul, Nat.reduceEqDiff, Nat.reduceLeDiff, h2]
      (have hb : argsB l tel one two = false := (by simp only [Bool.not_eq_true'] at h2; rw [argsB_four, h1, h2]; rfl); refine ret_r (v := .tuple #[.slice none 0 0, .int .i64 1]) (by rw [ares_tmp_tmp ret14]; rfl) ⟨none, ?_, Keeps.refl _, ?_⟩; (simp only [ChangesL, errB, hb]; rfl); (simp only [ChangesL, hb]; exact Elems.nil))
    · simp -implicitDefEqProofs (maxSteps := 2000000) (disch := first | omega | (simp only [nx_new, nx_set, List.length_cons, List.length_nil, List.length_map, List.length_set, ne_eq, not_true_eq_false, not_false_eq_true, Nat.succ_ne_zero]; done) | (simp only [nx_new, nx_set, List.length_cons, List.length_nil, List.length_map, List.length_set, ne_eq, not_true_eq_false, not_false_eq_true, Nat.succ_ne_zero]; omega)) only [go_sem, reduceIte, reduceCtorEq, Nat.succ_ne_zero, not_false_eq_true, decide_true, decide_false, Nat.reduceAdd, Nat.reduceMul, Nat.reduceEqDiff, Nat.reduceLeDiff, h2]
      simp only [Bool.not_eq_false'] at h2
      refine ACalls.use_eq (moment_spec _ one) ?_
      simp -implicitDefEqProofs (maxSteps := 2000000) (disch := first | omega | (simp only [nx_new, nx_set, List.length_cons, List.length_nil, List.length_map, List.length_set, ne_eq, not_true_eq_false, not_false_eq_true, Nat.succ_ne_zero]; done) | (simp only [nx_new, nx_set, List.length_cons, List.length_nil, List.length_map, List.length_set, ne_eq, not_true_eq_false, not_false_eq_true, Nat.succ_ne_zero]; omega)) only [go_sem, reduceIte, reduceCtorEq, Nat.succ_ne_zero, not_false_eq_true, decide_true, decide_false, Nat.reduceAdd, Nat.reduceMul, Nat.reduceEqDiff, Nat.reduceLeDiff]
      refine guardS_split (fun h3 => ?_) (fun h3 => ?_)
      · simp -implicitDefEqProofs (maxSteps := 2000000) (disch := first | omega | (simp only [nx_new, nx_set, List.length_cons, List.length_nil, List.length_map, List.length_set, ne_eq, not_true_eq_false, not_false_eq_true, Nat.succ_ne_zero]; done) | (simp only [nx_new, nx_set, List.length_cons, List.length_nil, List.length_map, List.length_set, ne_eq, not_true_eq_false, not_false_eq_true, Nat.succ_ne_zero]; omega)) only [go_sem, reduceIte, reduceCtorEq, Nat.succ_ne_zero, not_false_eq_true, decide_true, decide_false, Nat.reduceAdd, Nat.reduceMul, Nat.reduceEqDiff, Nat.reduceLeDiff, h3]
        (have hb : argsB l tel one two = false := (by simp only [Bool.not_eq_true'] at h3; rw [argsB_four, h1, h2, h3]; rfl); refine ret_r (v := .tuple #[.slice none 0 0, .int .i64 1]) (by rw [ares_tmp_tmp ret14]; rfl) ⟨none, ?_, Keeps.refl _, ?_⟩; (simp only [ChangesL, errB, hb]; rfl); (simp only [ChangesL, hb]; exact Elems.nil))
      · simp -implicitDefEqProofs (maxSteps := 2000000) (disch := first | omega | (simp only [nx_new, nx_set, List.length_cons, List.length_nil, List.length_map, List.length_set, ne_eq, not_true_eq_false, not_false_eq_true, Nat.succ_ne_zero]; done) | (simp only [nx_new, nx_set, List.length_cons, List.length_nil, List.length_map, List.length_set, ne_eq, not_true_eq_false, not_false_eq_true, Nat.succ_ne_zero]; omega)) only [go_sem, reduceIte, reduceCtorEq, Nat.succ_ne_zero, not_false_eq_true, decide_true, decide_false, Nat.reduceAdd, Nat.reduceMul, Nat.reduceEqDiff, Nat.reduceLeDiff, h3]
        simp only [Bool.not_eq_false'] at h3
        refine ACalls.use_eq (moment_spec _ two) ?_
        simp -implicitDefEqProofs (maxSteps := 2000000) (disch := first | omega | (simp only [nx_new, nx_set, List.length_cons, List.length_nil, List.length_map, List.length_set, ne_eq, not_true_eq_false, not_false_eq_true, Nat.succ_ne_zero]; done) | (simp only [nx_new, nx_set, List.length_cons, List.length_nil, List.length_map, List.length_set, ne_eq, not_true_eq_false, not_false_eq_true, Nat.succ_ne_zero]; omega)) only [go_sem, reduceIte, reduceCtorEq, Nat.succ_ne_zero, not_false_eq_true, decide_true, decide_false, Nat.reduceAdd, Nat.reduceMul, Nat.reduceEqDiff, Nat.reduceLeDiff]
        refine condS_split (fun h4 => ?_) (fun h4 => ?_)
        · simp -implicitDefEqProofs (maxSteps := 2000000) (disch := first | omega | (simp only [nx_new, nx_set, List.length_cons, List.length_nil, List.length_map, List.length_set, ne_eq, not_true_eq_false, not_false_eq_true, Nat.succ_ne_zero]; done) | (simp only [nx_new, nx_set, List.length_cons, List.length_nil, List.length_map, List.length_set, ne_eq, not_true_eq_false, not_false_eq_true, Nat.succ_ne_zero]; omega)) only [go_sem, reduceIte, reduceCtorEq, Nat.succ_ne_zero, not_false_eq_true, decide_true, decide_false, Nat.reduceAdd, Nat.reduceMul, Nat.reduceEqDiff, Nat.reduceLeDiff, h4]
          (have hb : argsB l tel one two = false := (by simp only [Bool.not_eq_true'] at h4; rw [argsB_four, h1, h2, h3, h4]; rfl); refine ret_r (v := .tuple #[.slice none 0 0, .int .i64 1]) (by rw [ares_tmp_tmp ret14]; rfl) ⟨none, ?_, Keeps.refl _, ?_⟩; (simp only [ChangesL, errB, hb]; rfl); (simp only [ChangesL, hb]; exact Elems.nil))
        · simp -implicitDefEqProofs (maxSteps := 2000000) (disch := first | omega | (simp only [nx_new, nx_set, List.length_cons, List.length_nil, List.length_map, List.length_set, ne_eq, not_true_eq_false, not_false_eq_true, Nat.succ_ne_zero]; done) | (simp only [nx_new, nx_set, List.length_cons, List.length_nil, List.length_map, List.length_set, ne_eq, not_true_eq_false, not_false_eq_true, Nat.succ_ne_zero]; omega)) only [go_sem, reduceIte, reduceCtorEq, Nat.succ_ne_zero, not_false_eq_true, decide_true, decide_false, Nat.reduceAdd, Nat.reduceMul, Nat.reduceEqDiff, Nat.reduceLeDiff, h4]
          simp only [Bool.not_eq_false'] at h4
          have hok : argsB l tel one two = true := by rw [argsB_four, h1, h2, h3, h4]; rfl
          have hin := in_of h1
          have ev : errB l tel one two = 0 := by simp [errB, hok]
          have ec : ChangesL l tel one two = changesL l tel one two := by simp [ChangesL, hok]
          rw [ev, ec]
          refine AWP_loop (σ := Int × Hp × Option Addr × List (Int × Int)) (fun s => [(11, .int .i64 s.1), (10, .slice s.2.2.1 s.2.2.2.length s.2.2.2.length), (0, .slice a l.length l.length), (1, .int .i64 tel), (2, .int .i64 one), (3, .int .i64 two)])
            (fun s => s.2.1) (fun s => 0 ≤ s.1 ∧ s.1 ≤ 38400 ∧ Keeps H s.2.1 ∧ OwnSl H.next s.2.1 s.2.2.1 2 (s.2.2.2.map spc).flatten ∧ ScanTo l tel one two s.1 s.2.2.2) (fun s => (38400 - s.1).toNat) (0, H, none, []) ⟨Int.le_refl _, (by decide : (0 : Int) ≤ 38400), Keeps.refl _, OwnSl.none, ⟨trivial, (fun t h => by cases h), (fun x => by rw [decide_eq_false (by simp only; omega)]; rfl)⟩⟩ (Weak.sub ?_) ?_
          · (simp -implicitDefEqProofs (disch := omega) only [Abs.Sub, get_cons_eq, get_cons_ne, and_self, Option.some.injEq, Value.int.injEq, Value.slice.injEq, true_and, and_true, Int.natCast_zero, Int.natCast_add, Int.natCast_one, List.length_nil]; try omega)
          · rintro ⟨m, G, c, out⟩ ⟨hm0, hm1, hkeep, hown, hscan⟩
            simp only at hm0 hm1 hkeep hown hscan ⊢
            refine AWP_of_awp ?_
            by_cases hm : m < 38400
            · simp -implicitDefEqProofs (maxSteps := 2000000) (disch := first | omega | (simp only [nx_new, nx_set, List.length_cons, List.length_nil, List.length_map, List.length_set, ne_eq, not_true_eq_false, not_false_eq_true, Nat.succ_ne_zero]; done) | (simp only [nx_new, nx_set, List.length_cons, List.length_nil, List.length_map, List.length_set, ne_eq, not_true_eq_false, not_false_eq_true, Nat.succ_ne_zero]; omega)) only [go_sem, reduceIte, reduceCtorEq, Nat.succ_ne_zero, not_false_eq_true, decide_true, decide_false, Nat.reduceAdd, Nat.reduceMul, Nat.reduceEqDiff, Nat.reduceLeDiff]
              refine AWP_loop (σ := Nat) (fun k => [(13, .int .i64 k), (12, .int .i64 (nextB (l.take k) m)), (11, .int .i64 m), (10, .slice c out.length out.length), (0, .slice a l.length l.length), (1, .int .i64 tel), (2, .int .i64 one), (3, .int .i64 two)])
                (fun _ => G) (fun k => k ≤ l.length) (fun k => l.length - k) 0 (Nat.zero_le _) (Weak.sub ?_) ?_
              · simp -implicitDefEqProofs (disch := omega) only [Abs.Sub, get_cons_eq, get_cons_ne, and_self, Int.natCast_zero, Int.natCast_add, Int.natCast_one]
                simp [nextB]
              · rintro k hk
                refine AWP_of_awp ?_
                by_cases hlt : k < l.length
                · obtain ⟨b0, o, rfl, hb, hload⟩ := (he.grows hkeep.grows) k (by simpa using hlt)
                  have hd := hin _ (List.getElem_mem hlt)
                  have hnext := nextB_succ hlt m
                  simp only [List.getElem_map, D.cells] at hload
                  generalize l[k] = d at *
                  generalize hn' : nextB (l.take (k + 1)) m = n' at *
                  generalize nextB (l.take k) m = n at *
                  obtain ⟨hi1, hi2, hi3, hi4, hi5, hi6, hi7, hi8, hi9⟩ := hd
                  have h5 : load1 G ⟨b0, o + k * 5 + 2, none⟩ = some (.int .i64 d.frm) := (load1_part (i := 2) hload (by simp)).trans rfl
                  have h6 : load1 G ⟨b0, o + k * 5 + 3, none⟩ = some (.int .i64 d.til) := (load1_part (i := 3) hload (by simp)).trans rfl
                  unfold nextStep at hnext
                  simp only at hnext
                  by_cases c1 : m < d.frm <;> by_cases c2 : m ≤ d.til <;> simp only [c1, c2, if_true, if_false] at hnext
                  · simp -implicitDefEqProofs (maxSteps := 2000000) (disch := first | omega | (simp only [nx_new, nx_set, List.length_cons, List.length_nil, List.length_map, List.length_set, ne_eq, not_true_eq_false, not_false_eq_true, Nat.succ_ne_zero]; done) | (simp only [nx_new, nx_set, List.length_cons, List.length_nil, List.length_map, List.length_set, ne_eq, not_true_eq_false, not_false_eq_true, Nat.succ_ne_zero]; omega)) only [go_sem, reduceIte, reduceCtorEq, Nat.succ_ne_zero, not_false_eq_true, decide_true, decide_false, Nat.reduceAdd, Nat.reduceMul, Nat.reduceEqDiff, Nat.reduceLeDiff, h5, h6]
                    refine ⟨k + 1, hlt, by omega, Weak.sub ?_⟩
                    (simp -implicitDefEqProofs (disch := omega) only [Abs.Sub, get_cons_eq, get_cons_ne, and_self, Option.some.injEq, Value.int.injEq, Value.slice.injEq, true_and, and_true, Int.natCast_zero, Int.natCast_add, Int.natCast_one, List.length_nil]; try omega)
                  · omega
                  · simp -implicitDefEqProofs (maxSteps := 2000000) (disch := first | omega | (simp only [nx_new, nx_set, List.length_cons, List.length_nil, List.length_map, List.length_set, ne_eq, not_true_eq_false, not_false_eq_true, Nat.succ_ne_zero]; done) | (simp only [nx_new, nx_set, List.length_cons, List.length_nil, List.length_map, List.length_set, ne_eq, not_true_eq_false, not_false_eq_true, Nat.succ_ne_zero]; omega)) only [go_sem, reduceIte, reduceCtorEq, Nat.succ_ne_zero, not_false_eq_true, decide_true, decide_false, Nat.reduceAdd, Nat.reduceMul, Nat.reduceEqDiff, Nat.reduceLeDiff, h5, h6]
                    refine ⟨k + 1, hlt, by omega, Weak.sub ?_⟩
                    (simp -implicitDefEqProofs (disch := omega) only [Abs.Sub, get_cons_eq, get_cons_ne, and_self, Option.some.injEq, Value.int.injEq, Value.slice.injEq, true_and, and_true, Int.natCast_zero, Int.natCast_add, Int.natCast_one, List.length_nil]; try omega)
                  · simp -implicitDefEqProofs (maxSteps := 2000000) (disch := first | omega | (simp only [nx_new, nx_set, List.length_cons, List.length_nil, List.length_map, List.length_set, ne_eq, not_true_eq_false, not_false_eq_true, Nat.succ_ne_zero]; done) | (simp only [nx_new, nx_set, List.length_cons, List.length_nil, List.length_map, List.length_set, ne_eq, not_true_eq_false, not_false_eq_true, Nat.succ_ne_zero]; omega)) only [go_sem, reduceIte, reduceCtorEq, Nat.succ_ne_zero, not_false_eq_true, decide_true, decide_false, Nat.reduceAdd, Nat.reduceMul, Nat.reduceEqDiff, Nat.reduceLeDiff, h5, h6]
                    refine ⟨k + 1, hlt, by omega, Weak.sub ?_⟩
                    (simp -implicitDefEqProofs (disch := omega) only [Abs.Sub, get_cons_eq, get_cons_ne, and_self, Option.some.injEq, Value.int.injEq, Value.slice.injEq, true_and, and_true, Int.natCast_zero, Int.natCast_add, Int.natCast_one, List.length_nil]; try omega)
                · have e : l.take k = l := List.take_of_length_le (by omega)
                  rw [e]
                  have hlen := normF_len hscan.norm hscan.lt hm0
                  have hskip := hscan.skip hm0 hm
                  have hadd := hscan.add hm0 hm
                  have hn1 := nextB_lt hm l
                  have hn2 := nextB_le l m
                  generalize nextB l m = n at *
                  simp -implicitDefEqProofs (maxSteps := 2000000) (disch := first | omega | (simp only [nx_new, nx_set, List.length_cons, List.length_nil, List.length_map, List.length_set, ne_eq, not_true_eq_false, not_false_eq_true, Nat.succ_ne_zero]; done) | (simp only [nx_new, nx_set, List.length_cons, List.length_nil, List.length_map, List.length_set, ne_eq, not_true_eq_false, not_false_eq_true, Nat.succ_ne_zero]; omega)) only [go_sem, reduceIte, reduceCtorEq, Nat.succ_ne_zero, not_false_eq_true, decide_true, decide_false, Nat.reduceAdd, Nat.reduceMul, Nat.reduceEqDiff, Nat.reduceLeDiff]
                  refine ACalls.use_eq (refmask_spec _ _ l tel m one hl (he.grows hkeep.grows) hin) ?_
                  simp -implicitDefEqProofs (maxSteps := 2000000) (disch := first | omega | (simp only [nx_new, nx_set, List.length_cons, List.length_nil, List.length_map, List.length_set, ne_eq, not_true_eq_false, not_false_eq_true, Nat.succ_ne_zero]; done) | (simp only [nx_new, nx_set, List.length_cons, List.length_nil, List.length_map, List.length_set, ne_eq, not_true_eq_false, not_false_eq_true, Nat.succ_ne_zero]; omega)) only [go_sem, reduceIte, reduceCtorEq, Nat.succ_ne_zero, not_false_eq_true, decide_true, decide_false, Nat.reduceAdd, Nat.reduceMul, Nat.reduceEqDiff, Nat.reduceLeDiff]
                  refine ACalls.use_eq (refmask_spec _ _ l tel m two hl (he.grows hkeep.grows) hin) ?_
                  obtain ⟨x1, y1, z1, u1, e1⟩ := vb4 _ (maskB_length l tel m one)
                  obtain ⟨x2, y2, z2, u2, e2⟩ := vb4 _ (maskB_length l tel m two)
                  rw [e1, e2] at hskip hadd
                  simp only [vb, e1, e2, List.map_cons, List.map_nil]
                  simp -implicitDefEqProofs (maxSteps := 2000000) (disch := first | omega | (simp only [nx_new, nx_set, List.length_cons, List.length_nil, List.length_map, List.length_set, ne_eq, not_true_eq_false, not_false_eq_true, Nat.succ_ne_zero]; done) | (simp only [nx_new, nx_set, List.length_cons, List.length_nil, List.length_map, List.length_set, ne_eq, not_true_eq_false, not_false_eq_true, Nat.succ_ne_zero]; omega)) only [go_sem, reduceIte, reduceCtorEq, Nat.succ_ne_zero, not_false_eq_true, decide_true, decide_false, Nat.reduceAdd, Nat.reduceMul, Nat.reduceEqDiff, Nat.reduceLeDiff]
                  refine condS_split (fun hd => ?_) (fun hd => ?_)
                  · have hne : ¬([x1, y1, z1, u1] = [x2, y2, z2, u2]) := fun h => by
                      cases h
                      simp at hd
                    have hadd := hadd hne
                    simp -implicitDefEqProofs (maxSteps := 2000000) (disch := first | omega | (simp only [nx_new, nx_set, List.length_cons, List.length_nil, List.length_map, List.length_set, ne_eq, not_true_eq_false, not_false_eq_true, Nat.succ_ne_zero]; done) | (simp only [nx_new, nx_set, List.length_cons, List.length_nil, List.length_map, List.length_set, ne_eq, not_true_eq_false, not_false_eq_true, Nat.succ_ne_zero]; omega)) only [go_sem, reduceIte, reduceCtorEq, Nat.succ_ne_zero, not_false_eq_true, decide_true, decide_false, Nat.reduceAdd, Nat.reduceMul, Nat.reduceEqDiff, Nat.reduceLeDiff, hd]
                    rcases List.eq_nil_or_concat out with rfl | ⟨init, t, hout⟩
                    · obtain ⟨G', hap, hn, hg, hold⟩ := append_own (P := Try.prog) u30 u30 ts39 tb39 tz39 rfl (by decide) (by decide) (G := G.new (.row [.int .i64 m, .int .i64 (n - 1)] true 2)) (lo := H.next) (n := 0) (c := 0) (m := 1) (c' := 1) (r := G.next) (ro := 0) (xs := [.int .i64 m, .int .i64 (n - 1)]) (hown.keeps (Keeps.new _ _))
                        (by simp -implicitDefEqProofs (maxSteps := 2000000) (disch := first | omega | (simp only [nx_new, nx_set, List.length_cons, List.length_nil, List.length_map, List.length_set, ne_eq, not_true_eq_false, not_false_eq_true, Nat.succ_ne_zero]; done) | (simp only [nx_new, nx_set, List.length_cons, List.length_nil, List.length_map, List.length_set, ne_eq, not_true_eq_false, not_false_eq_true, Nat.succ_ne_zero]; omega)) only [go_sem, reduceIte, reduceCtorEq, Nat.succ_ne_zero, not_false_eq_true, decide_true, decide_false, Nat.reduceAdd, Nat.reduceMul, Nat.reduceEqDiff, Nat.reduceLeDiff]) rfl (by decide) rfl (by decide)
                      simp -implicitDefEqProofs (maxSteps := 2000000) (disch := first | omega | (simp only [nx_new, nx_set, List.length_cons, List.length_nil, List.length_map, List.length_set, ne_eq, not_true_eq_false, not_false_eq_true, Nat.succ_ne_zero]; done) | (simp only [nx_new, nx_set, List.length_cons, List.length_nil, List.length_map, List.length_set, ne_eq, not_true_eq_false, not_false_eq_true, Nat.succ_ne_zero]; omega)) only [go_sem, reduceIte, reduceCtorEq, Nat.succ_ne_zero, not_false_eq_true, decide_true, decide_false, Nat.reduceAdd, Nat.reduceMul, Nat.reduceEqDiff, Nat.reduceLeDiff]
                      try simp only [List.length_nil] at hap ⊢
                      simp only [Nat.zero_add] at hap
                      rw [hap]
                      simp -implicitDefEqProofs (maxSteps := 2000000) (disch := first | omega | (simp only [nx_new, nx_set, List.length_cons, List.length_nil, List.length_map, List.length_set, ne_eq, not_true_eq_false, not_false_eq_true, Nat.succ_ne_zero]; done) | (simp only [nx_new, nx_set, List.length_cons, List.length_nil, List.length_map, List.length_set, ne_eq, not_true_eq_false, not_false_eq_true, Nat.succ_ne_zero]; omega)) only [go_sem, reduceIte, reduceCtorEq, Nat.succ_ne_zero, not_false_eq_true, decide_true, decide_false, Nat.reduceAdd, Nat.reduceMul, Nat.reduceEqDiff, Nat.reduceLeDiff]
                      have ea : ((n : Int) - 1) + 1 = n := by omega
                      refine ⟨(n, G', some ⟨G.next + 1, 0, none⟩, addL [] (m, n - 1)), ⟨by simp only; omega, hn2, ⟨?_, fun b hb => ?_⟩, .inr ⟨G.next + 1, rfl, ?_, ?_, ?_⟩, hadd⟩, by simp only; omega, Weak.sub ?_⟩
                      · have := hkeep.next; rw [hn]; simp only [Hp.next_new]; omega
                      · have := hkeep.next
                        rw [hold b (by simp only [Hp.next_new]; omega) (hown.lo_ne hb), Hp.get_new_ne _ _ _ (by omega)]
                        exact hkeep.get b hb
                      · have := hkeep.next; omega
                      · rw [hn]; simp only [Hp.next_new]; omega
                      · have hg' : G'.get (G.next + 1) = _ := hg
                        rw [hg']
                        simp [addL, spc]
                      · have e0 : (addL [] (m, n - 1)).length = 1 := rfl
                        simp only [ea, e0]
                        simp -implicitDefEqProofs (disch := omega) only [Abs.Sub, get_cons_eq, get_cons_ne, and_self, Int.natCast_zero, Int.natCast_add, Int.natCast_one]
                    · rw [List.concat_eq_append] at hout
                      have hol : out.length = init.length + 1 := by rw [hout]; simp
                      have hcs := spc_flat out
                      obtain ⟨q, rfl, hq1, hq2, hqg⟩ : ∃ q, c = some ⟨q, 0, none⟩ ∧ H.next ≤ q ∧ q < G.next ∧ G.get q = .row (out.map spc).flatten true 2 := by
                        rcases hown with ⟨_, h⟩ | h
                        · rw [h] at hcs; simp at hcs; omega
                        · exact h
                      have hE := Elems.row (H := G) hq2 hqg (spc_len out)
                      obtain ⟨_, _, hb1, _, hld⟩ := hE init.length (by rw [List.length_map]; omega)
                      cases hb1
                      have ht : out[init.length]'(by omega) = t := by simp [hout]
                      simp only [List.getElem_map, ht, spc, Nat.zero_add] at hld
                      have hl2 : load1 G ⟨q, init.length * 2 + 1, none⟩ = some (.int .i64 t.2) := (load1_part (i := 1) hld (by simp)).trans rfl
                      have hidx : ((out.length : Int) - 1).toNat = init.length := by omega
                      simp -implicitDefEqProofs (maxSteps := 2000000) (disch := first | omega | (simp only [nx_new, nx_set, List.length_cons, List.length_nil, List.length_map, List.length_set, ne_eq, not_true_eq_false, not_false_eq_true, Nat.succ_ne_zero]; done) | (simp only [nx_new, nx_set, List.length_cons, List.length_nil, List.length_map, List.length_set, ne_eq, not_true_eq_false, not_false_eq_true, Nat.succ_ne_zero]; omega)) only [go_sem, reduceIte, reduceCtorEq, Nat.succ_ne_zero, not_false_eq_true, decide_true, decide_false, Nat.reduceAdd, Nat.reduceMul, Nat.reduceEqDiff, Nat.reduceLeDiff, hidx, hl2]
                      have ea : ((n : Int) - 1) + 1 = n := by omega
                      refine condS_split (fun hc => ?_) (fun hc => ?_)
                      · have hp2 : t.2 + 1 = m := by have := beq_iff_eq.1 hc; omega
                        have e3 : addL out (m, n - 1) = init ++ [(t.1, n - 1)] := by rw [hout, addL_last, if_pos hp2]
                        have e4 : (addL out (m, n - 1)).length = out.length := by rw [e3, hol]; simp
                        simp -implicitDefEqProofs (maxSteps := 2000000) (disch := first | omega | (simp only [nx_new, nx_set, List.length_cons, List.length_nil, List.length_map, List.length_set, ne_eq, not_true_eq_false, not_false_eq_true, Nat.succ_ne_zero]; done) | (simp only [nx_new, nx_set, List.length_cons, List.length_nil, List.length_map, List.length_set, ne_eq, not_true_eq_false, not_false_eq_true, Nat.succ_ne_zero]; omega)) only [go_sem, reduceIte, reduceCtorEq, Nat.succ_ne_zero, not_false_eq_true, decide_true, decide_false, Nat.reduceAdd, Nat.reduceMul, Nat.reduceEqDiff, Nat.reduceLeDiff, hc, hidx, hqg]
                        have eG : G.set q (.row ((out.map spc).flatten.set (init.length * 2 + 1) (.int .i64 (n - 1))) true 2) = G.set q (.row ((addL out (m, n - 1)).map spc).flatten true 2) := by rw [e3, ← spc_set, ← hout]
                        rw [eG]
                        refine ⟨(n, G.set q (.row ((addL out (m, n - 1)).map spc).flatten true 2), some ⟨q, 0, none⟩, addL out (m, n - 1)), ⟨by simp only; omega, hn2, hkeep.set hq1, .inr ⟨q, rfl, hq1, hq2, Hp.get_set_same _ _ _ _ rfl⟩, hadd⟩, by simp only; omega, Weak.sub ?_⟩
                        simp only [ea, e4]
                        simp -implicitDefEqProofs (disch := omega) only [Abs.Sub, get_cons_eq, get_cons_ne, and_self, Int.natCast_zero, Int.natCast_add, Int.natCast_one]
                      · have hp2 : ¬t.2 + 1 = m := by have := beq_eq_false_iff_ne.1 hc; omega
                        have e3 : addL out (m, n - 1) = out ++ [(m, n - 1)] := by rw [hout, addL_last, if_neg hp2]
                        have e4 : (addL out (m, n - 1)).length = out.length + 1 := by rw [e3]; simp
                        simp -implicitDefEqProofs (maxSteps := 2000000) (disch := first | omega | (simp only [nx_new, nx_set, List.length_cons, List.length_nil, List.length_map, List.length_set, ne_eq, not_true_eq_false, not_false_eq_true, Nat.succ_ne_zero]; done) | (simp only [nx_new, nx_set, List.length_cons, List.length_nil, List.length_map, List.length_set, ne_eq, not_true_eq_false, not_false_eq_true, Nat.succ_ne_zero]; omega)) only [go_sem, reduceIte, reduceCtorEq, Nat.succ_ne_zero, not_false_eq_true, decide_true, decide_false, Nat.reduceAdd, Nat.reduceMul, Nat.reduceEqDiff, Nat.reduceLeDiff, hc]
                        obtain ⟨G', hap, hn, hg, hold⟩ := append_own (P := Try.prog) u30 u30 ts39 tb39 tz39 rfl (by decide) (by decide) (G := G.new (.row [.int .i64 m, .int .i64 (n - 1)] true 2)) (lo := H.next) (n := out.length) (c := out.length) (m := 1) (c' := 1) (r := G.next) (ro := 0) (xs := [.int .i64 m, .int .i64 (n - 1)]) (hown.keeps (Keeps.new _ _))
                          (by simp -implicitDefEqProofs (maxSteps := 2000000) (disch := first | omega | (simp only [nx_new, nx_set, List.length_cons, List.length_nil, List.length_map, List.length_set, ne_eq, not_true_eq_false, not_false_eq_true, Nat.succ_ne_zero]; done) | (simp only [nx_new, nx_set, List.length_cons, List.length_nil, List.length_map, List.length_set, ne_eq, not_true_eq_false, not_false_eq_true, Nat.succ_ne_zero]; omega)) only [go_sem, reduceIte, reduceCtorEq, Nat.succ_ne_zero, not_false_eq_true, decide_true, decide_false, Nat.reduceAdd, Nat.reduceMul, Nat.reduceEqDiff, Nat.reduceLeDiff]) rfl (by decide) hcs (by omega)
                        rw [hap]
                        simp -implicitDefEqProofs (maxSteps := 2000000) (disch := first | omega | (simp only [nx_new, nx_set, List.length_cons, List.length_nil, List.length_map, List.length_set, ne_eq, not_true_eq_false, not_false_eq_true, Nat.succ_ne_zero]; done) | (simp only [nx_new, nx_set, List.length_cons, List.length_nil, List.length_map, List.length_set, ne_eq, not_true_eq_false, not_false_eq_true, Nat.succ_ne_zero]; omega)) only [go_sem, reduceIte, reduceCtorEq, Nat.succ_ne_zero, not_false_eq_true, decide_true, decide_false, Nat.reduceAdd, Nat.reduceMul, Nat.reduceEqDiff, Nat.reduceLeDiff]
                        refine ⟨(n, G', some ⟨G.next + 1, 0, none⟩, addL out (m, n - 1)), ⟨by simp only; omega, hn2, ⟨?_, fun b hb => ?_⟩, .inr ⟨G.next + 1, rfl, ?_, ?_, ?_⟩, hadd⟩, by simp only; omega, Weak.sub ?_⟩
                        · have := hkeep.next; rw [hn]; simp only [Hp.next_new]; omega
                        · have := hkeep.next
                          rw [hold b (by simp only [Hp.next_new]; omega) (hown.lo_ne hb), Hp.get_new_ne _ _ _ (by omega)]
                          exact hkeep.get b hb
                        · have := hkeep.next; omega
                        · rw [hn]; simp only [Hp.next_new]; omega
                        · rw [e3, ← spc_app]
                          exact hg
                        · simp only [ea, e4]
                          simp -implicitDefEqProofs (disch := omega) only [Abs.Sub, get_cons_eq, get_cons_ne, and_self, Int.natCast_zero, Int.natCast_add, Int.natCast_one]
                  · have heq : [x1, y1, z1, u1] = [x2, y2, z2, u2] := by
                      revert hd
                      cases x1 <;> cases x2 <;> cases y1 <;> cases y2 <;> cases z1 <;> cases z2 <;> cases u1 <;> cases u2 <;> intro hd <;> first | rfl | (cases hd)
                    have hskip := hskip heq
                    simp -implicitDefEqProofs (maxSteps := 2000000) (disch := first | omega | (simp only [nx_new, nx_set, List.length_cons, List.length_nil, List.length_map, List.length_set, ne_eq, not_true_eq_false, not_false_eq_true, Nat.succ_ne_zero]; done) | (simp only [nx_new, nx_set, List.length_cons, List.length_nil, List.length_map, List.length_set, ne_eq, not_true_eq_false, not_false_eq_true, Nat.succ_ne_zero]; omega)) only [go_sem, reduceIte, reduceCtorEq, Nat.succ_ne_zero, not_false_eq_true, decide_true, decide_false, Nat.reduceAdd, Nat.reduceMul, Nat.reduceEqDiff, Nat.reduceLeDiff, hd]
                    have ea : ((n : Int) - 1) + 1 = n := by omega
                    refine ⟨(n, G, c, out), ⟨by simp only; omega, hn2, hkeep, hown, hskip⟩, by simp only; omega, Weak.sub ?_⟩
                    simp only [ea]
                    simp -implicitDefEqProofs (disch := omega) only [Abs.Sub, get_cons_eq, get_cons_ne, and_self, Int.natCast_zero, Int.natCast_add, Int.natCast_one]
            · have hm' : m = 38400 := by omega
              subst hm'
              have heq : out = changesL l tel one two := norm_unique hscan.norm (changes_norm hin _ _ _) fun x => by rw [hscan.ins, changes_inside hin]
              subst heq
              simp -implicitDefEqProofs (maxSteps := 2000000) (disch := first | omega | (simp only [nx_new, nx_set, List.length_cons, List.length_nil, List.length_map, List.length_set, ne_eq, not_true_eq_false, not_false_eq_true, Nat.succ_ne_zero]; done) | (simp only [nx_new, nx_set, List.length_cons, List.length_nil, List.length_map, List.length_set, ne_eq, not_true_eq_false, not_false_eq_true, Nat.succ_ne_zero]; omega)) only [go_sem, reduceIte, reduceCtorEq, Nat.succ_ne_zero, not_false_eq_true, decide_true, decide_false, Nat.reduceAdd, Nat.reduceMul, Nat.reduceEqDiff, Nat.reduceLeDiff]
              exact ret_r (v := .tuple #[.slice c (changesL l tel one two).length (changesL l tel one two).length, .int .i64 0]) (by rw [ares_tmp_tmp ret14]; rfl) ⟨c, rfl, hkeep, hown.elems (spc_len _) (by decide)⟩

theorem n3 : Try.f3.ntmps = 87 := rfl
theorem ret3 : Try.f3.results = #[.tmp 12] := rfl
theorem ChangesL_len' (l : List D) (tel one two : Int) : (ChangesL l tel one two).length ≤ 1000 := by
  by_cases h : validB l = true
  · exact ChangesL_len _ _ _ (by simp only [validB, Bool.and_eq_true, decide_eq_true_eq] at h; exact h.2)
  · have : argsB l tel one two = false := by simp only [argsB, Bool.eq_false_iff.2 h]; rfl
    rw [ChangesL, this]
    exact Nat.zero_le _
theorem match_law (H : Hp) (a : Option Addr) (l : List D) (tel valid known one two : Int) (he : Elems H a 5 (l.map D.cells)) :
    ACalls Try.prog 3 [.slice a l.length l.length, .int .i64 tel, .int .i64 valid, .int .i64 known, .int .i64 one, .int .i64 two] H (fun v H' => v = .bool true) := by
  refine ACalls_enter Try.func3 (by kernel_rfl) rfl (by kernel_rfl) (by simp [n3]) fun hw hr => AWP_of_awp ?_
  simp -implicitDefEqProofs (maxSteps := 2000000) (disch := first | omega | (simp only [nx_new, nx_set, List.length_cons, List.length_nil, List.length_map, List.length_set, ne_eq, not_true_eq_false, not_false_eq_true, Nat.succ_ne_zero]; done) | (simp only [nx_new, nx_set, List.length_cons, List.length_nil, List.length_map, List.length_set, ne_eq, not_true_eq_false, not_false_eq_true, Nat.succ_ne_zero]; omega)) only [go_sem, reduceIte, reduceCtorEq, Nat.succ_ne_zero, not_false_eq_true, decide_true, decide_false, Nat.reduceAdd, Nat.reduceMul, Nat.reduceEqDiff, Nat.reduceLeDiff]
  refine ACalls.use_eq (head_spec _) ?_
  simp -implicitDefEqProofs (maxSteps := 2000000) (disch := first | omega | (simp only [nx_new, nx_set, List.length_cons, List.length_nil, List.length_map, List.length_set, ne_eq, not_true_eq_false, not_false_eq_true, Nat.succ_ne_zero]; done) | (simp only [nx_new, nx_set, List.length_cons, List.length_nil, List.length_map, List.length_set, ne_eq, not_true_eq_false, not_false_eq_true, Nat.succ_ne_zero]; omega)) only [go_sem, reduceIte, reduceCtorEq, Nat.succ_ne_zero, not_false_eq_true, decide_true, decide_false, Nat.reduceAdd, Nat.reduceMul, Nat.reduceEqDiff, Nat.reduceLeDiff]
  refine ACalls.use_eq (few_spec _ _ l.length) ?_
  simp -implicitDefEqProofs (maxSteps := 2000000) (disch := first | omega | (simp only [nx_new, nx_set, List.length_cons, List.length_nil, List.length_map, List.length_set, ne_eq, not_true_eq_false, not_false_eq_true, Nat.succ_ne_zero]; done) | (simp only [nx_new, nx_set, List.length_cons, List.length_nil, List.length_map, List.length_set, ne_eq, not_true_eq_false, not_false_eq_true, Nat.succ_ne_zero]; omega)) only [go_sem, reduceIte, reduceCtorEq, Nat.succ_ne_zero, not_false_eq_true, decide_true, decide_false, Nat.reduceAdd, Nat.reduceMul, Nat.reduceEqDiff, Nat.reduceLeDiff]
  refine condS_split (fun hc => ?_) (fun hc => ?_)
  · simp -implicitDefEqProofs (maxSteps := 2000000) (disch := first | omega | (simp only [nx_new, nx_set, List.length_cons, List.length_nil, List.length_map, List.length_set, ne_eq, not_true_eq_false, not_false_eq_true, Nat.succ_ne_zero]; done) | (simp only [nx_new, nx_set, List.length_cons, List.length_nil, List.length_map, List.length_set, ne_eq, not_true_eq_false, not_false_eq_true, Nat.succ_ne_zero]; omega)) only [go_sem, reduceIte, reduceCtorEq, Nat.succ_ne_zero, not_false_eq_true, decide_true, decide_false, Nat.reduceAdd, Nat.reduceMul, Nat.reduceEqDiff, Nat.reduceLeDiff, hc]
    exact ret_r (v := .bool true) (by rw [ares_tmp ret3]; rfl) rfl
  · have hlen : l.length ≤ 201 := by
      simp only [Bool.not_eq_false', Bool.or_eq_true, Bool.and_eq_true, decide_eq_true_eq] at hc
      omega
    have hl : l.length ≤ 9223372036854775806 := by omega
    simp -implicitDefEqProofs (maxSteps := 2000000) (disch := first | omega | (simp only [nx_new, nx_set, List.length_cons, List.length_nil, List.length_map, List.length_set, ne_eq, not_true_eq_false, not_false_eq_true, Nat.succ_ne_zero]; done) | (simp only [nx_new, nx_set, List.length_cons, List.length_nil, List.length_map, List.length_set, ne_eq, not_true_eq_false, not_false_eq_true, Nat.succ_ne_zero]; omega)) only [go_sem, reduceIte, reduceCtorEq, Nat.succ_ne_zero, not_false_eq_true, decide_true, decide_false, Nat.reduceAdd, Nat.reduceMul, Nat.reduceEqDiff, Nat.reduceLeDiff, hc]
    refine ACalls.use_eq (Mask_spec _ _ l tel valid known hl he) ?_
    obtain ⟨x1, y1, z1, w1, p1⟩ := vb4 _ (MaskB_length l tel valid known)
    rw [maskV_of p1]
    simp -implicitDefEqProofs (maxSteps := 2000000) (disch := first | omega | (simp only [nx_new, nx_set, List.length_cons, List.length_nil, List.length_map, List.length_set, ne_eq, not_true_eq_false, not_false_eq_true, Nat.succ_ne_zero]; done) | (simp only [nx_new, nx_set, List.length_cons, List.length_nil, List.length_map, List.length_set, ne_eq, not_true_eq_false, not_false_eq_true, Nat.succ_ne_zero]; omega)) only [go_sem, reduceIte, reduceCtorEq, Nat.succ_ne_zero, not_false_eq_true, decide_true, decide_false, Nat.reduceAdd, Nat.reduceMul, Nat.reduceEqDiff, Nat.reduceLeDiff]
    refine ACalls.use_eq (refMask_spec _ _ l tel valid known hl (he.grows (Grows.new _ _))) ?_
    rw [maskV_of p1]
    simp -implicitDefEqProofs (maxSteps := 2000000) (disch := first | omega | (simp only [nx_new, nx_set, List.length_cons, List.length_nil, List.length_map, List.length_set, ne_eq, not_true_eq_false, not_false_eq_true, Nat.succ_ne_zero]; done) | (simp only [nx_new, nx_set, List.length_cons, List.length_nil, List.length_map, List.length_set, ne_eq, not_true_eq_false, not_false_eq_true, Nat.succ_ne_zero]; omega)) only [go_sem, reduceIte, reduceCtorEq, Nat.succ_ne_zero, not_false_eq_true, decide_true, decide_false, Nat.reduceAdd, Nat.reduceMul, Nat.reduceEqDiff, Nat.reduceLeDiff]
    refine (Changes_spec _ _ l tel one two hl (he.grows ((Grows.new _ _).trans (Grows.new _ _)))).mono ?_
    rintro _ G1 ⟨o1, rfl, hk1, hs1⟩
    simp -implicitDefEqProofs (maxSteps := 2000000) (disch := first | omega | (simp only [nx_new, nx_set, List.length_cons, List.length_nil, List.length_map, List.length_set, ne_eq, not_true_eq_false, not_false_eq_true, Nat.succ_ne_zero]; done) | (simp only [nx_new, nx_set, List.length_cons, List.length_nil, List.length_map, List.length_set, ne_eq, not_true_eq_false, not_false_eq_true, Nat.succ_ne_zero]; omega)) only [go_sem, reduceIte, reduceCtorEq, Nat.succ_ne_zero, not_false_eq_true, decide_true, decide_false, Nat.reduceAdd, Nat.reduceMul, Nat.reduceEqDiff, Nat.reduceLeDiff]
    refine (refChanges_spec _ _ l tel one two hl ((he.grows ((Grows.new _ _).trans (Grows.new _ _))).grows hk1.grows)).mono ?_
    rintro _ G2 ⟨o2, rfl, hk2, hs2⟩
    have hlx := ChangesL_len' l tel one two
    have hkk := hk1.trans hk2
    have heG := (he.grows ((Grows.new _ (.row [.bool x1, .bool y1, .bool z1, .bool w1] true 0)).trans (Grows.new _ (.row [.bool x1, .bool y1, .bool z1, .bool w1] true 0)))).grows hkk.grows
    generalize errB l tel valid known = e1 at *
    generalize errB l tel one two = e2 at *
    simp -implicitDefEqProofs (maxSteps := 2000000) (disch := first | omega | (simp only [nx_new, nx_set, List.length_cons, List.length_nil, List.length_map, List.length_set, ne_eq, not_true_eq_false, not_false_eq_true, Nat.succ_ne_zero]; done) | (simp only [nx_new, nx_set, List.length_cons, List.length_nil, List.length_map, List.length_set, ne_eq, not_true_eq_false, not_false_eq_true, Nat.succ_ne_zero]; omega)) only [go_sem, reduceIte, reduceCtorEq, Nat.succ_ne_zero, not_false_eq_true, decide_true, decide_false, Nat.reduceAdd, Nat.reduceMul, Nat.reduceEqDiff, Nat.reduceLeDiff]
    refine ACalls.use_eq (valid_spec _ _ l hl heG) ?_
    simp -implicitDefEqProofs (maxSteps := 2000000) (disch := first | omega | (simp only [nx_new, nx_set, List.length_cons, List.length_nil, List.length_map, List.length_set, ne_eq, not_true_eq_false, not_false_eq_true, Nat.succ_ne_zero]; done) | (simp only [nx_new, nx_set, List.length_cons, List.length_nil, List.length_map, List.length_set, ne_eq, not_true_eq_false, not_false_eq_true, Nat.succ_ne_zero]; omega)) only [go_sem, reduceIte, reduceCtorEq, Nat.succ_ne_zero, not_false_eq_true, decide_true, decide_false, Nat.reduceAdd, Nat.reduceMul, Nat.reduceEqDiff, Nat.reduceLeDiff]
    refine ACalls.use_eq (refValid_spec _ _ l hl heG) ?_
    simp -implicitDefEqProofs (maxSteps := 2000000) (disch := first | omega | (simp only [nx_new, nx_set, List.length_cons, List.length_nil, List.length_map, List.length_set, ne_eq, not_true_eq_false, not_false_eq_true, Nat.succ_ne_zero]; done) | (simp only [nx_new, nx_set, List.length_cons, List.length_nil, List.length_map, List.length_set, ne_eq, not_true_eq_false, not_false_eq_true, Nat.succ_ne_zero]; omega)) only [go_sem, reduceIte, reduceCtorEq, Nat.succ_ne_zero, not_false_eq_true, decide_true, decide_false, Nat.reduceAdd, Nat.reduceMul, Nat.reduceEqDiff, Nat.reduceLeDiff, hkk.ld, beq_self_eq_true, b_eqlB]
    refine ACalls.use_eq (spans_spec _ _ _ _ _ (by omega) (by omega) (hs1.grows hk2.grows) hs2) ?_
    rw [decide_eq_true rfl]
    simp -implicitDefEqProofs (maxSteps := 2000000) (disch := first | omega | (simp only [nx_new, nx_set, List.length_cons, List.length_nil, List.length_map, List.length_set, ne_eq, not_true_eq_false, not_false_eq_true, Nat.succ_ne_zero]; done) | (simp only [nx_new, nx_set, List.length_cons, List.length_nil, List.length_map, List.length_set, ne_eq, not_true_eq_false, not_false_eq_true, Nat.succ_ne_zero]; omega)) only [go_sem, reduceIte, reduceCtorEq, Nat.succ_ne_zero, not_false_eq_true, decide_true, decide_false, Nat.reduceAdd, Nat.reduceMul, Nat.reduceEqDiff, Nat.reduceLeDiff, beq_self_eq_true]
    exact ret_r (v := .bool true) (by rw [ares_tmp ret3]; rfl) rfl
end Go.Proofs.Ytalijeodmmlfjaa
