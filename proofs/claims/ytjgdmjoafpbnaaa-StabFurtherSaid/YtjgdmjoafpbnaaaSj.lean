/- stab.Check. -/
import Derived.Test.YtjgdmjoafpbnaaaSi
import Derived.Test.YtjgdmjoafpbnaaaSf
set_option linter.unusedVariables false
set_option linter.unusedSimpArgs false
set_option linter.unusedSectionVars false
namespace Go.Proofs.Ytjgdmjoafpbnaaa
open Go.Abs Go.Sm
set_option maxHeartbeats 8000000
set_option maxRecDepth 100000

def incB (pts : List Int) : Bool := decide (pts.Pairwise (· < ·))
def meetB (s : Sp) (pts : List Int) : Bool := pts.any fun p => decide (s.1 ≤ p) && decide (p ≤ s.2)
def inrB (n : Nat) (i : Int) : Bool := decide (0 ≤ i) && decide (i < n)
def chosen (l : List Sp) (aps : List Int) : List Sp := aps.map fun i => at_ l i.toNat
def disjC (c : List Sp) : Bool := decide (c.Pairwise fun s t => disjB s t = true)
def checkB (l : List Sp) (pts aps : List Int) : Bool := validB l && (decide (pts.length = aps.length) && (incB pts && (l.all (fun s => meetB s pts) && (aps.all (inrB l.length) && disjC (chosen l aps)))))
theorem inc_take {pts : List Int} {k : Nat} (hk : k < pts.length) (h0 : 0 < k) (h : (pts.take k).Pairwise (· < ·)) (hlt : pts[k - 1] < pts[k]) : (pts.take (k + 1)).Pairwise (· < ·) := by
  rw [List.take_succ_eq_append_getElem hk, List.pairwise_append]
  refine ⟨h, List.pairwise_singleton _ _, fun x hx y hy => ?_⟩
  rw [List.mem_singleton] at hy
  subst hy
  obtain ⟨i, hi, rfl⟩ := List.getElem_of_mem hx
  rw [List.length_take] at hi
  rw [List.getElem_take]
  rcases Nat.lt_or_ge i (k - 1) with h1 | h1
  · have := List.pairwise_iff_getElem.1 h i (k - 1) (by rw [List.length_take]; omega) (by rw [List.length_take]; omega) h1
    rw [List.getElem_take, List.getElem_take] at this
    omega
  · have : i = k - 1 := by omega
    subst this; exact hlt
theorem inc_bad {pts : List Int} {k : Nat} (hk : k < pts.length) (h0 : 0 < k) (hge : pts[k] ≤ pts[k - 1]) : incB pts = false := by
  refine decide_eq_false fun h => ?_
  have := List.pairwise_iff_getElem.1 h (k - 1) k (by omega) hk (by omega)
  omega
theorem disj_comm (s t : Sp) : disjB s t = disjB t s := by simp only [disjB]; exact Bool.or_comm _ _
theorem disjC_perm {c c' : List Sp} (h : c.Perm c') : disjC c = disjC c' := by
  unfold disjC
  refine decide_eq_decide.2 (h.pairwise_iff fun {x y} hxy => ?_)
  rw [disj_comm]; exact hxy
/-- Sorted by their ends, they are disjoint if each begins behind the one before it. -/
theorem disj_sorted {c : List Sp} (hv : ∀ s, s ∈ c → s.1 ≤ s.2) (h : ∀ k (hk : k < c.length), 0 < k → (c[k - 1]'(by omega)).2 < c[k].1) : disjC c = true := by
  have key : ∀ d i (hi : i + d + 1 < c.length), (c[i]'(by omega)).2 < (c[i + d + 1]'hi).1 := by
    intro d
    induction d with
    | zero => intro i hi; have := h (i + 1) hi (by omega); simpa using this
    | succ d ih =>
      intro i hi
      have h1 := ih i (by omega)
      have h2 := h (i + (d + 1) + 1) hi (by omega)
      have h3 := hv _ (List.getElem_mem (show i + d + 1 < c.length by omega))
      have e : i + (d + 1) + 1 - 1 = i + d + 1 := by omega
      simp only [e] at h2
      omega
  refine decide_eq_true (List.pairwise_iff_getElem.2 fun i j hi hj hij => ?_)
  have := key (j - i - 1) i (by omega)
  have e : i + (j - i - 1) + 1 = j := by omega
  simp only [e] at this
  rw [disjB, decide_eq_true this]; rfl
theorem disj_bad {c : List Sp} (hv : ∀ s, s ∈ c → s.1 ≤ s.2) (hs : c.Pairwise fun x y => x.2 ≤ y.2) {k : Nat} (hk : k < c.length) (h0 : 0 < k) (h : c[k].1 ≤ (c[k - 1]'(by omega)).2) : disjC c = false := by
  refine decide_eq_false fun hp => ?_
  have h1 := List.pairwise_iff_getElem.1 hp (k - 1) k (by omega) hk (by omega)
  have h2 := List.pairwise_iff_getElem.1 hs (k - 1) k (by omega) hk (by omega)
  have h3 := hv _ (List.getElem_mem (show k - 1 < c.length by omega))
  simp only [disjB, Bool.or_eq_true, decide_eq_true_eq] at h1
  omega
theorem chosen_take {l : List Sp} {aps : List Int} {k : Nat} (hk : k < aps.length) : chosen l (aps.take (k + 1)) = chosen l (aps.take k) ++ [at_ l aps[k].toNat] := by
  rw [chosen, chosen, List.take_succ_eq_append_getElem hk, List.map_append]; rfl
theorem chosen_len (l : List Sp) (aps : List Int) : (chosen l aps).length = aps.length := List.length_map _
theorem elem1 {G : Hp} {a : Option Addr} {xs : List Int} (h : Elems G a 1 (xs.map ic)) (i : Nat) (hi : i < xs.length) : ∃ b o, a = some ⟨b, o, none⟩ ∧ load1 G ⟨b, o + i, none⟩ = some (.int .i64 xs[i]) := by
  obtain ⟨b, o, e, _, hl⟩ := h i (by simpa using hi)
  simp only [List.getElem_map, ic, Nat.mul_one] at hl
  exact ⟨b, o, e, by simp only [load1, hl]; rfl⟩

theorem n15 : Try.f15.ntmps = 108 := rfl
theorem ret15 : Try.f15.results = #[.tmp 6] := rfl
theorem Check_spec (H : Hp) (a p1 p2 : Option Addr) (l : List Sp) (pts aps : List Int) (hl : l.length ≤ 1000000) (hl1 : pts.length ≤ 1000000) (hl2 : aps.length ≤ 1000000) (he : Elems H a 2 (l.map spc)) (he1 : Elems H p1 1 (pts.map ic)) (he2 : Elems H p2 1 (aps.map ic)) :
    ACalls Try.prog 15 [.slice a l.length l.length, .slice p1 pts.length pts.length, .slice p2 aps.length aps.length] H (fun v H' => v = .bool (checkB l pts aps) ∧ Keeps H H') := by
  refine ACalls_enter Try.func15 (by kernel_rfl) rfl (by kernel_rfl) (by simp [n15]) fun hw hr => AWP_step ?_
  simp only [refsL_cons, refsL_nil, Bool.and_true, Bool.and_eq_true] at hr
  obtain ⟨hra, hr1, hr2⟩ := hr
  simp -implicitDefEqProofs (maxSteps := 2000000) (disch := first | omega | (simp only [nx_new, nx_set, List.length_cons, List.length_nil, List.length_map, List.length_set, ne_eq, not_true_eq_false, not_false_eq_true, Nat.succ_ne_zero]; done) | (simp only [nx_new, nx_set, List.length_cons, List.length_nil, List.length_map, List.length_set, ne_eq, not_true_eq_false, not_false_eq_true, Nat.succ_ne_zero]; omega)) only [go_sem, reduceIte, reduceCtorEq, Nat.succ_ne_zero, not_false_eq_true, decide_true, decide_false, Nat.reduceAdd, Nat.reduceMul, Nat.reduceEqDiff, Nat.reduceLeDiff]
  refine AWP_scope (AWP_step ?_)
  simp -implicitDefEqProofs (maxSteps := 2000000) (disch := first | omega | (simp only [nx_new, nx_set, List.length_cons, List.length_nil, List.length_map, List.length_set, ne_eq, not_true_eq_false, not_false_eq_true, Nat.succ_ne_zero]; done) | (simp only [nx_new, nx_set, List.length_cons, List.length_nil, List.length_map, List.length_set, ne_eq, not_true_eq_false, not_false_eq_true, Nat.succ_ne_zero]; omega)) only [go_sem, reduceIte, reduceCtorEq, Nat.succ_ne_zero, not_false_eq_true, decide_true, decide_false, Nat.reduceAdd, Nat.reduceMul, Nat.reduceEqDiff, Nat.reduceLeDiff]
  refine ACalls.use_eq (valid_spec _ a l (by omega) he) ?_
  simp -implicitDefEqProofs (maxSteps := 2000000) (disch := first | omega | (simp only [nx_new, nx_set, List.length_cons, List.length_nil, List.length_map, List.length_set, ne_eq, not_true_eq_false, not_false_eq_true, Nat.succ_ne_zero]; done) | (simp only [nx_new, nx_set, List.length_cons, List.length_nil, List.length_map, List.length_set, ne_eq, not_true_eq_false, not_false_eq_true, Nat.succ_ne_zero]; omega)) only [go_sem, reduceIte, reduceCtorEq, Nat.succ_ne_zero, not_false_eq_true, decide_true, decide_false, Nat.reduceAdd, Nat.reduceMul, Nat.reduceEqDiff, Nat.reduceLeDiff]
  refine guardS_split (fun hc => ?_) (fun hc => ?_)
  · simp -implicitDefEqProofs (maxSteps := 2000000) (disch := first | omega | (simp only [nx_new, nx_set, List.length_cons, List.length_nil, List.length_map, List.length_set, ne_eq, not_true_eq_false, not_false_eq_true, Nat.succ_ne_zero]; done) | (simp only [nx_new, nx_set, List.length_cons, List.length_nil, List.length_map, List.length_set, ne_eq, not_true_eq_false, not_false_eq_true, Nat.succ_ne_zero]; omega)) only [go_sem, reduceIte, reduceCtorEq, Nat.succ_ne_zero, not_false_eq_true, decide_true, decide_false, Nat.reduceAdd, Nat.reduceMul, Nat.reduceEqDiff, Nat.reduceLeDiff, hc]
    simp only [Bool.not_eq_true'] at hc
    exact ret_r (v := .bool false) (by rw [ares_tmp ret15]; rfl) ⟨by rw [checkB, hc]; rfl, Keeps.refl _⟩
  · simp -implicitDefEqProofs (maxSteps := 2000000) (disch := first | omega | (simp only [nx_new, nx_set, List.length_cons, List.length_nil, List.length_map, List.length_set, ne_eq, not_true_eq_false, not_false_eq_true, Nat.succ_ne_zero]; done) | (simp only [nx_new, nx_set, List.length_cons, List.length_nil, List.length_map, List.length_set, ne_eq, not_true_eq_false, not_false_eq_true, Nat.succ_ne_zero]; omega)) only [go_sem, reduceIte, reduceCtorEq, Nat.succ_ne_zero, not_false_eq_true, decide_true, decide_false, Nat.reduceAdd, Nat.reduceMul, Nat.reduceEqDiff, Nat.reduceLeDiff, hc]
    simp only [Bool.not_eq_false'] at hc
    have hv := valid_in hc
    refine condS_split (fun hc2 => ?_) (fun hc2 => ?_)
    · simp -implicitDefEqProofs (maxSteps := 2000000) (disch := first | omega | (simp only [nx_new, nx_set, List.length_cons, List.length_nil, List.length_map, List.length_set, ne_eq, not_true_eq_false, not_false_eq_true, Nat.succ_ne_zero]; done) | (simp only [nx_new, nx_set, List.length_cons, List.length_nil, List.length_map, List.length_set, ne_eq, not_true_eq_false, not_false_eq_true, Nat.succ_ne_zero]; omega)) only [go_sem, reduceIte, reduceCtorEq, Nat.succ_ne_zero, not_false_eq_true, decide_true, decide_false, Nat.reduceAdd, Nat.reduceMul, Nat.reduceEqDiff, Nat.reduceLeDiff, hc2]
      have : decide (pts.length = aps.length) = false := decide_eq_false (by have := bne_iff_ne.1 hc2; omega)
      exact ret_r (v := .bool false) (by rw [ares_tmp ret15]; rfl) ⟨by rw [checkB, hc, this]; rfl, Keeps.refl _⟩
    · simp -implicitDefEqProofs (maxSteps := 2000000) (disch := first | omega | (simp only [nx_new, nx_set, List.length_cons, List.length_nil, List.length_map, List.length_set, ne_eq, not_true_eq_false, not_false_eq_true, Nat.succ_ne_zero]; done) | (simp only [nx_new, nx_set, List.length_cons, List.length_nil, List.length_map, List.length_set, ne_eq, not_true_eq_false, not_false_eq_true, Nat.succ_ne_zero]; omega)) only [go_sem, reduceIte, reduceCtorEq, Nat.succ_ne_zero, not_false_eq_true, decide_true, decide_false, Nat.reduceAdd, Nat.reduceMul, Nat.reduceEqDiff, Nat.reduceLeDiff, hc2]
      have hleq : pts.length = aps.length := by simp at hc2; omega
      have hle1 : decide (pts.length = aps.length) = true := decide_eq_true hleq
      refine AWP_join (σ := Unit) (fun _ => [(0, .slice a l.length l.length), (1, .slice p1 pts.length pts.length), (2, .slice p2 aps.length aps.length)]) (fun _ => H) (fun _ => incB pts = true) ?_ ?_
      · simp -implicitDefEqProofs (maxSteps := 2000000) (disch := first | omega | (simp only [nx_new, nx_set, List.length_cons, List.length_nil, List.length_map, List.length_set, ne_eq, not_true_eq_false, not_false_eq_true, Nat.succ_ne_zero]; done) | (simp only [nx_new, nx_set, List.length_cons, List.length_nil, List.length_map, List.length_set, ne_eq, not_true_eq_false, not_false_eq_true, Nat.succ_ne_zero]; omega)) only [go_sem, reduceIte, reduceCtorEq, Nat.succ_ne_zero, not_false_eq_true, decide_true, decide_false, Nat.reduceAdd, Nat.reduceMul, Nat.reduceEqDiff, Nat.reduceLeDiff]
        refine AWP_loop (σ := Nat) (fun k => [(7, .int .i64 k), (0, .slice a l.length l.length), (1, .slice p1 pts.length pts.length), (2, .slice p2 aps.length aps.length)]) (fun _ => H) (fun k => 0 < k ∧ (pts.take k).Pairwise (· < ·)) (fun k => pts.length + 1 - k) 1 ⟨Nat.one_pos, ?_⟩ (Weak.sub ?_) ?_
        · cases pts with
          | nil => exact List.Pairwise.nil
          | cons x xs => exact List.pairwise_singleton _ _
        · (simp -implicitDefEqProofs (disch := omega) only [Abs.Sub, get_cons_eq, get_cons_ne, and_self, Option.some.injEq, Value.int.injEq, Value.slice.injEq, true_and, and_true, Int.natCast_zero, Int.natCast_add, Int.natCast_one, List.length_nil]; try omega)
        · rintro k ⟨hk0, hin⟩
          refine AWP_of_awp ?_
          by_cases hlt : k < pts.length
          · obtain ⟨b, o, rfl, h1⟩ := elem1 he1 k hlt
            obtain ⟨b', o', eb, h2⟩ := elem1 he1 (k - 1) (by omega)
            simp only [Option.some.injEq, Addr.mk.injEq, and_true] at eb
            obtain ⟨rfl, rfl⟩ := eb
            have hidx : ((k : Int) - 1).toNat = k - 1 := by omega
            simp -implicitDefEqProofs (maxSteps := 2000000) (disch := first | omega | (simp only [nx_new, nx_set, List.length_cons, List.length_nil, List.length_map, List.length_set, ne_eq, not_true_eq_false, not_false_eq_true, Nat.succ_ne_zero]; done) | (simp only [nx_new, nx_set, List.length_cons, List.length_nil, List.length_map, List.length_set, ne_eq, not_true_eq_false, not_false_eq_true, Nat.succ_ne_zero]; omega)) only [go_sem, reduceIte, reduceCtorEq, Nat.succ_ne_zero, not_false_eq_true, decide_true, decide_false, Nat.reduceAdd, Nat.reduceMul, Nat.reduceEqDiff, Nat.reduceLeDiff]
            refine AWP_draw_fast mo (by kernel_rfl) ?_
            simp -implicitDefEqProofs (maxSteps := 2000000) (disch := first | omega | (simp only [nx_new, nx_set, List.length_cons, List.length_nil, List.length_map, List.length_set, ne_eq, not_true_eq_false, not_false_eq_true, Nat.succ_ne_zero]; done) | (simp only [nx_new, nx_set, List.length_cons, List.length_nil, List.length_map, List.length_set, ne_eq, not_true_eq_false, not_false_eq_true, Nat.succ_ne_zero]; omega)) only [go_sem, reduceIte, reduceCtorEq, Nat.succ_ne_zero, not_false_eq_true, decide_true, decide_false, Nat.reduceAdd, Nat.reduceMul, Nat.reduceEqDiff, Nat.reduceLeDiff, hidx, h1, h2]
            refine condS_split (fun hd => ?_) (fun hd => ?_)
            · have := of_decide_eq_true hd
              simp -implicitDefEqProofs (maxSteps := 2000000) (disch := first | omega | (simp only [nx_new, nx_set, List.length_cons, List.length_nil, List.length_map, List.length_set, ne_eq, not_true_eq_false, not_false_eq_true, Nat.succ_ne_zero]; done) | (simp only [nx_new, nx_set, List.length_cons, List.length_nil, List.length_map, List.length_set, ne_eq, not_true_eq_false, not_false_eq_true, Nat.succ_ne_zero]; omega)) only [go_sem, reduceIte, reduceCtorEq, Nat.succ_ne_zero, not_false_eq_true, decide_true, decide_false, Nat.reduceAdd, Nat.reduceMul, Nat.reduceEqDiff, Nat.reduceLeDiff, hd]
              exact ret_r (v := .bool false) (by rw [ares_tmp ret15]; rfl) ⟨by rw [checkB, hc, hle1, inc_bad hlt hk0 (by omega)]; rfl, Keeps.refl _⟩
            · have := of_decide_eq_false hd
              simp -implicitDefEqProofs (maxSteps := 2000000) (disch := first | omega | (simp only [nx_new, nx_set, List.length_cons, List.length_nil, List.length_map, List.length_set, ne_eq, not_true_eq_false, not_false_eq_true, Nat.succ_ne_zero]; done) | (simp only [nx_new, nx_set, List.length_cons, List.length_nil, List.length_map, List.length_set, ne_eq, not_true_eq_false, not_false_eq_true, Nat.succ_ne_zero]; omega)) only [go_sem, reduceIte, reduceCtorEq, Nat.succ_ne_zero, not_false_eq_true, decide_true, decide_false, Nat.reduceAdd, Nat.reduceMul, Nat.reduceEqDiff, Nat.reduceLeDiff, hd]
              refine ⟨k + 1, ⟨Nat.succ_pos _, inc_take hlt hk0 hin (by omega)⟩, by omega, Weak.sub ?_⟩
              (simp -implicitDefEqProofs (disch := omega) only [Abs.Sub, get_cons_eq, get_cons_ne, and_self, Option.some.injEq, Value.int.injEq, Value.slice.injEq, true_and, and_true, Int.natCast_zero, Int.natCast_add, Int.natCast_one, List.length_nil]; try omega)
          · rw [List.take_of_length_le (by omega)] at hin
            simp -implicitDefEqProofs (maxSteps := 2000000) (disch := first | omega | (simp only [nx_new, nx_set, List.length_cons, List.length_nil, List.length_map, List.length_set, ne_eq, not_true_eq_false, not_false_eq_true, Nat.succ_ne_zero]; done) | (simp only [nx_new, nx_set, List.length_cons, List.length_nil, List.length_map, List.length_set, ne_eq, not_true_eq_false, not_false_eq_true, Nat.succ_ne_zero]; omega)) only [go_sem, reduceIte, reduceCtorEq, Nat.succ_ne_zero, not_false_eq_true, decide_true, decide_false, Nat.reduceAdd, Nat.reduceMul, Nat.reduceEqDiff, Nat.reduceLeDiff]
            exact ⟨(), decide_eq_true hin, Weak.sub (by simp -implicitDefEqProofs (disch := omega) only [Abs.Sub, get_cons_eq, get_cons_ne, and_self, Int.natCast_zero, Int.natCast_add, Int.natCast_one])⟩
      · rintro _ hinc
        refine AWP_step ?_
        simp -implicitDefEqProofs (maxSteps := 2000000) (disch := first | omega | (simp only [nx_new, nx_set, List.length_cons, List.length_nil, List.length_map, List.length_set, ne_eq, not_true_eq_false, not_false_eq_true, Nat.succ_ne_zero]; done) | (simp only [nx_new, nx_set, List.length_cons, List.length_nil, List.length_map, List.length_set, ne_eq, not_true_eq_false, not_false_eq_true, Nat.succ_ne_zero]; omega)) only [go_sem, reduceIte, reduceCtorEq, Nat.succ_ne_zero, not_false_eq_true, decide_true, decide_false, Nat.reduceAdd, Nat.reduceMul, Nat.reduceEqDiff, Nat.reduceLeDiff]
        refine AWP_join (σ := Unit) (fun _ => [(0, .slice a l.length l.length), (2, .slice p2 aps.length aps.length)]) (fun _ => H) (fun _ => l.all (fun s => meetB s pts) = true) ?_ ?_
        · simp -implicitDefEqProofs (maxSteps := 2000000) (disch := first | omega | (simp only [nx_new, nx_set, List.length_cons, List.length_nil, List.length_map, List.length_set, ne_eq, not_true_eq_false, not_false_eq_true, Nat.succ_ne_zero]; done) | (simp only [nx_new, nx_set, List.length_cons, List.length_nil, List.length_map, List.length_set, ne_eq, not_true_eq_false, not_false_eq_true, Nat.succ_ne_zero]; omega)) only [go_sem, reduceIte, reduceCtorEq, Nat.succ_ne_zero, not_false_eq_true, decide_true, decide_false, Nat.reduceAdd, Nat.reduceMul, Nat.reduceEqDiff, Nat.reduceLeDiff]
          refine AWP_loop (σ := Nat) (fun k => [(44, .int .i64 k), (43, .int .i64 l.length), (42, .slice a l.length l.length), (0, .slice a l.length l.length), (1, .slice p1 pts.length pts.length), (2, .slice p2 aps.length aps.length)]) (fun _ => H) (fun k => k ≤ l.length ∧ (l.take k).all (fun s => meetB s pts) = true) (fun k => l.length - k) 0 ⟨Nat.zero_le _, rfl⟩ (Weak.sub ?_) ?_
          · (simp -implicitDefEqProofs (disch := omega) only [Abs.Sub, get_cons_eq, get_cons_ne, and_self, Option.some.injEq, Value.int.injEq, Value.slice.injEq, true_and, and_true, Int.natCast_zero, Int.natCast_add, Int.natCast_one, List.length_nil]; try omega)
          · rintro k ⟨hk, hin⟩
            refine AWP_of_awp ?_
            by_cases hlt : k < l.length
            · obtain ⟨b, o, rfl, hb, hload⟩ := he k (by simpa using hlt)
              have hnext : meetB l[k] pts = true → (l.take (k + 1)).all (fun s => meetB s pts) = true := fun h => by
                rw [List.take_succ_eq_append_getElem hlt, List.all_append, hin]; simpa using h
              have hfail : meetB l[k] pts = false → l.all (fun s => meetB s pts) = false := fun h => by
                rw [List.all_eq_false]; exact ⟨l[k], List.getElem_mem hlt, by simp [h]⟩
              simp only [List.getElem_map, spc] at hload
              generalize l[k] = s at *
              obtain ⟨f, u⟩ := s
              simp -implicitDefEqProofs (maxSteps := 2000000) (disch := first | omega | (simp only [nx_new, nx_set, List.length_cons, List.length_nil, List.length_map, List.length_set, ne_eq, not_true_eq_false, not_false_eq_true, Nat.succ_ne_zero]; done) | (simp only [nx_new, nx_set, List.length_cons, List.length_nil, List.length_map, List.length_set, ne_eq, not_true_eq_false, not_false_eq_true, Nat.succ_ne_zero]; omega)) only [go_sem, reduceIte, reduceCtorEq, Nat.succ_ne_zero, not_false_eq_true, decide_true, decide_false, Nat.reduceAdd, Nat.reduceMul, Nat.reduceEqDiff, Nat.reduceLeDiff, hload]
              have hkn : Keeps H (H.new (.row [.int .i64 f, .int .i64 u] true 0)) := Keeps.new _ _
              have e1n := he1.grows hkn.grows
              refine AWP_loop (σ := Nat) (fun j => [(50, .int .i64 j), (49, .int .i64 pts.length), (48, .slice p1 pts.length pts.length), (9, .pointer (some ⟨H.next, 0, none⟩)), (44, .int .i64 k), (43, .int .i64 l.length), (42, .slice (some ⟨b, o, none⟩) l.length l.length), (0, .slice (some ⟨b, o, none⟩) l.length l.length), (1, .slice p1 pts.length pts.length), (2, .slice p2 aps.length aps.length)]) (fun _ => H.new (.row [.int .i64 f, .int .i64 u] true 0)) (fun j => j ≤ pts.length ∧ meetB (f, u) (pts.take j) = false) (fun j => pts.length - j) 0 ⟨Nat.zero_le _, rfl⟩ (Weak.sub ?_) ?_
              · (simp -implicitDefEqProofs (disch := omega) only [Abs.Sub, get_cons_eq, get_cons_ne, and_self, Option.some.injEq, Value.int.injEq, Value.slice.injEq, true_and, and_true, Int.natCast_zero, Int.natCast_add, Int.natCast_one, List.length_nil]; try omega)
              · rintro j ⟨hj, hno⟩
                refine AWP_of_awp ?_
                by_cases hjl : j < pts.length
                · obtain ⟨b1, o1, rfl, h1⟩ := elem1 e1n j hjl
                  have hyes : f ≤ pts[j] → pts[j] ≤ u → meetB (f, u) pts = true := fun h2 h3 => by
                    simp only [meetB, List.any_eq_true]
                    exact ⟨pts[j], List.getElem_mem hjl, by simp [h2, h3]⟩
                  have hmore : ¬(f ≤ pts[j] ∧ pts[j] ≤ u) → meetB (f, u) (pts.take (j + 1)) = false := fun h2 => by
                    simp only [meetB] at hno ⊢
                    rw [List.take_succ_eq_append_getElem hjl, List.any_append, hno]
                    simp; omega
                  generalize pts[j] = p at *
                  simp -implicitDefEqProofs (maxSteps := 2000000) (disch := first | omega | (simp only [nx_new, nx_set, List.length_cons, List.length_nil, List.length_map, List.length_set, ne_eq, not_true_eq_false, not_false_eq_true, Nat.succ_ne_zero]; done) | (simp only [nx_new, nx_set, List.length_cons, List.length_nil, List.length_map, List.length_set, ne_eq, not_true_eq_false, not_false_eq_true, Nat.succ_ne_zero]; omega)) only [go_sem, reduceIte, reduceCtorEq, Nat.succ_ne_zero, not_false_eq_true, decide_true, decide_false, Nat.reduceAdd, Nat.reduceMul, Nat.reduceEqDiff, Nat.reduceLeDiff, h1]
                  refine guardS_split (fun hd => ?_) (fun hd => ?_)
                  · have g1 := of_decide_eq_true hd
                    simp -implicitDefEqProofs (maxSteps := 2000000) (disch := first | omega | (simp only [nx_new, nx_set, List.length_cons, List.length_nil, List.length_map, List.length_set, ne_eq, not_true_eq_false, not_false_eq_true, Nat.succ_ne_zero]; done) | (simp only [nx_new, nx_set, List.length_cons, List.length_nil, List.length_map, List.length_set, ne_eq, not_true_eq_false, not_false_eq_true, Nat.succ_ne_zero]; omega)) only [go_sem, reduceIte, reduceCtorEq, Nat.succ_ne_zero, not_false_eq_true, decide_true, decide_false, Nat.reduceAdd, Nat.reduceMul, Nat.reduceEqDiff, Nat.reduceLeDiff, hd]
                    refine condS_split (fun hf => ?_) (fun hf => ?_)
                    · have g2 := of_decide_eq_true hf
                      simp -implicitDefEqProofs (maxSteps := 2000000) (disch := first | omega | (simp only [nx_new, nx_set, List.length_cons, List.length_nil, List.length_map, List.length_set, ne_eq, not_true_eq_false, not_false_eq_true, Nat.succ_ne_zero]; done) | (simp only [nx_new, nx_set, List.length_cons, List.length_nil, List.length_map, List.length_set, ne_eq, not_true_eq_false, not_false_eq_true, Nat.succ_ne_zero]; omega)) only [go_sem, reduceIte, reduceCtorEq, Nat.succ_ne_zero, not_false_eq_true, decide_true, decide_false, Nat.reduceAdd, Nat.reduceMul, Nat.reduceEqDiff, Nat.reduceLeDiff, hf]
                      refine ⟨k + 1, ⟨hlt, hnext (hyes g1 g2)⟩, by omega, Weak.drop hw (Nat.le_refl _) (fun b hb => by simp -implicitDefEqProofs (maxSteps := 2000000) (disch := first | omega | (simp only [nx_new, nx_set, List.length_cons, List.length_nil, List.length_map, List.length_set, ne_eq, not_true_eq_false, not_false_eq_true, Nat.succ_ne_zero]; done) | (simp only [nx_new, nx_set, List.length_cons, List.length_nil, List.length_map, List.length_set, ne_eq, not_true_eq_false, not_false_eq_true, Nat.succ_ne_zero]; omega)) only [go_sem, reduceIte, reduceCtorEq, Nat.succ_ne_zero, not_false_eq_true, decide_true, decide_false, Nat.reduceAdd, Nat.reduceMul, Nat.reduceEqDiff, Nat.reduceLeDiff]) (by simp only [List.all_cons, List.all_nil, refs_int, hra, hr1, hr2, Bool.and_true, Bool.true_and, Bool.and_self]) ?_⟩
                      simp -implicitDefEqProofs (disch := omega) only [Abs.Sub, get_cons_eq, get_cons_ne, and_self, Int.natCast_zero, Int.natCast_add, Int.natCast_one]
                    · have g2 := of_decide_eq_false hf
                      simp -implicitDefEqProofs (maxSteps := 2000000) (disch := first | omega | (simp only [nx_new, nx_set, List.length_cons, List.length_nil, List.length_map, List.length_set, ne_eq, not_true_eq_false, not_false_eq_true, Nat.succ_ne_zero]; done) | (simp only [nx_new, nx_set, List.length_cons, List.length_nil, List.length_map, List.length_set, ne_eq, not_true_eq_false, not_false_eq_true, Nat.succ_ne_zero]; omega)) only [go_sem, reduceIte, reduceCtorEq, Nat.succ_ne_zero, not_false_eq_true, decide_true, decide_false, Nat.reduceAdd, Nat.reduceMul, Nat.reduceEqDiff, Nat.reduceLeDiff, hf]
                      refine ⟨j + 1, ⟨hjl, hmore (by omega)⟩, by omega, Weak.sub ?_⟩
                      (simp -implicitDefEqProofs (disch := omega) only [Abs.Sub, get_cons_eq, get_cons_ne, and_self, Option.some.injEq, Value.int.injEq, Value.slice.injEq, true_and, and_true, Int.natCast_zero, Int.natCast_add, Int.natCast_one, List.length_nil]; try omega)
                  · have g1 := of_decide_eq_false hd
                    simp -implicitDefEqProofs (maxSteps := 2000000) (disch := first | omega | (simp only [nx_new, nx_set, List.length_cons, List.length_nil, List.length_map, List.length_set, ne_eq, not_true_eq_false, not_false_eq_true, Nat.succ_ne_zero]; done) | (simp only [nx_new, nx_set, List.length_cons, List.length_nil, List.length_map, List.length_set, ne_eq, not_true_eq_false, not_false_eq_true, Nat.succ_ne_zero]; omega)) only [go_sem, reduceIte, reduceCtorEq, Nat.succ_ne_zero, not_false_eq_true, decide_true, decide_false, Nat.reduceAdd, Nat.reduceMul, Nat.reduceEqDiff, Nat.reduceLeDiff, hd]
                    refine ⟨j + 1, ⟨hjl, hmore (by omega)⟩, by omega, Weak.sub ?_⟩
                    (simp -implicitDefEqProofs (disch := omega) only [Abs.Sub, get_cons_eq, get_cons_ne, and_self, Option.some.injEq, Value.int.injEq, Value.slice.injEq, true_and, and_true, Int.natCast_zero, Int.natCast_add, Int.natCast_one, List.length_nil]; try omega)
                · rw [List.take_of_length_le (by omega)] at hno
                  simp -implicitDefEqProofs (maxSteps := 2000000) (disch := first | omega | (simp only [nx_new, nx_set, List.length_cons, List.length_nil, List.length_map, List.length_set, ne_eq, not_true_eq_false, not_false_eq_true, Nat.succ_ne_zero]; done) | (simp only [nx_new, nx_set, List.length_cons, List.length_nil, List.length_map, List.length_set, ne_eq, not_true_eq_false, not_false_eq_true, Nat.succ_ne_zero]; omega)) only [go_sem, reduceIte, reduceCtorEq, Nat.succ_ne_zero, not_false_eq_true, decide_true, decide_false, Nat.reduceAdd, Nat.reduceMul, Nat.reduceEqDiff, Nat.reduceLeDiff]
                  refine ret_r (v := .bool false) (by rw [ares_tmp ret15]; rfl) ⟨by rw [checkB, hc, hle1, hinc, hfail hno]; rfl, hkn⟩
            · rw [List.take_of_length_le (by omega)] at hin
              simp -implicitDefEqProofs (maxSteps := 2000000) (disch := first | omega | (simp only [nx_new, nx_set, List.length_cons, List.length_nil, List.length_map, List.length_set, ne_eq, not_true_eq_false, not_false_eq_true, Nat.succ_ne_zero]; done) | (simp only [nx_new, nx_set, List.length_cons, List.length_nil, List.length_map, List.length_set, ne_eq, not_true_eq_false, not_false_eq_true, Nat.succ_ne_zero]; omega)) only [go_sem, reduceIte, reduceCtorEq, Nat.succ_ne_zero, not_false_eq_true, decide_true, decide_false, Nat.reduceAdd, Nat.reduceMul, Nat.reduceEqDiff, Nat.reduceLeDiff]
              exact ⟨(), hin, Weak.sub (by simp -implicitDefEqProofs (disch := omega) only [Abs.Sub, get_cons_eq, get_cons_ne, and_self, Int.natCast_zero, Int.natCast_add, Int.natCast_one])⟩
        · rintro _ hmeet
          refine AWP_step ?_
          simp -implicitDefEqProofs (maxSteps := 2000000) (disch := first | omega | (simp only [nx_new, nx_set, List.length_cons, List.length_nil, List.length_map, List.length_set, ne_eq, not_true_eq_false, not_false_eq_true, Nat.succ_ne_zero]; done) | (simp only [nx_new, nx_set, List.length_cons, List.length_nil, List.length_map, List.length_set, ne_eq, not_true_eq_false, not_false_eq_true, Nat.succ_ne_zero]; omega)) only [go_sem, reduceIte, reduceCtorEq, Nat.succ_ne_zero, not_false_eq_true, decide_true, decide_false, Nat.reduceAdd, Nat.reduceMul, Nat.reduceEqDiff, Nat.reduceLeDiff]
          refine AWP_join (σ := Hp × Option Addr) (fun s => [(12, .slice s.2 aps.length aps.length)]) (fun s => s.1)
            (fun s => aps.all (inrB l.length) = true ∧ Keeps H s.1 ∧ OwnSl H.next s.1 s.2 2 ((chosen l aps).map spc).flatten ∧ (s.2 = none ∨ 0 < aps.length)) ?_ ?_
          · simp -implicitDefEqProofs (maxSteps := 2000000) (disch := first | omega | (simp only [nx_new, nx_set, List.length_cons, List.length_nil, List.length_map, List.length_set, ne_eq, not_true_eq_false, not_false_eq_true, Nat.succ_ne_zero]; done) | (simp only [nx_new, nx_set, List.length_cons, List.length_nil, List.length_map, List.length_set, ne_eq, not_true_eq_false, not_false_eq_true, Nat.succ_ne_zero]; omega)) only [go_sem, reduceIte, reduceCtorEq, Nat.succ_ne_zero, not_false_eq_true, decide_true, decide_false, Nat.reduceAdd, Nat.reduceMul, Nat.reduceEqDiff, Nat.reduceLeDiff]
            refine AWP_loop (σ := Nat × Hp × Option Addr) (fun s => [(68, .int .i64 s.1), (67, .int .i64 aps.length), (66, .slice p2 aps.length aps.length), (12, .slice s.2.2 s.1 s.1), (0, .slice a l.length l.length)]) (fun s => s.2.1)
              (fun s => s.1 ≤ aps.length ∧ (aps.take s.1).all (inrB l.length) = true ∧ Keeps H s.2.1 ∧ OwnSl H.next s.2.1 s.2.2 2 ((chosen l (aps.take s.1)).map spc).flatten ∧ (s.2.2 = none ∨ 0 < s.1)) (fun s => aps.length - s.1) (0, H, none) ⟨Nat.zero_le _, rfl, Keeps.refl _, OwnSl.none, .inl rfl⟩ (Weak.sub ?_) ?_
            · (simp -implicitDefEqProofs (disch := omega) only [Abs.Sub, get_cons_eq, get_cons_ne, and_self, Option.some.injEq, Value.int.injEq, Value.slice.injEq, true_and, and_true, Int.natCast_zero, Int.natCast_add, Int.natCast_one, List.length_nil]; try omega)
            · rintro ⟨k, G, q⟩ ⟨hk, hin, hkeep, hown, hz⟩
              simp only at hk hin hkeep hown hz ⊢
              refine AWP_of_awp ?_
              by_cases hlt : k < aps.length
              · obtain ⟨b, o, rfl, h1⟩ := elem1 (he2.grows hkeep.grows) k hlt
                have hct := chosen_take (l := l) hlt
                have hnext : inrB l.length aps[k] = true → (aps.take (k + 1)).all (inrB l.length) = true := fun h => by
                  rw [List.take_succ_eq_append_getElem hlt, List.all_append, hin]; simpa using h
                have hfail : inrB l.length aps[k] = false → aps.all (inrB l.length) = false := fun h => by
                  rw [List.all_eq_false]; exact ⟨aps[k], List.getElem_mem hlt, by simp [h]⟩
                generalize aps[k] = i at *
                by_cases c1 : i < 0
                · simp -implicitDefEqProofs (maxSteps := 2000000) (disch := first | omega | (simp only [nx_new, nx_set, List.length_cons, List.length_nil, List.length_map, List.length_set, ne_eq, not_true_eq_false, not_false_eq_true, Nat.succ_ne_zero]; done) | (simp only [nx_new, nx_set, List.length_cons, List.length_nil, List.length_map, List.length_set, ne_eq, not_true_eq_false, not_false_eq_true, Nat.succ_ne_zero]; omega)) only [go_sem, reduceIte, reduceCtorEq, Nat.succ_ne_zero, not_false_eq_true, decide_true, decide_false, Nat.reduceAdd, Nat.reduceMul, Nat.reduceEqDiff, Nat.reduceLeDiff, h1]
                  exact ret_r (v := .bool false) (by rw [ares_tmp ret15]; rfl) ⟨by rw [checkB, hc, hle1, hinc, hmeet, hfail (by rw [inrB, decide_eq_false (show ¬0 ≤ i by omega)]; rfl)]; rfl, hkeep⟩
                · by_cases c2 : (l.length : Int) ≤ i
                  · simp -implicitDefEqProofs (maxSteps := 2000000) (disch := first | omega | (simp only [nx_new, nx_set, List.length_cons, List.length_nil, List.length_map, List.length_set, ne_eq, not_true_eq_false, not_false_eq_true, Nat.succ_ne_zero]; done) | (simp only [nx_new, nx_set, List.length_cons, List.length_nil, List.length_map, List.length_set, ne_eq, not_true_eq_false, not_false_eq_true, Nat.succ_ne_zero]; omega)) only [go_sem, reduceIte, reduceCtorEq, Nat.succ_ne_zero, not_false_eq_true, decide_true, decide_false, Nat.reduceAdd, Nat.reduceMul, Nat.reduceEqDiff, Nat.reduceLeDiff, h1]
                    exact ret_r (v := .bool false) (by rw [ares_tmp ret15]; rfl) ⟨by rw [checkB, hc, hle1, hinc, hmeet, hfail (by rw [inrB, decide_eq_false (show ¬i < l.length by omega)]; simp)]; rfl, hkeep⟩
                  · have hil : i.toNat < l.length := by omega
                    obtain ⟨b0, o0, rfl, hb0, hload⟩ := (he.grows hkeep.grows) i.toNat (by simpa using hil)
                    simp only [List.getElem_map] at hload
                    rw [← at_get hil] at hload
                    generalize at_ l i.toNat = s at *
                    obtain ⟨f, u⟩ := s
                    simp only [spc] at hload
                    have hn1 := hnext (by rw [inrB, decide_eq_true (show 0 ≤ i by omega), decide_eq_true (show i < l.length by omega)]; rfl)
                    have hcl : (chosen l (aps.take k)).length = k := by rw [chosen_len, List.length_take]; omega
                    simp -implicitDefEqProofs (maxSteps := 2000000) (disch := first | omega | (simp only [nx_new, nx_set, List.length_cons, List.length_nil, List.length_map, List.length_set, ne_eq, not_true_eq_false, not_false_eq_true, Nat.succ_ne_zero]; done) | (simp only [nx_new, nx_set, List.length_cons, List.length_nil, List.length_map, List.length_set, ne_eq, not_true_eq_false, not_false_eq_true, Nat.succ_ne_zero]; omega)) only [go_sem, reduceIte, reduceCtorEq, Nat.succ_ne_zero, not_false_eq_true, decide_true, decide_false, Nat.reduceAdd, Nat.reduceMul, Nat.reduceEqDiff, Nat.reduceLeDiff, h1, hload]
                    obtain ⟨G', hap, hn, hg, hold⟩ := append_own (P := Try.prog) u22 u22 ts34 tb34 tz34 rfl (by decide) (by decide) (G := G.new (.row [.int .i64 f, .int .i64 u] true 2)) (lo := H.next) (n := k) (c := k) (m := 1) (c' := 1) (r := G.next) (ro := 0) (xs := [.int .i64 f, .int .i64 u]) (hown.keeps (Keeps.new _ _))
                      (by simp -implicitDefEqProofs (maxSteps := 2000000) (disch := first | omega | (simp only [nx_new, nx_set, List.length_cons, List.length_nil, List.length_map, List.length_set, ne_eq, not_true_eq_false, not_false_eq_true, Nat.succ_ne_zero]; done) | (simp only [nx_new, nx_set, List.length_cons, List.length_nil, List.length_map, List.length_set, ne_eq, not_true_eq_false, not_false_eq_true, Nat.succ_ne_zero]; omega)) only [go_sem, reduceIte, reduceCtorEq, Nat.succ_ne_zero, not_false_eq_true, decide_true, decide_false, Nat.reduceAdd, Nat.reduceMul, Nat.reduceEqDiff, Nat.reduceLeDiff]) rfl (by decide) (by rw [spc_flat, hcl]) (by omega)
                    rw [hap]
                    simp -implicitDefEqProofs (maxSteps := 2000000) (disch := first | omega | (simp only [nx_new, nx_set, List.length_cons, List.length_nil, List.length_map, List.length_set, ne_eq, not_true_eq_false, not_false_eq_true, Nat.succ_ne_zero]; done) | (simp only [nx_new, nx_set, List.length_cons, List.length_nil, List.length_map, List.length_set, ne_eq, not_true_eq_false, not_false_eq_true, Nat.succ_ne_zero]; omega)) only [go_sem, reduceIte, reduceCtorEq, Nat.succ_ne_zero, not_false_eq_true, decide_true, decide_false, Nat.reduceAdd, Nat.reduceMul, Nat.reduceEqDiff, Nat.reduceLeDiff]
                    have hnx := hkeep.next
                    refine ⟨(k + 1, G', some ⟨G.next + 1, 0, none⟩), ⟨hlt, hn1, ⟨?_, fun b hb => ?_⟩, .inr ⟨G.next + 1, rfl, ?_, ?_, ?_⟩, .inr (Nat.succ_pos _)⟩, by simp only; omega, Weak.sub ?_⟩
                    · rw [hn]; simp only [Hp.next_new]; omega
                    · rw [hold b (by simp only [Hp.next_new]; omega) (hown.lo_ne hb), Hp.get_new_ne _ _ _ (by omega)]
                      exact hkeep.get b hb
                    · omega
                    · rw [hn]; simp only [Hp.next_new]; omega
                    · rw [hct, ← spc_app]; exact hg
                    · (simp -implicitDefEqProofs (disch := omega) only [Abs.Sub, get_cons_eq, get_cons_ne, and_self, Option.some.injEq, Value.int.injEq, Value.slice.injEq, true_and, and_true, Int.natCast_zero, Int.natCast_add, Int.natCast_one, List.length_nil]; try omega)
              · obtain rfl : k = aps.length := by omega
                rw [List.take_of_length_le (by omega)] at hin hown
                simp -implicitDefEqProofs (maxSteps := 2000000) (disch := first | omega | (simp only [nx_new, nx_set, List.length_cons, List.length_nil, List.length_map, List.length_set, ne_eq, not_true_eq_false, not_false_eq_true, Nat.succ_ne_zero]; done) | (simp only [nx_new, nx_set, List.length_cons, List.length_nil, List.length_map, List.length_set, ne_eq, not_true_eq_false, not_false_eq_true, Nat.succ_ne_zero]; omega)) only [go_sem, reduceIte, reduceCtorEq, Nat.succ_ne_zero, not_false_eq_true, decide_true, decide_false, Nat.reduceAdd, Nat.reduceMul, Nat.reduceEqDiff, Nat.reduceLeDiff]
                exact ⟨(G, q), ⟨hin, hkeep, hown, hz⟩, Weak.sub (by simp -implicitDefEqProofs (disch := omega) only [Abs.Sub, get_cons_eq, get_cons_ne, and_self, Int.natCast_zero, Int.natCast_add, Int.natCast_one])⟩
          · rintro ⟨G, q⟩ ⟨hall, hkeep, hown, hz⟩
            simp only at hall hkeep hown hz ⊢
            have hcl := chosen_len l aps
            have hcm : (chosen l aps).length ≤ 1000000 := by omega
            have hvc : ∀ s, s ∈ chosen l aps → okS s = true := fun s hs => by
              obtain ⟨i, hi, rfl⟩ := List.mem_map.1 hs
              have h1 := List.all_eq_true.1 hall i hi
              simp only [inrB, Bool.and_eq_true, decide_eq_true_eq] at h1
              have hil : i.toNat < l.length := by omega
              rw [at_get hil]
              simp only [validB, Bool.and_eq_true] at hc
              exact List.all_eq_true.1 hc.2 _ (List.getElem_mem hil)
            have hres : checkB l pts aps = disjC (chosen l aps) := by rw [checkB, hc, hle1, hinc, hmeet, hall]; rfl
            rw [hres]
            generalize chosen l aps = c at *
            rw [← hcl] at hz ⊢
            refine AWP_join (σ := Hp × List Sp) (fun s => [(12, .slice q c.length c.length)]) (fun s => s.1)
              (fun s => s.2.Perm c ∧ s.2.Pairwise (fun x y => x.2 ≤ y.2) ∧ Keeps H s.1 ∧ Elems s.1 q 2 (s.2.map spc)) ?_ ?_
            · simp -implicitDefEqProofs (maxSteps := 2000000) (disch := first | omega | (simp only [nx_new, nx_set, List.length_cons, List.length_nil, List.length_map, List.length_set, ne_eq, not_true_eq_false, not_false_eq_true, Nat.succ_ne_zero]; done) | (simp only [nx_new, nx_set, List.length_cons, List.length_nil, List.length_map, List.length_set, ne_eq, not_true_eq_false, not_false_eq_true, Nat.succ_ne_zero]; omega)) only [go_sem, reduceIte, reduceCtorEq, Nat.succ_ne_zero, not_false_eq_true, decide_true, decide_false, Nat.reduceAdd, Nat.reduceMul, Nat.reduceEqDiff, Nat.reduceLeDiff]
              rcases hown with ⟨rfl, hnil⟩ | ⟨q', rfl, hq1, hq2, hqg⟩
              · have hc0 : c = [] := by
                  cases c with
                  | nil => rfl
                  | cons x xs => simp [spc] at hnil
                subst hc0
                refine ACalls.use_eq (sort_none G) ?_
                simp -implicitDefEqProofs (maxSteps := 2000000) (disch := first | omega | (simp only [nx_new, nx_set, List.length_cons, List.length_nil, List.length_map, List.length_set, ne_eq, not_true_eq_false, not_false_eq_true, Nat.succ_ne_zero]; done) | (simp only [nx_new, nx_set, List.length_cons, List.length_nil, List.length_map, List.length_set, ne_eq, not_true_eq_false, not_false_eq_true, Nat.succ_ne_zero]; omega)) only [go_sem, reduceIte, reduceCtorEq, Nat.succ_ne_zero, not_false_eq_true, decide_true, decide_false, Nat.reduceAdd, Nat.reduceMul, Nat.reduceEqDiff, Nat.reduceLeDiff]
                exact ⟨(G, []), ⟨List.Perm.refl _, List.Pairwise.nil, hkeep, Elems.nil⟩, Weak.sub (by simp -implicitDefEqProofs (disch := omega) only [Abs.Sub, get_cons_eq, get_cons_ne, and_self, Int.natCast_zero, Int.natCast_add, Int.natCast_one])⟩
              · by_cases hc0 : c.length = 0
                · rcases hz with hz | hz
                  · cases hz
                  · omega
                · refine (sort_spec hvc hqg hc0 (by omega)).mono ?_
                  rintro _ _ ⟨rfl, l', h1, h2, rfl⟩
                  simp -implicitDefEqProofs (maxSteps := 2000000) (disch := first | omega | (simp only [nx_new, nx_set, List.length_cons, List.length_nil, List.length_map, List.length_set, ne_eq, not_true_eq_false, not_false_eq_true, Nat.succ_ne_zero]; done) | (simp only [nx_new, nx_set, List.length_cons, List.length_nil, List.length_map, List.length_set, ne_eq, not_true_eq_false, not_false_eq_true, Nat.succ_ne_zero]; omega)) only [go_sem, reduceIte, reduceCtorEq, Nat.succ_ne_zero, not_false_eq_true, decide_true, decide_false, Nat.reduceAdd, Nat.reduceMul, Nat.reduceEqDiff, Nat.reduceLeDiff]
                  refine ⟨(G.set q' (.row (l'.map spc).flatten true 2), l'), ⟨h1, h2, hkeep.set hq1, Elems.row hq2 (Hp.get_set_same _ _ _ _ rfl) (spc_len _)⟩, Weak.sub ?_⟩
                  simp -implicitDefEqProofs (disch := omega) only [Abs.Sub, get_cons_eq, get_cons_ne, and_self, Int.natCast_zero, Int.natCast_add, Int.natCast_one]
            · rintro ⟨G1, d⟩ ⟨hperm, hsort, hk1, hed⟩
              simp only at hperm hsort hk1 hed ⊢
              have hdl : d.length = c.length := hperm.length_eq
              have hvd : ∀ s, s ∈ d → s.1 ≤ s.2 := fun s hs => (okS_in (hvc s (hperm.mem_iff.1 hs))).2.2
              rw [← disjC_perm hperm, ← hdl]
              have hdl2 : d.length ≤ 1000000 := by omega
              refine AWP_of_awp ?_
              simp -implicitDefEqProofs (maxSteps := 2000000) (disch := first | omega | (simp only [nx_new, nx_set, List.length_cons, List.length_nil, List.length_map, List.length_set, ne_eq, not_true_eq_false, not_false_eq_true, Nat.succ_ne_zero]; done) | (simp only [nx_new, nx_set, List.length_cons, List.length_nil, List.length_map, List.length_set, ne_eq, not_true_eq_false, not_false_eq_true, Nat.succ_ne_zero]; omega)) only [go_sem, reduceIte, reduceCtorEq, Nat.succ_ne_zero, not_false_eq_true, decide_true, decide_false, Nat.reduceAdd, Nat.reduceMul, Nat.reduceEqDiff, Nat.reduceLeDiff]
              refine AWP_loop (σ := Nat) (fun k => [(15, .int .i64 k), (12, .slice q d.length d.length)]) (fun _ => G1) (fun k => 0 < k ∧ ∀ j (hj : j < d.length), 0 < j → j < k → (d[j - 1]'(by omega)).2 < d[j].1) (fun k => d.length + 1 - k) 1 ⟨Nat.one_pos, fun j hj h0 h1 => by omega⟩ (Weak.sub ?_) ?_
              · (simp -implicitDefEqProofs (disch := omega) only [Abs.Sub, get_cons_eq, get_cons_ne, and_self, Option.some.injEq, Value.int.injEq, Value.slice.injEq, true_and, and_true, Int.natCast_zero, Int.natCast_add, Int.natCast_one, List.length_nil]; try omega)
              · rintro k ⟨hk0, hin⟩
                refine AWP_of_awp ?_
                by_cases hlt : k < d.length
                · obtain ⟨b, o, rfl, hb, hl1⟩ := hed k (by simpa using hlt)
                  obtain ⟨b', o', eb, _, hl2⟩ := hed (k - 1) (by simp; omega)
                  simp only [Option.some.injEq, Addr.mk.injEq, and_true] at eb
                  obtain ⟨rfl, rfl⟩ := eb
                  simp only [List.getElem_map] at hl1 hl2
                  have hbad := disj_bad hvd hsort hlt hk0
                  have hgood : (d[k - 1]'(by omega)).2 < d[k].1 → ∀ j (hj : j < d.length), 0 < j → j < k + 1 → (d[j - 1]'(by omega)).2 < d[j].1 := fun h j hj h0 hjk => by
                    rcases Nat.eq_or_lt_of_le (Nat.le_of_lt_succ hjk) with rfl | h1
                    · exact h
                    · exact hin j hj h0 h1
                  generalize d[k] = s at *
                  generalize d[k - 1]'(by omega) = t at *
                  obtain ⟨f, u⟩ := s
                  obtain ⟨g, w⟩ := t
                  simp only [spc] at hl1 hl2 hbad hgood
                  have h1 : load1 G1 ⟨b, o + k * 2, none⟩ = some (.int .i64 f) := (load1_part (i := 0) hl1 (by simp)).trans rfl
                  have h2 : load1 G1 ⟨b, o + (k - 1) * 2 + 1, none⟩ = some (.int .i64 w) := (load1_part (i := 1) hl2 (by simp)).trans rfl
                  have hidx : ((k : Int) - 1).toNat = k - 1 := by omega
                  simp -implicitDefEqProofs (maxSteps := 2000000) (disch := first | omega | (simp only [nx_new, nx_set, List.length_cons, List.length_nil, List.length_map, List.length_set, ne_eq, not_true_eq_false, not_false_eq_true, Nat.succ_ne_zero]; done) | (simp only [nx_new, nx_set, List.length_cons, List.length_nil, List.length_map, List.length_set, ne_eq, not_true_eq_false, not_false_eq_true, Nat.succ_ne_zero]; omega)) only [go_sem, reduceIte, reduceCtorEq, Nat.succ_ne_zero, not_false_eq_true, decide_true, decide_false, Nat.reduceAdd, Nat.reduceMul, Nat.reduceEqDiff, Nat.reduceLeDiff]
                  refine AWP_draw_fast mo (by kernel_rfl) ?_
                  simp -implicitDefEqProofs (maxSteps := 2000000) (disch := first | omega | (simp only [nx_new, nx_set, List.length_cons, List.length_nil, List.length_map, List.length_set, ne_eq, not_true_eq_false, not_false_eq_true, Nat.succ_ne_zero]; done) | (simp only [nx_new, nx_set, List.length_cons, List.length_nil, List.length_map, List.length_set, ne_eq, not_true_eq_false, not_false_eq_true, Nat.succ_ne_zero]; omega)) only [go_sem, reduceIte, reduceCtorEq, Nat.succ_ne_zero, not_false_eq_true, decide_true, decide_false, Nat.reduceAdd, Nat.reduceMul, Nat.reduceEqDiff, Nat.reduceLeDiff, hidx, h1, h2]
                  refine condS_split (fun hd => ?_) (fun hd => ?_)
                  · have := of_decide_eq_true hd
                    simp -implicitDefEqProofs (maxSteps := 2000000) (disch := first | omega | (simp only [nx_new, nx_set, List.length_cons, List.length_nil, List.length_map, List.length_set, ne_eq, not_true_eq_false, not_false_eq_true, Nat.succ_ne_zero]; done) | (simp only [nx_new, nx_set, List.length_cons, List.length_nil, List.length_map, List.length_set, ne_eq, not_true_eq_false, not_false_eq_true, Nat.succ_ne_zero]; omega)) only [go_sem, reduceIte, reduceCtorEq, Nat.succ_ne_zero, not_false_eq_true, decide_true, decide_false, Nat.reduceAdd, Nat.reduceMul, Nat.reduceEqDiff, Nat.reduceLeDiff, hd]
                    exact ret_r (v := .bool false) (by rw [ares_tmp ret15]; rfl) ⟨by rw [hbad this], hk1⟩
                  · have := of_decide_eq_false hd
                    simp -implicitDefEqProofs (maxSteps := 2000000) (disch := first | omega | (simp only [nx_new, nx_set, List.length_cons, List.length_nil, List.length_map, List.length_set, ne_eq, not_true_eq_false, not_false_eq_true, Nat.succ_ne_zero]; done) | (simp only [nx_new, nx_set, List.length_cons, List.length_nil, List.length_map, List.length_set, ne_eq, not_true_eq_false, not_false_eq_true, Nat.succ_ne_zero]; omega)) only [go_sem, reduceIte, reduceCtorEq, Nat.succ_ne_zero, not_false_eq_true, decide_true, decide_false, Nat.reduceAdd, Nat.reduceMul, Nat.reduceEqDiff, Nat.reduceLeDiff, hd]
                    refine ⟨k + 1, ⟨Nat.succ_pos _, hgood (by omega)⟩, by omega, Weak.sub ?_⟩
                    (simp -implicitDefEqProofs (disch := omega) only [Abs.Sub, get_cons_eq, get_cons_ne, and_self, Option.some.injEq, Value.int.injEq, Value.slice.injEq, true_and, and_true, Int.natCast_zero, Int.natCast_add, Int.natCast_one, List.length_nil]; try omega)
                · simp -implicitDefEqProofs (maxSteps := 2000000) (disch := first | omega | (simp only [nx_new, nx_set, List.length_cons, List.length_nil, List.length_map, List.length_set, ne_eq, not_true_eq_false, not_false_eq_true, Nat.succ_ne_zero]; done) | (simp only [nx_new, nx_set, List.length_cons, List.length_nil, List.length_map, List.length_set, ne_eq, not_true_eq_false, not_false_eq_true, Nat.succ_ne_zero]; omega)) only [go_sem, reduceIte, reduceCtorEq, Nat.succ_ne_zero, not_false_eq_true, decide_true, decide_false, Nat.reduceAdd, Nat.reduceMul, Nat.reduceEqDiff, Nat.reduceLeDiff]
                  exact ret_r (v := .bool true) (by rw [ares_tmp ret15]; rfl) ⟨by rw [disj_sorted hvd fun k hk h0 => hin k hk h0 (by omega)], hk1⟩
end Go.Proofs.Ytjgdmjoafpbnaaa
