/- The reference's Plan. -/
import Derived.Test.YtjgdmjoafpbnaaaSg
set_option linter.unusedVariables false
set_option linter.unusedSimpArgs false
set_option linter.unusedSectionVars false
namespace Go.Proofs.Ytjgdmjoafpbnaaa
open Go.Abs Go.Sm
set_option maxHeartbeats 8000000
set_option maxRecDepth 100000

/-- The best of the spans behind P up to k: none, or the first that ends first. -/
def Best (l : List Sp) (P : Int) (k : Nat) (b : Int) : Prop :=
  (b = -1 ∧ ∀ j, j < k → (at_ l j).1 ≤ P) ∨ ∃ i : Nat, b = i ∧ i < k ∧ P < (at_ l i).1 ∧ ∀ j, j < k → P < (at_ l j).1 → bf (till l) i j ∨ i = j
theorem Best.skip {l : List Sp} {P b : Int} {k : Nat} (h : Best l P k b) (hk : (at_ l k).1 ≤ P) : Best l P (k + 1) b := by
  rcases h with ⟨h1, h2⟩ | ⟨i, h1, h2, h3, h4⟩
  · refine .inl ⟨h1, fun j hj => ?_⟩
    rcases Nat.eq_or_lt_of_le (Nat.le_of_lt_succ hj) with rfl | hj
    · exact hk
    · exact h2 j hj
  · refine .inr ⟨i, h1, by omega, h3, fun j hj hPj => ?_⟩
    rcases Nat.eq_or_lt_of_le (Nat.le_of_lt_succ hj) with rfl | hj
    · omega
    · exact h4 j hj hPj
theorem Best.take {l : List Sp} {P b : Int} {k : Nat} (h : Best l P k b) (hk : P < (at_ l k).1) (ht : b < 0 ∨ ∃ i : Nat, b = i ∧ till l k < till l i) : Best l P (k + 1) k := by
  refine .inr ⟨k, rfl, Nat.lt_succ_self _, hk, fun j hj hPj => ?_⟩
  rcases Nat.eq_or_lt_of_le (Nat.le_of_lt_succ hj) with rfl | hj
  · exact .inr rfl
  · left
    rcases h with ⟨h1, h2⟩ | ⟨i, h1, h2, h3, h4⟩
    · have := h2 j hj; omega
    · rcases ht with h | ⟨i', h5, h6⟩
      · omega
      · obtain rfl : i = i' := by omega
        rcases h4 j hj hPj with h | rfl
        · left; rcases h with h | h <;> omega
        · exact .inl h6
theorem Best.keep {l : List Sp} {P : Int} {k i : Nat} (h : Best l P k i) (hk : P < (at_ l k).1) (ht : till l i ≤ till l k) : Best l P (k + 1) i := by
  rcases h with ⟨h1, _⟩ | ⟨i', h1, h2, h3, h4⟩
  · omega
  · obtain rfl : i = i' := by omega
    refine .inr ⟨i, rfl, by omega, h3, fun j hj hPj => ?_⟩
    rcases Nat.eq_or_lt_of_le (Nat.le_of_lt_succ hj) with rfl | hj
    · exact .inl (bef_of_le ht h2)
    · exact h4 j hj hPj

theorem n13 : Try.f13.ntmps = 67 := rfl
theorem ret13 : Try.f13.results = #[.tmp 2, .tmp 3, .tmp 4] := rfl
theorem refPlan_spec (H : Hp) (a : Option Addr) (l : List Sp) (hl : l.length ≤ 9223372036854775806) (he : Elems H a 2 (l.map spc)) :
    ACalls Try.prog 13 [.slice a l.length l.length] H (fun v H' => Keeps H H' ∧ ((validB l = false ∧ v = .tuple #[.slice none 0 0, .slice none 0 0, .int .i64 1]) ∨
      (validB l = true ∧ ∃ aps o1 o2, Chain l (-40000) aps ∧ v = .tuple #[.slice o1 aps.length aps.length, .slice o2 aps.length aps.length, .int .i64 0] ∧ Elems H' o1 1 ((ptsOf l aps).map ic) ∧ Elems H' o2 1 ((ints aps).map ic)))) := by
  refine ACalls_enter Try.func13 (by kernel_rfl) rfl (by kernel_rfl) (by simp [n13]) fun hw hr => AWP_step ?_
  simp -implicitDefEqProofs (maxSteps := 2000000) (disch := first | omega | (simp only [nx_new, nx_set, List.length_cons, List.length_nil, List.length_map, List.length_set, ne_eq, not_true_eq_false, not_false_eq_true, Nat.succ_ne_zero]; done) | (simp only [nx_new, nx_set, List.length_cons, List.length_nil, List.length_map, List.length_set, ne_eq, not_true_eq_false, not_false_eq_true, Nat.succ_ne_zero]; omega)) only [go_sem, reduceIte, reduceCtorEq, Nat.succ_ne_zero, not_false_eq_true, decide_true, decide_false, Nat.reduceAdd, Nat.reduceMul, Nat.reduceEqDiff, Nat.reduceLeDiff]
  refine AWP_step ?_
  simp -implicitDefEqProofs (maxSteps := 2000000) (disch := first | omega | (simp only [nx_new, nx_set, List.length_cons, List.length_nil, List.length_map, List.length_set, ne_eq, not_true_eq_false, not_false_eq_true, Nat.succ_ne_zero]; done) | (simp only [nx_new, nx_set, List.length_cons, List.length_nil, List.length_map, List.length_set, ne_eq, not_true_eq_false, not_false_eq_true, Nat.succ_ne_zero]; omega)) only [go_sem, reduceIte, reduceCtorEq, Nat.succ_ne_zero, not_false_eq_true, decide_true, decide_false, Nat.reduceAdd, Nat.reduceMul, Nat.reduceEqDiff, Nat.reduceLeDiff]
  refine ACalls.use_eq (refValid_spec _ a l hl he) ?_
  simp -implicitDefEqProofs (maxSteps := 2000000) (disch := first | omega | (simp only [nx_new, nx_set, List.length_cons, List.length_nil, List.length_map, List.length_set, ne_eq, not_true_eq_false, not_false_eq_true, Nat.succ_ne_zero]; done) | (simp only [nx_new, nx_set, List.length_cons, List.length_nil, List.length_map, List.length_set, ne_eq, not_true_eq_false, not_false_eq_true, Nat.succ_ne_zero]; omega)) only [go_sem, reduceIte, reduceCtorEq, Nat.succ_ne_zero, not_false_eq_true, decide_true, decide_false, Nat.reduceAdd, Nat.reduceMul, Nat.reduceEqDiff, Nat.reduceLeDiff]
  refine condS_split (fun hc => ?_) (fun hc => ?_)
  · simp -implicitDefEqProofs (maxSteps := 2000000) (disch := first | omega | (simp only [nx_new, nx_set, List.length_cons, List.length_nil, List.length_map, List.length_set, ne_eq, not_true_eq_false, not_false_eq_true, Nat.succ_ne_zero]; done) | (simp only [nx_new, nx_set, List.length_cons, List.length_nil, List.length_map, List.length_set, ne_eq, not_true_eq_false, not_false_eq_true, Nat.succ_ne_zero]; omega)) only [go_sem, reduceIte, reduceCtorEq, Nat.succ_ne_zero, not_false_eq_true, decide_true, decide_false, Nat.reduceAdd, Nat.reduceMul, Nat.reduceEqDiff, Nat.reduceLeDiff, hc]
    refine ret_r (v := .tuple #[.slice none 0 0, .slice none 0 0, .int .i64 1]) (by rw [ares_tmp3 ret13]; rfl) ⟨Keeps.refl _, .inl ⟨by simpa using hc, rfl⟩⟩
  · simp -implicitDefEqProofs (maxSteps := 2000000) (disch := first | omega | (simp only [nx_new, nx_set, List.length_cons, List.length_nil, List.length_map, List.length_set, ne_eq, not_true_eq_false, not_false_eq_true, Nat.succ_ne_zero]; done) | (simp only [nx_new, nx_set, List.length_cons, List.length_nil, List.length_map, List.length_set, ne_eq, not_true_eq_false, not_false_eq_true, Nat.succ_ne_zero]; omega)) only [go_sem, reduceIte, reduceCtorEq, Nat.succ_ne_zero, not_false_eq_true, decide_true, decide_false, Nat.reduceAdd, Nat.reduceMul, Nat.reduceEqDiff, Nat.reduceLeDiff, hc]
    simp only [Bool.not_eq_false'] at hc
    have hv := valid_in hc
    have hlen : l.length ≤ 1000 := by simp only [validB, Bool.and_eq_true, decide_eq_true_eq] at hc; exact hc.1
    have hvi : ∀ i, i < l.length → -39399 ≤ (at_ l i).1 ∧ till l i ≤ 39399 ∧ (at_ l i).1 ≤ till l i := fun i hi => by
      rw [till, at_get hi]; exact hv _ (List.getElem_mem hi)
    refine AWP_step ?_
    simp -implicitDefEqProofs (maxSteps := 2000000) (disch := first | omega | (simp only [nx_new, nx_set, List.length_cons, List.length_nil, List.length_map, List.length_set, ne_eq, not_true_eq_false, not_false_eq_true, Nat.succ_ne_zero]; done) | (simp only [nx_new, nx_set, List.length_cons, List.length_nil, List.length_map, List.length_set, ne_eq, not_true_eq_false, not_false_eq_true, Nat.succ_ne_zero]; omega)) only [go_sem, reduceIte, reduceCtorEq, Nat.succ_ne_zero, not_false_eq_true, decide_true, decide_false, Nat.reduceAdd, Nat.reduceMul, Nat.reduceEqDiff, Nat.reduceLeDiff]
    refine AWP_step ?_
    simp -implicitDefEqProofs (maxSteps := 2000000) (disch := first | omega | (simp only [nx_new, nx_set, List.length_cons, List.length_nil, List.length_map, List.length_set, ne_eq, not_true_eq_false, not_false_eq_true, Nat.succ_ne_zero]; done) | (simp only [nx_new, nx_set, List.length_cons, List.length_nil, List.length_map, List.length_set, ne_eq, not_true_eq_false, not_false_eq_true, Nat.succ_ne_zero]; omega)) only [go_sem, reduceIte, reduceCtorEq, Nat.succ_ne_zero, not_false_eq_true, decide_true, decide_false, Nat.reduceAdd, Nat.reduceMul, Nat.reduceEqDiff, Nat.reduceLeDiff]
    refine AWP_of_awp ?_
    simp -implicitDefEqProofs (maxSteps := 2000000) (disch := first | omega | (simp only [nx_new, nx_set, List.length_cons, List.length_nil, List.length_map, List.length_set, ne_eq, not_true_eq_false, not_false_eq_true, Nat.succ_ne_zero]; done) | (simp only [nx_new, nx_set, List.length_cons, List.length_nil, List.length_map, List.length_set, ne_eq, not_true_eq_false, not_false_eq_true, Nat.succ_ne_zero]; omega)) only [go_sem, reduceIte, reduceCtorEq, Nat.succ_ne_zero, not_false_eq_true, decide_true, decide_false, Nat.reduceAdd, Nat.reduceMul, Nat.reduceEqDiff, Nat.reduceLeDiff]
    refine AWP_loop (σ := Hp × Option Addr × Option Addr × List Nat × Int) (fun s => [(5, .slice s.2.1 s.2.2.2.1.length s.2.2.2.1.length), (6, .slice s.2.2.1 s.2.2.2.1.length s.2.2.2.1.length), (0, .slice a l.length l.length)]) (fun s => s.1)
      (fun s => Keeps H s.1 ∧ OwnSl H.next s.1 s.2.1 1 ((ptsOf l s.2.2.2.1).map (Value.int .i64)) ∧ OwnSl H.next s.1 s.2.2.1 1 ((ints s.2.2.2.1).map (Value.int .i64)) ∧ (∀ q, s.2.1 = some q → ∀ r, s.2.2.1 = some r → q.block ≠ r.block) ∧ s.2.2.2.2 ≤ 39399 ∧ (s.2.2.2.1.length : Int) ≤ s.2.2.2.2 + 40000 ∧
        (∀ rest, Chain l s.2.2.2.2 rest → Chain l (-40000) (s.2.2.2.1 ++ rest)) ∧ (∀ t, (ptsOf l s.2.2.2.1).getLast? = some t → t = s.2.2.2.2) ∧ (s.2.2.2.1 = [] → s.2.2.2.2 = -40000))
      (fun s => (40000 - s.2.2.2.2).toNat) (H, none, none, [], -40000) ⟨Keeps.refl _, OwnSl.none, OwnSl.none, (fun q hq => by cases hq), by simp only; omega, by simp, (fun rest h => h), (fun t h => by cases h), fun _ => rfl⟩ (Weak.sub ?_) ?_
    · (simp -implicitDefEqProofs (disch := omega) only [Abs.Sub, get_cons_eq, get_cons_ne, and_self, Option.some.injEq, Value.int.injEq, Value.slice.injEq, true_and, and_true, Int.natCast_zero, Int.natCast_add, Int.natCast_one, List.length_nil]; try omega)
    · rintro ⟨G, a1, a2, cs, P⟩ ⟨hk, ho1, ho2, hne, hP39, hcl, hch, hP, hPn⟩
      simp only at hk ho1 ho2 hne hP39 hcl hch hP hPn ⊢
      refine AWP_of_awp ?_
      simp -implicitDefEqProofs (maxSteps := 2000000) (disch := first | omega | (simp only [nx_new, nx_set, List.length_cons, List.length_nil, List.length_map, List.length_set, ne_eq, not_true_eq_false, not_false_eq_true, Nat.succ_ne_zero]; done) | (simp only [nx_new, nx_set, List.length_cons, List.length_nil, List.length_map, List.length_set, ne_eq, not_true_eq_false, not_false_eq_true, Nat.succ_ne_zero]; omega)) only [go_sem, reduceIte, reduceCtorEq, Nat.succ_ne_zero, not_false_eq_true, decide_true, decide_false, Nat.reduceAdd, Nat.reduceMul, Nat.reduceEqDiff, Nat.reduceLeDiff]
      have e1 : (ptsOf l cs).length = cs.length := by simp [ptsOf]
      have e2 : (ints cs).length = cs.length := by simp [ints]
      refine AWP_loop (σ := Nat × Int) (fun s => [(8, .int .i64 s.1), (7, .int .i64 s.2), (5, .slice a1 cs.length cs.length), (6, .slice a2 cs.length cs.length), (0, .slice a l.length l.length)]) (fun _ => G)
        (fun s => s.1 ≤ l.length ∧ Best l P s.1 s.2) (fun s => l.length - s.1) (0, -1) ⟨Nat.zero_le _, .inl ⟨rfl, fun j hj => by omega⟩⟩ (Weak.sub ?_) ?_
      · (simp -implicitDefEqProofs (disch := omega) only [Abs.Sub, get_cons_eq, get_cons_ne, and_self, Option.some.injEq, Value.int.injEq, Value.slice.injEq, true_and, and_true, Int.natCast_zero, Int.natCast_add, Int.natCast_one, List.length_nil]; try omega)
      · rintro ⟨k, b⟩ ⟨hk1, hbest⟩
        simp only at hk1 hbest ⊢
        refine AWP_of_awp ?_
        by_cases hlt : k < l.length
        · obtain ⟨b0, o, rfl, hb, hload⟩ := (he.grows hk.grows) k (by simpa using hlt)
          have hel : ∀ i, i < l.length → load1 G ⟨b0, o + i * 2 + 1, none⟩ = some (.int .i64 (till l i)) := fun i hi => by
            obtain ⟨b1, o', he2, _, hl2⟩ := (he.grows hk.grows) i (by simpa using hi)
            simp only [Option.some.injEq, Addr.mk.injEq] at he2
            obtain ⟨rfl, rfl, _⟩ := he2
            simp only [List.getElem_map, spc] at hl2
            rw [till, at_get hi]
            exact (load1_part (i := 1) hl2 (by simp)).trans rfl
          have hk2 := hel k hlt
          have hk3 : load1 G ⟨b0, o + k * 2, none⟩ = some (.int .i64 (at_ l k).1) := by
            simp only [List.getElem_map, spc] at hload
            rw [at_get hlt]
            exact (load1_part (i := 0) hload (by simp)).trans rfl
          have hvk := hvi k hlt
          have hskip := hbest.skip
          have htake := hbest.take
          have hkeep : ∀ i : Nat, b = i → P < (at_ l k).1 → till l i ≤ till l k → Best l P (k + 1) i := fun i hi => by subst hi; exact hbest.keep
          have hbi : b = -1 ∨ ∃ i : Nat, b = i ∧ i < l.length := by
            rcases hbest with ⟨h, _⟩ | ⟨i, h, h2, _⟩
            · exact .inl h
            · exact .inr ⟨i, h, by omega⟩
          have tail : (P < (at_ l k).1) → True := fun _ => trivial
          generalize hfk : (at_ l k).1 = f at *
          simp -implicitDefEqProofs (maxSteps := 2000000) (disch := first | omega | (simp only [nx_new, nx_set, List.length_cons, List.length_nil, List.length_map, List.length_set, ne_eq, not_true_eq_false, not_false_eq_true, Nat.succ_ne_zero]; done) | (simp only [nx_new, nx_set, List.length_cons, List.length_nil, List.length_map, List.length_set, ne_eq, not_true_eq_false, not_false_eq_true, Nat.succ_ne_zero]; omega)) only [go_sem, reduceIte, reduceCtorEq, Nat.succ_ne_zero, not_false_eq_true, decide_true, decide_false, Nat.reduceAdd, Nat.reduceMul, Nat.reduceEqDiff, Nat.reduceLeDiff]
          refine AWP_draw_fast mo (by kernel_rfl) ?_
          by_cases hfP : cs ≠ [] ∧ f ≤ P
          · obtain ⟨hcs, hfP⟩ := hfP
            have hcl0 := List.length_pos_iff.2 hcs
            obtain ⟨q, rfl, hq1, hq2, hqg⟩ : ∃ q, a1 = some ⟨q, 0, none⟩ ∧ H.next ≤ q ∧ q < G.next ∧ G.get q = .row ((ptsOf l cs).map (Value.int .i64)) true 1 := by
              rcases ho1 with ⟨_, h⟩ | h
              · simp [ptsOf] at h; exact absurd h hcs
              · exact h
            have hidx : ((cs.length : Int) - 1).toNat = cs.length - 1 := by omega
            have hl2 : load1 G ⟨q, cs.length - 1, none⟩ = some (.int .i64 P) := by
              rw [l1_row _ _ _ _ _ hqg, List.getElem?_map]
              have h1 := List.getLast?_eq_getElem? (l := ptsOf l cs)
              rw [e1] at h1
              have h2 : (ptsOf l cs)[cs.length - 1]? = some (ptsOf l cs)[cs.length - 1] := List.getElem?_eq_getElem (by omega)
              rw [h2] at h1 ⊢
              rw [hP _ h1]; rfl
            simp -implicitDefEqProofs (maxSteps := 2000000) (disch := first | omega | (simp only [nx_new, nx_set, List.length_cons, List.length_nil, List.length_map, List.length_set, ne_eq, not_true_eq_false, not_false_eq_true, Nat.succ_ne_zero]; done) | (simp only [nx_new, nx_set, List.length_cons, List.length_nil, List.length_map, List.length_set, ne_eq, not_true_eq_false, not_false_eq_true, Nat.succ_ne_zero]; omega)) only [go_sem, reduceIte, reduceCtorEq, Nat.succ_ne_zero, not_false_eq_true, decide_true, decide_false, Nat.reduceAdd, Nat.reduceMul, Nat.reduceEqDiff, Nat.reduceLeDiff, hk3, hidx, hl2]
            refine ⟨(k + 1, b), ⟨hlt, hskip hfP⟩, by simp only; omega, Weak.sub ?_⟩
            (simp -implicitDefEqProofs (disch := omega) only [Abs.Sub, get_cons_eq, get_cons_ne, and_self, Option.some.injEq, Value.int.injEq, Value.slice.injEq, true_and, and_true, Int.natCast_zero, Int.natCast_add, Int.natCast_one, List.length_nil]; try omega)
          · have hPf : P < f := by
              by_cases hcs : cs = []
              · rw [hPn hcs]; omega
              · have : ¬f ≤ P := fun h => hfP ⟨hcs, h⟩
                omega
            have rest : True := trivial
            by_cases hcs : cs = []
            · subst hcs
              simp only [List.length_nil] at *
              simp -implicitDefEqProofs (maxSteps := 2000000) (disch := first | omega | (simp only [nx_new, nx_set, List.length_cons, List.length_nil, List.length_map, List.length_set, ne_eq, not_true_eq_false, not_false_eq_true, Nat.succ_ne_zero]; done) | (simp only [nx_new, nx_set, List.length_cons, List.length_nil, List.length_map, List.length_set, ne_eq, not_true_eq_false, not_false_eq_true, Nat.succ_ne_zero]; omega)) only [go_sem, reduceIte, reduceCtorEq, Nat.succ_ne_zero, not_false_eq_true, decide_true, decide_false, Nat.reduceAdd, Nat.reduceMul, Nat.reduceEqDiff, Nat.reduceLeDiff]
              refine AWP_draw_fast mo (by kernel_rfl) ?_
              rcases hbi with rfl | ⟨i, rfl, hi⟩
              · simp -implicitDefEqProofs (maxSteps := 2000000) (disch := first | omega | (simp only [nx_new, nx_set, List.length_cons, List.length_nil, List.length_map, List.length_set, ne_eq, not_true_eq_false, not_false_eq_true, Nat.succ_ne_zero]; done) | (simp only [nx_new, nx_set, List.length_cons, List.length_nil, List.length_map, List.length_set, ne_eq, not_true_eq_false, not_false_eq_true, Nat.succ_ne_zero]; omega)) only [go_sem, reduceIte, reduceCtorEq, Nat.succ_ne_zero, not_false_eq_true, decide_true, decide_false, Nat.reduceAdd, Nat.reduceMul, Nat.reduceEqDiff, Nat.reduceLeDiff]
                refine ⟨(k + 1, k), ⟨hlt, htake hPf (.inl (by omega))⟩, by simp only; omega, Weak.sub ?_⟩
                (simp -implicitDefEqProofs (disch := omega) only [Abs.Sub, get_cons_eq, get_cons_ne, and_self, Option.some.injEq, Value.int.injEq, Value.slice.injEq, true_and, and_true, Int.natCast_zero, Int.natCast_add, Int.natCast_one, List.length_nil]; try omega)
              · have hli := hel i hi
                simp -implicitDefEqProofs (maxSteps := 2000000) (disch := first | omega | (simp only [nx_new, nx_set, List.length_cons, List.length_nil, List.length_map, List.length_set, ne_eq, not_true_eq_false, not_false_eq_true, Nat.succ_ne_zero]; done) | (simp only [nx_new, nx_set, List.length_cons, List.length_nil, List.length_map, List.length_set, ne_eq, not_true_eq_false, not_false_eq_true, Nat.succ_ne_zero]; omega)) only [go_sem, reduceIte, reduceCtorEq, Nat.succ_ne_zero, not_false_eq_true, decide_true, decide_false, Nat.reduceAdd, Nat.reduceMul, Nat.reduceEqDiff, Nat.reduceLeDiff, hk2, hli]
                refine condS_split (fun hd => ?_) (fun hd => ?_)
                · have := of_decide_eq_true hd
                  simp -implicitDefEqProofs (maxSteps := 2000000) (disch := first | omega | (simp only [nx_new, nx_set, List.length_cons, List.length_nil, List.length_map, List.length_set, ne_eq, not_true_eq_false, not_false_eq_true, Nat.succ_ne_zero]; done) | (simp only [nx_new, nx_set, List.length_cons, List.length_nil, List.length_map, List.length_set, ne_eq, not_true_eq_false, not_false_eq_true, Nat.succ_ne_zero]; omega)) only [go_sem, reduceIte, reduceCtorEq, Nat.succ_ne_zero, not_false_eq_true, decide_true, decide_false, Nat.reduceAdd, Nat.reduceMul, Nat.reduceEqDiff, Nat.reduceLeDiff, hd]
                  refine ⟨(k + 1, k), ⟨hlt, htake hPf (.inr ⟨i, rfl, this⟩)⟩, by simp only; omega, Weak.sub ?_⟩
                  (simp -implicitDefEqProofs (disch := omega) only [Abs.Sub, get_cons_eq, get_cons_ne, and_self, Option.some.injEq, Value.int.injEq, Value.slice.injEq, true_and, and_true, Int.natCast_zero, Int.natCast_add, Int.natCast_one, List.length_nil]; try omega)
                · have := of_decide_eq_false hd
                  simp -implicitDefEqProofs (maxSteps := 2000000) (disch := first | omega | (simp only [nx_new, nx_set, List.length_cons, List.length_nil, List.length_map, List.length_set, ne_eq, not_true_eq_false, not_false_eq_true, Nat.succ_ne_zero]; done) | (simp only [nx_new, nx_set, List.length_cons, List.length_nil, List.length_map, List.length_set, ne_eq, not_true_eq_false, not_false_eq_true, Nat.succ_ne_zero]; omega)) only [go_sem, reduceIte, reduceCtorEq, Nat.succ_ne_zero, not_false_eq_true, decide_true, decide_false, Nat.reduceAdd, Nat.reduceMul, Nat.reduceEqDiff, Nat.reduceLeDiff, hd]
                  refine ⟨(k + 1, i), ⟨hlt, hkeep i rfl hPf (by omega)⟩, by simp only; omega, Weak.sub ?_⟩
                  (simp -implicitDefEqProofs (disch := omega) only [Abs.Sub, get_cons_eq, get_cons_ne, and_self, Option.some.injEq, Value.int.injEq, Value.slice.injEq, true_and, and_true, Int.natCast_zero, Int.natCast_add, Int.natCast_one, List.length_nil]; try omega)
            · have hcl0 := List.length_pos_iff.2 hcs
              obtain ⟨q, rfl, hq1, hq2, hqg⟩ : ∃ q, a1 = some ⟨q, 0, none⟩ ∧ H.next ≤ q ∧ q < G.next ∧ G.get q = .row ((ptsOf l cs).map (Value.int .i64)) true 1 := by
                rcases ho1 with ⟨_, h⟩ | h
                · simp [ptsOf] at h; exact absurd h hcs
                · exact h
              have hidx : ((cs.length : Int) - 1).toNat = cs.length - 1 := by omega
              have hl2 : load1 G ⟨q, cs.length - 1, none⟩ = some (.int .i64 P) := by
                rw [l1_row _ _ _ _ _ hqg, List.getElem?_map]
                have h1 := List.getLast?_eq_getElem? (l := ptsOf l cs)
                rw [e1] at h1
                have h2 : (ptsOf l cs)[cs.length - 1]? = some (ptsOf l cs)[cs.length - 1] := List.getElem?_eq_getElem (by omega)
                rw [h2] at h1 ⊢
                rw [hP _ h1]; rfl
              simp -implicitDefEqProofs (maxSteps := 2000000) (disch := first | omega | (simp only [nx_new, nx_set, List.length_cons, List.length_nil, List.length_map, List.length_set, ne_eq, not_true_eq_false, not_false_eq_true, Nat.succ_ne_zero]; done) | (simp only [nx_new, nx_set, List.length_cons, List.length_nil, List.length_map, List.length_set, ne_eq, not_true_eq_false, not_false_eq_true, Nat.succ_ne_zero]; omega)) only [go_sem, reduceIte, reduceCtorEq, Nat.succ_ne_zero, not_false_eq_true, decide_true, decide_false, Nat.reduceAdd, Nat.reduceMul, Nat.reduceEqDiff, Nat.reduceLeDiff, hk3, hidx, hl2]
              refine AWP_draw_fast mo (by kernel_rfl) ?_
              rcases hbi with rfl | ⟨i, rfl, hi⟩
              · simp -implicitDefEqProofs (maxSteps := 2000000) (disch := first | omega | (simp only [nx_new, nx_set, List.length_cons, List.length_nil, List.length_map, List.length_set, ne_eq, not_true_eq_false, not_false_eq_true, Nat.succ_ne_zero]; done) | (simp only [nx_new, nx_set, List.length_cons, List.length_nil, List.length_map, List.length_set, ne_eq, not_true_eq_false, not_false_eq_true, Nat.succ_ne_zero]; omega)) only [go_sem, reduceIte, reduceCtorEq, Nat.succ_ne_zero, not_false_eq_true, decide_true, decide_false, Nat.reduceAdd, Nat.reduceMul, Nat.reduceEqDiff, Nat.reduceLeDiff]
                refine ⟨(k + 1, k), ⟨hlt, htake hPf (.inl (by omega))⟩, by simp only; omega, Weak.sub ?_⟩
                (simp -implicitDefEqProofs (disch := omega) only [Abs.Sub, get_cons_eq, get_cons_ne, and_self, Option.some.injEq, Value.int.injEq, Value.slice.injEq, true_and, and_true, Int.natCast_zero, Int.natCast_add, Int.natCast_one, List.length_nil]; try omega)
              · have hli := hel i hi
                simp -implicitDefEqProofs (maxSteps := 2000000) (disch := first | omega | (simp only [nx_new, nx_set, List.length_cons, List.length_nil, List.length_map, List.length_set, ne_eq, not_true_eq_false, not_false_eq_true, Nat.succ_ne_zero]; done) | (simp only [nx_new, nx_set, List.length_cons, List.length_nil, List.length_map, List.length_set, ne_eq, not_true_eq_false, not_false_eq_true, Nat.succ_ne_zero]; omega)) only [go_sem, reduceIte, reduceCtorEq, Nat.succ_ne_zero, not_false_eq_true, decide_true, decide_false, Nat.reduceAdd, Nat.reduceMul, Nat.reduceEqDiff, Nat.reduceLeDiff, hk2, hli]
                refine condS_split (fun hd => ?_) (fun hd => ?_)
                · have := of_decide_eq_true hd
                  simp -implicitDefEqProofs (maxSteps := 2000000) (disch := first | omega | (simp only [nx_new, nx_set, List.length_cons, List.length_nil, List.length_map, List.length_set, ne_eq, not_true_eq_false, not_false_eq_true, Nat.succ_ne_zero]; done) | (simp only [nx_new, nx_set, List.length_cons, List.length_nil, List.length_map, List.length_set, ne_eq, not_true_eq_false, not_false_eq_true, Nat.succ_ne_zero]; omega)) only [go_sem, reduceIte, reduceCtorEq, Nat.succ_ne_zero, not_false_eq_true, decide_true, decide_false, Nat.reduceAdd, Nat.reduceMul, Nat.reduceEqDiff, Nat.reduceLeDiff, hd]
                  refine ⟨(k + 1, k), ⟨hlt, htake hPf (.inr ⟨i, rfl, this⟩)⟩, by simp only; omega, Weak.sub ?_⟩
                  (simp -implicitDefEqProofs (disch := omega) only [Abs.Sub, get_cons_eq, get_cons_ne, and_self, Option.some.injEq, Value.int.injEq, Value.slice.injEq, true_and, and_true, Int.natCast_zero, Int.natCast_add, Int.natCast_one, List.length_nil]; try omega)
                · have := of_decide_eq_false hd
                  simp -implicitDefEqProofs (maxSteps := 2000000) (disch := first | omega | (simp only [nx_new, nx_set, List.length_cons, List.length_nil, List.length_map, List.length_set, ne_eq, not_true_eq_false, not_false_eq_true, Nat.succ_ne_zero]; done) | (simp only [nx_new, nx_set, List.length_cons, List.length_nil, List.length_map, List.length_set, ne_eq, not_true_eq_false, not_false_eq_true, Nat.succ_ne_zero]; omega)) only [go_sem, reduceIte, reduceCtorEq, Nat.succ_ne_zero, not_false_eq_true, decide_true, decide_false, Nat.reduceAdd, Nat.reduceMul, Nat.reduceEqDiff, Nat.reduceLeDiff, hd]
                  refine ⟨(k + 1, i), ⟨hlt, hkeep i rfl hPf (by omega)⟩, by simp only; omega, Weak.sub ?_⟩
                  (simp -implicitDefEqProofs (disch := omega) only [Abs.Sub, get_cons_eq, get_cons_ne, and_self, Option.some.injEq, Value.int.injEq, Value.slice.injEq, true_and, and_true, Int.natCast_zero, Int.natCast_add, Int.natCast_one, List.length_nil]; try omega)
        · have hkl : k = l.length := by omega
          subst hkl
          simp -implicitDefEqProofs (maxSteps := 2000000) (disch := first | omega | (simp only [nx_new, nx_set, List.length_cons, List.length_nil, List.length_map, List.length_set, ne_eq, not_true_eq_false, not_false_eq_true, Nat.succ_ne_zero]; done) | (simp only [nx_new, nx_set, List.length_cons, List.length_nil, List.length_map, List.length_set, ne_eq, not_true_eq_false, not_false_eq_true, Nat.succ_ne_zero]; omega)) only [go_sem, reduceIte, reduceCtorEq, Nat.succ_ne_zero, not_false_eq_true, decide_true, decide_false, Nat.reduceAdd, Nat.reduceMul, Nat.reduceEqDiff, Nat.reduceLeDiff]
          rcases hbest with ⟨rfl, hnone⟩ | ⟨i, rfl, hi, hPi, hmin⟩
          · simp -implicitDefEqProofs (maxSteps := 2000000) (disch := first | omega | (simp only [nx_new, nx_set, List.length_cons, List.length_nil, List.length_map, List.length_set, ne_eq, not_true_eq_false, not_false_eq_true, Nat.succ_ne_zero]; done) | (simp only [nx_new, nx_set, List.length_cons, List.length_nil, List.length_map, List.length_set, ne_eq, not_true_eq_false, not_false_eq_true, Nat.succ_ne_zero]; omega)) only [go_sem, reduceIte, reduceCtorEq, Nat.succ_ne_zero, not_false_eq_true, decide_true, decide_false, Nat.reduceAdd, Nat.reduceMul, Nat.reduceEqDiff, Nat.reduceLeDiff]
            rw [← ic_flat] at ho1 ho2
            refine ret_r (v := .tuple #[.slice a1 cs.length cs.length, .slice a2 cs.length cs.length, .int .i64 0]) (by rw [ares_tmp3 ret13]; rfl) ⟨hk, .inr ⟨hc, cs, a1, a2, ?_, rfl, ho1.elems (ic_len _) (by decide), ho2.elems (ic_len _) (by decide)⟩⟩
            have := hch [] hnone
            rwa [List.append_nil] at this
          · obtain ⟨b1, o', rfl, _, hl2⟩ := (he.grows hk.grows) i (by simpa using hi)
            simp only [List.getElem_map, spc] at hl2
            have hli : load1 G ⟨b1, o' + i * 2 + 1, none⟩ = some (.int .i64 (till l i)) := by
              rw [till, at_get hi]
              exact (load1_part (i := 1) hl2 (by simp)).trans rfl
            have hvk := hvi i hi
            have k1 : Keeps G (G.new (.row [.int .i64 (till l i)] true 1)) := Keeps.new _ _
            obtain ⟨G1, hap1, hn1, hg1, hold1⟩ := append_own (P := Try.prog) u23 u23 ts3 tb3 tz3 rfl (by decide) (by decide) (lo := H.next) (n := cs.length) (c := cs.length) (m := 1) (c' := 1) (r := G.next) (ro := 0) (xs := [.int .i64 (till l i)]) (ho1.keeps k1) (by simp -implicitDefEqProofs (maxSteps := 2000000) (disch := first | omega | (simp only [nx_new, nx_set, List.length_cons, List.length_nil, List.length_map, List.length_set, ne_eq, not_true_eq_false, not_false_eq_true, Nat.succ_ne_zero]; done) | (simp only [nx_new, nx_set, List.length_cons, List.length_nil, List.length_map, List.length_set, ne_eq, not_true_eq_false, not_false_eq_true, Nat.succ_ne_zero]; omega)) only [go_sem, reduceIte, reduceCtorEq, Nat.succ_ne_zero, not_false_eq_true, decide_true, decide_false, Nat.reduceAdd, Nat.reduceMul, Nat.reduceEqDiff, Nat.reduceLeDiff]) rfl (by decide) (by simp [ptsOf]) (by omega)
            have o2 : OwnSl H.next G1 a2 1 ((ints cs).map (Value.int .i64)) := by
              rcases ho2 with h | ⟨q, h1, h2, h3, h4⟩
              · exact .inl h
              · refine .inr ⟨q, h1, h2, by rw [hn1]; simp only [Hp.next_new]; omega, ?_⟩
                rw [hold1 q (by simp only [Hp.next_new]; omega) (fun r hr => by have := hne r hr _ h1; simp only at this; omega)]
                rw [← h4]
                exact k1.get q h3
            obtain ⟨G2, hap2, hn2, hg2, hold2⟩ := append_own (P := Try.prog) u23 u23 ts3 tb3 tz3 rfl (by decide) (by decide) (lo := H.next) (n := cs.length) (c := cs.length) (m := 1) (c' := 1) (r := G1.next) (ro := 0) (xs := [.int .i64 i]) (o2.keeps (Keeps.new G1 (.row [.int .i64 i] true 1))) (by simp -implicitDefEqProofs (maxSteps := 2000000) (disch := first | omega | (simp only [nx_new, nx_set, List.length_cons, List.length_nil, List.length_map, List.length_set, ne_eq, not_true_eq_false, not_false_eq_true, Nat.succ_ne_zero]; done) | (simp only [nx_new, nx_set, List.length_cons, List.length_nil, List.length_map, List.length_set, ne_eq, not_true_eq_false, not_false_eq_true, Nat.succ_ne_zero]; omega)) only [go_sem, reduceIte, reduceCtorEq, Nat.succ_ne_zero, not_false_eq_true, decide_true, decide_false, Nat.reduceAdd, Nat.reduceMul, Nat.reduceEqDiff, Nat.reduceLeDiff]) rfl (by decide) (by simp [ints]) (by omega)
            have hn1' : G1.next = G.next + 1 + 1 := hn1
            have hn2' : G2.next = G1.next + 1 + 1 := hn2
            have hg1' : G1.get (G.next + 1) = .row ((ptsOf l cs).map (Value.int .i64) ++ [.int .i64 (till l i)]) true 1 := hg1
            have hg2' : G2.get (G1.next + 1) = .row ((ints cs).map (Value.int .i64) ++ [.int .i64 i]) true 1 := hg2
            have hq2 : ∀ q, a2 = some q → q.block < G.next := fun q hq => by
              rcases ho2 with ⟨h, _⟩ | ⟨q', h1, _, h3, _⟩
              · rw [h] at hq; cases hq
              · rw [h1] at hq; cases hq; exact h3
            have hkn := hk.next
            simp -implicitDefEqProofs (maxSteps := 2000000) (disch := first | omega | (simp only [nx_new, nx_set, List.length_cons, List.length_nil, List.length_map, List.length_set, ne_eq, not_true_eq_false, not_false_eq_true, Nat.succ_ne_zero]; done) | (simp only [nx_new, nx_set, List.length_cons, List.length_nil, List.length_map, List.length_set, ne_eq, not_true_eq_false, not_false_eq_true, Nat.succ_ne_zero]; omega)) only [go_sem, reduceIte, reduceCtorEq, Nat.succ_ne_zero, not_false_eq_true, decide_true, decide_false, Nat.reduceAdd, Nat.reduceMul, Nat.reduceEqDiff, Nat.reduceLeDiff, hli]
            rw [hap1]
            simp -implicitDefEqProofs (maxSteps := 2000000) (disch := first | omega | (simp only [nx_new, nx_set, List.length_cons, List.length_nil, List.length_map, List.length_set, ne_eq, not_true_eq_false, not_false_eq_true, Nat.succ_ne_zero]; done) | (simp only [nx_new, nx_set, List.length_cons, List.length_nil, List.length_map, List.length_set, ne_eq, not_true_eq_false, not_false_eq_true, Nat.succ_ne_zero]; omega)) only [go_sem, reduceIte, reduceCtorEq, Nat.succ_ne_zero, not_false_eq_true, decide_true, decide_false, Nat.reduceAdd, Nat.reduceMul, Nat.reduceEqDiff, Nat.reduceLeDiff]
            rw [hap2]
            simp -implicitDefEqProofs (maxSteps := 2000000) (disch := first | omega | (simp only [nx_new, nx_set, List.length_cons, List.length_nil, List.length_map, List.length_set, ne_eq, not_true_eq_false, not_false_eq_true, Nat.succ_ne_zero]; done) | (simp only [nx_new, nx_set, List.length_cons, List.length_nil, List.length_map, List.length_set, ne_eq, not_true_eq_false, not_false_eq_true, Nat.succ_ne_zero]; omega)) only [go_sem, reduceIte, reduceCtorEq, Nat.succ_ne_zero, not_false_eq_true, decide_true, decide_false, Nat.reduceAdd, Nat.reduceMul, Nat.reduceEqDiff, Nat.reduceLeDiff]
            refine ⟨(G2, some ⟨G.next + 1, 0, none⟩, some ⟨G1.next + 1, 0, none⟩, cs ++ [i], till l i), ⟨⟨by simp only; omega, fun b hb => ?_⟩, .inr ⟨G.next + 1, rfl, by omega, by simp only; omega, ?_⟩, .inr ⟨G1.next + 1, rfl, by omega, by simp only; omega, ?_⟩, ?_, by simp only; omega, ?_, ?_, ?_, ?_⟩, by simp only; omega, Weak.sub ?_⟩
            · simp only
              rw [hold2 b (by simp only [Hp.next_new]; omega) (o2.lo_ne hb), Hp.get_new_ne _ _ _ (by omega), hold1 b (by simp only [Hp.next_new]; omega) (ho1.lo_ne hb), Hp.get_new_ne _ _ _ (by omega)]
              exact hk.get b hb
            · simp only [ptsOf, List.map_append, List.map_cons, List.map_nil]
              rw [hold2 _ (by simp only [Hp.next_new]; omega) (fun q hq => by have := hq2 q hq; omega), Hp.get_new_ne _ _ _ (by omega)]
              simpa [ptsOf] using hg1'
            · simp only [ints, List.map_append, List.map_cons, List.map_nil]
              simpa [ints] using hg2'
            · intro q hq r hr
              cases hq; cases hr
              simp only; omega
            · simp only [List.length_append, List.length_singleton]; omega
            · intro rest hrest
              rw [List.append_assoc]
              exact hch _ ⟨hi, hPi, hmin, hrest⟩
            · intro t ht
              simp only [ptsOf, List.map_append, List.map_cons, List.map_nil, List.getLast?_append] at ht
              simpa using ht.symm
            · intro h; simp at h
            · simp only [List.length_append, List.length_singleton]
              simp -implicitDefEqProofs (disch := omega) only [Abs.Sub, get_cons_eq, get_cons_ne, and_self, Int.natCast_zero, Int.natCast_add, Int.natCast_one]
end Go.Proofs.Ytjgdmjoafpbnaaa
