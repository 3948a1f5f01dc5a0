/- DetectCounts, walked. -/
import Derived.Test.YtjdmndklnfhmjaaXm
set_option linter.unusedVariables false
set_option linter.unusedSimpArgs false
set_option linter.unusedSectionVars false
namespace Go.Proofs.Ytjdmndklnfhmjaa
open Go.Abs
set_option maxHeartbeats 8000000
set_option maxRecDepth 100000
def sumC (ps L : List Pl) : Nat := (L.map fun p => ps.count p).sum
theorem sum_add (f g : Pl → Nat) : ∀ L : List Pl, (L.map fun p => f p + g p).sum = (L.map f).sum + (L.map g).sum
  | [] => rfl
  | x :: L => by simp only [List.map_cons, List.sum_cons, sum_add f g L]; omega
theorem sum_ind (q : Pl) : ∀ L : List Pl, (L.map fun p => if q = p then 1 else 0).sum = L.count q
  | [] => rfl
  | x :: L => by
    rw [List.map_cons, List.sum_cons, sum_ind q L, List.count_cons]
    by_cases h : q = x
    · subst h; simp; omega
    · have h' : ¬ x = q := fun e => h e.symm
      simp [h, h']
theorem sumC_nil : ∀ L, sumC [] L = 0
  | [] => rfl
  | x :: L => by
    have ih := sumC_nil L
    simp only [sumC, List.count_nil] at ih
    simp only [sumC, List.map_cons, List.sum_cons, List.count_nil, ih]
theorem sumC_all {L : List Pl} (hL : L.Nodup) : ∀ {ps : List Pl}, (∀ p, p ∈ ps → p ∈ L) → sumC ps L = ps.length
  | [], _ => sumC_nil L
  | q :: ps, h => by
    have ih := sumC_all hL (ps := ps) fun p hp => h p (List.mem_cons_of_mem _ hp)
    have e : (fun p => (q :: ps).count p) = fun p => ps.count p + if q = p then 1 else 0 := by
      funext p
      rw [List.count_cons]
      simp only [beq_iff_eq]
    rw [sumC, e, sum_add, sum_ind, count_one hL (h q (List.mem_cons_self ..)), List.length_cons]
    simp only [sumC] at ih
    omega
theorem sumC_take (ps L : List Pl) (i : Nat) : sumC ps (L.take i) ≤ sumC ps L := by
  have : sumC ps L = sumC ps (L.take i) + sumC ps (L.drop i) := by
    rw [sumC, sumC, sumC, ← List.sum_append, ← List.map_append, List.take_append_drop]
  omega
theorem n4 : Try.f4.ntmps = 117 := rfl
theorem ret4 : Try.f4.results = #[.tmp 2] := rfl
theorem counts_law (H : Hp) (a : Option Addr) (l : List Det) (he : Elems H a 5 (l.map Det.cells)) :
    ACalls Try.prog 4 [.slice a l.length l.length] H (fun x _ => x = .bool true) := by
  refine ACalls_enter Try.func4 (by kernel_rfl) rfl (by kernel_rfl) (by simp [n4]) fun hw hr => AWP_of_awp ?_
  simp -implicitDefEqProofs (maxSteps := 2000000) (disch := first | omega | (simp only [nx_new, nx_set, List.length_cons, List.length_nil, List.length_map, List.length_set, ne_eq, not_true_eq_false, not_false_eq_true, Nat.succ_ne_zero]; done) | (simp only [nx_new, nx_set, List.length_cons, List.length_nil, List.length_map, List.length_set, ne_eq, not_true_eq_false, not_false_eq_true, Nat.succ_ne_zero]; omega)) only [go_sem, reduceIte, reduceCtorEq, Nat.succ_ne_zero, not_false_eq_true, decide_true, decide_false, Nat.reduceAdd, Nat.reduceMul, Nat.reduceEqDiff, Nat.reduceLeDiff]
  refine (head_spec H).mono ?_
  rintro _ G1 ⟨rfl, k1⟩
  have he1 := Elems.km he k1
  simp -implicitDefEqProofs (maxSteps := 2000000) (disch := first | omega | (simp only [nx_new, nx_set, List.length_cons, List.length_nil, List.length_map, List.length_set, ne_eq, not_true_eq_false, not_false_eq_true, Nat.succ_ne_zero]; done) | (simp only [nx_new, nx_set, List.length_cons, List.length_nil, List.length_map, List.length_set, ne_eq, not_true_eq_false, not_false_eq_true, Nat.succ_ne_zero]; omega)) only [go_sem, reduceIte, reduceCtorEq, Nat.succ_ne_zero, not_false_eq_true, decide_true, decide_false, Nat.reduceAdd, Nat.reduceMul, Nat.reduceEqDiff, Nat.reduceLeDiff]
  refine ACalls.use_eq (few_spec G1 a none l.length 0) ?_
  cases hf : fewB l.length 0 with
  | false =>
    simp -implicitDefEqProofs (maxSteps := 2000000) (disch := first | omega | (simp only [nx_new, nx_set, List.length_cons, List.length_nil, List.length_map, List.length_set, ne_eq, not_true_eq_false, not_false_eq_true, Nat.succ_ne_zero]; done) | (simp only [nx_new, nx_set, List.length_cons, List.length_nil, List.length_map, List.length_set, ne_eq, not_true_eq_false, not_false_eq_true, Nat.succ_ne_zero]; omega)) only [go_sem, reduceIte, reduceCtorEq, Nat.succ_ne_zero, not_false_eq_true, decide_true, decide_false, Nat.reduceAdd, Nat.reduceMul, Nat.reduceEqDiff, Nat.reduceLeDiff]
    exact ret_r (v := .bool true) (by rw [ares_tmp ret4]; rfl) rfl
  | true =>
  have hlb : l.length ≤ 1010 := by
    simp only [fewB, Bool.and_eq_true, Bool.or_eq_true, decide_eq_true_eq] at hf; omega
  simp -implicitDefEqProofs (maxSteps := 2000000) (disch := first | omega | (simp only [nx_new, nx_set, List.length_cons, List.length_nil, List.length_map, List.length_set, ne_eq, not_true_eq_false, not_false_eq_true, Nat.succ_ne_zero]; done) | (simp only [nx_new, nx_set, List.length_cons, List.length_nil, List.length_map, List.length_set, ne_eq, not_true_eq_false, not_false_eq_true, Nat.succ_ne_zero]; omega)) only [go_sem, reduceIte, reduceCtorEq, Nat.succ_ne_zero, not_false_eq_true, decide_true, decide_false, Nat.reduceAdd, Nat.reduceMul, Nat.reduceEqDiff, Nat.reduceLeDiff]
  refine (count_spec G1 a l (by omega) he1).mono ?_
  rintro _ G2 ⟨hc2, k2⟩
  rcases hc2 with ⟨_, rfl⟩ | ⟨_, _, rfl⟩ | ⟨h1000, hall, o, L, hR, rfl, ho⟩
  · simp -implicitDefEqProofs (maxSteps := 2000000) (disch := first | omega | (simp only [nx_new, nx_set, List.length_cons, List.length_nil, List.length_map, List.length_set, ne_eq, not_true_eq_false, not_false_eq_true, Nat.succ_ne_zero]; done) | (simp only [nx_new, nx_set, List.length_cons, List.length_nil, List.length_map, List.length_set, ne_eq, not_true_eq_false, not_false_eq_true, Nat.succ_ne_zero]; omega)) only [go_sem, reduceIte, reduceCtorEq, Nat.succ_ne_zero, not_false_eq_true, decide_true, decide_false, Nat.reduceAdd, Nat.reduceMul, Nat.reduceEqDiff, Nat.reduceLeDiff]
    exact ret_r (v := .bool true) (by rw [ares_tmp ret4]; rfl) rfl
  · simp -implicitDefEqProofs (maxSteps := 2000000) (disch := first | omega | (simp only [nx_new, nx_set, List.length_cons, List.length_nil, List.length_map, List.length_set, ne_eq, not_true_eq_false, not_false_eq_true, Nat.succ_ne_zero]; done) | (simp only [nx_new, nx_set, List.length_cons, List.length_nil, List.length_map, List.length_set, ne_eq, not_true_eq_false, not_false_eq_true, Nat.succ_ne_zero]; omega)) only [go_sem, reduceIte, reduceCtorEq, Nat.succ_ne_zero, not_false_eq_true, decide_true, decide_false, Nat.reduceAdd, Nat.reduceMul, Nat.reduceEqDiff, Nat.reduceLeDiff]
    exact ret_r (v := .bool true) (by rw [ares_tmp ret4]; rfl) rfl
  have h40 : l.length ≤ 40 := by
    simp only [fewB, Bool.and_eq_true, Bool.or_eq_true, decide_eq_true_eq] at hf; omega
  have he2 := Elems.km he1 k2
  have hel := ho.elems (tals_len _) (by decide)
  obtain ⟨ps, hps⟩ : ∃ ps, ps = l.map Det.pl := ⟨_, rfl⟩
  rw [← hps] at hR hel
  have hnd : L.Nodup := hR.1.imp fun {a b} h e => by subst e; exact lt_irrefl _ h
  have hpl : ps.length = l.length := by rw [hps, List.length_map]
  have hL40 : L.length ≤ 40 := by have := rank_len hR; omega
  have htot : sumC ps L = l.length := by rw [sumC_all hnd fun p hp => (hR.2 p).2 hp, hpl]
  have hcl : ∀ p, ps.count p ≤ 40 := fun p => by have := List.count_le_length (a := p) (l := ps); omega
  simp -implicitDefEqProofs (maxSteps := 2000000) (disch := first | omega | (simp only [nx_new, nx_set, List.length_cons, List.length_nil, List.length_map, List.length_set, ne_eq, not_true_eq_false, not_false_eq_true, Nat.succ_ne_zero]; done) | (simp only [nx_new, nx_set, List.length_cons, List.length_nil, List.length_map, List.length_set, ne_eq, not_true_eq_false, not_false_eq_true, Nat.succ_ne_zero]; omega)) only [go_sem, reduceIte, reduceCtorEq, Nat.succ_ne_zero, not_false_eq_true, decide_true, decide_false, Nat.reduceAdd, Nat.reduceMul, Nat.reduceEqDiff, Nat.reduceLeDiff]
  refine AWP_loop (σ := Nat × Hp) (fun s => [(7, .int .i64 s.1), (6, .int .i64 (sumC ps (L.take s.1))), (4, .slice o L.length L.length), (3, .bool true), (0, .slice a l.length l.length)]) (fun s => s.2)
    (fun s => s.1 ≤ L.length ∧ Keeps G2 s.2) (fun s => L.length - s.1) (0, G2) ⟨Nat.zero_le _, Keeps.refl _⟩ (Weak.sub ?_) ?_
  · have h0 : sumC ps (L.take 0) = 0 := rfl
    simp only [h0]
    (simp -implicitDefEqProofs (disch := omega) only [Abs.Sub, get_cons_eq, get_cons_ne, and_self, Option.some.injEq, Value.int.injEq, Value.slice.injEq, true_and, and_true, Int.natCast_zero, Int.natCast_add, Int.natCast_one, List.length_nil]; try omega)
  rintro ⟨i, G⟩ ⟨hi, hk⟩
  simp only at hi hk ⊢
  refine AWP_of_awp ?_
  have hsi : sumC ps (L.take i) ≤ 40 := by have := sumC_take ps L i; omega
  by_cases hlt : i < L.length
  · have heG := he2.grows hk.grows
    have helG := hel.grows hk.grows
    obtain ⟨b', ob', rfl, hload'⟩ := tal_at helG i (by rw [List.length_map]; exact hlt)
    rw [List.getElem_map] at hload'
    have hmem : L[i] ∈ ps := (hR.2 _).1 (List.getElem_mem hlt)
    have hs1 : sumC ps (L.take (i + 1)) = sumC ps (L.take i) + ps.count L[i] := by
      rw [List.take_succ_eq_append_getElem hlt, sumC, List.map_append, List.sum_append, sumC]; simp
    have hs2 : sumC ps (L.take (i + 1)) ≤ 40 := by have := sumC_take ps L (i + 1); omega
    have hpos : 1 ≤ ps.count L[i] := List.count_pos_iff.2 hmem
    have hless : ∀ h : i ≠ 0, ltT (talOf ps (L[i - 1]'(by omega))) (talOf ps L[i]) = true := fun h =>
      decide_eq_true (List.pairwise_iff_getElem.1 hR.1 (i - 1) i (by omega) hlt (by omega))
    have hprev : ∀ h : i ≠ 0, aload G ⟨b', ob' + (i - 1) * 4, none⟩ 4 = some (talOf ps (L[i - 1]'(by omega))).cells := fun h => by
      obtain ⟨b2, o2, e, h2⟩ := tal_at helG (i - 1) (by rw [List.length_map]; omega)
      cases e
      rw [List.getElem_map] at h2
      exact h2
    generalize L[i] = p at *
    have hpc : (talOf ps p).cells = [.int .i64 p.t, .int .i64 p.c, .int .i64 p.f, .int .i64 (ps.count p)] := rfl
    have hpb := hcl p
    have hls := fun y => less_spec G y (talOf ps p)
    rw [hpc] at hload' hls
    have t0 : load1 G ⟨b', ob' + i * 4, none⟩ = some (.int .i64 p.t) := load1_part hload' (i := 0) (by decide)
    have t1 : load1 G ⟨b', ob' + i * 4 + 1, none⟩ = some (.int .i64 p.c) := load1_part hload' (i := 1) (by decide)
    have t2 : load1 G ⟨b', ob' + i * 4 + 2, none⟩ = some (.int .i64 p.f) := load1_part hload' (i := 2) (by decide)
    have t3 : load1 G ⟨b', ob' + i * 4 + 3, none⟩ = some (.int .i64 (ps.count p)) := load1_part hload' (i := 3) (by decide)
    simp -implicitDefEqProofs (maxSteps := 2000000) (disch := first | omega | (simp only [nx_new, nx_set, List.length_cons, List.length_nil, List.length_map, List.length_set, ne_eq, not_true_eq_false, not_false_eq_true, Nat.succ_ne_zero]; done) | (simp only [nx_new, nx_set, List.length_cons, List.length_nil, List.length_map, List.length_set, ne_eq, not_true_eq_false, not_false_eq_true, Nat.succ_ne_zero]; omega)) only [go_sem, reduceIte, reduceCtorEq, Nat.succ_ne_zero, not_false_eq_true, decide_true, decide_false, Nat.reduceAdd, Nat.reduceMul, Nat.reduceEqDiff, Nat.reduceLeDiff]
    refine AWP_loop (σ := Nat) (fun s => [(9, .int .i64 s), (8, .int .i64 ((ps.take s).count p)), (7, .int .i64 i), (6, .int .i64 (sumC ps (L.take i))), (4, .slice (some ⟨b', ob', none⟩) L.length L.length), (3, .bool true), (0, .slice a l.length l.length)]) (fun _ => G)
      (fun s => s ≤ l.length) (fun s => l.length - s) 0 (Nat.zero_le _) (Weak.sub ?_) ?_
    · have h0 : (ps.take 0).count p = 0 := by rw [List.take_zero, List.count_nil]
      simp only [h0]
      (simp -implicitDefEqProofs (disch := omega) only [Abs.Sub, get_cons_eq, get_cons_ne, and_self, Option.some.injEq, Value.int.injEq, Value.slice.injEq, true_and, and_true, Int.natCast_zero, Int.natCast_add, Int.natCast_one, List.length_nil]; try omega)
    rintro k hk4
    refine AWP_of_awp ?_
    have hkc : (ps.take k).count p ≤ 40 := by have := List.count_le_length (a := p) (l := ps.take k); rw [List.length_take] at this; omega
    by_cases hltk : k < l.length
    · obtain ⟨b, ob, rfl, hload⟩ := det_at heG k hltk
      have htk : (ps.take (k + 1)).count p = (ps.take k).count p + if l[k].pl = p then 1 else 0 := by
        have e : ps.take (k + 1) = ps.take k ++ [l[k].pl] := by
          rw [List.take_succ_eq_append_getElem (by omega : k < ps.length)]
          congr 2
          subst hps
          rw [List.getElem_map]
        rw [e, count_snoc]
      generalize l[k] = d at *
      have hdc : d.cells = [.int .i64 d.t, .int .i64 d.c, .int .i64 d.f, .int .i64 d.v, .int .i64 d.a] := rfl
      rw [hdc] at hload
      have s0 : load1 G ⟨b, ob + k * 5, none⟩ = some (.int .i64 d.t) := load1_part hload (i := 0) (by decide)
      have s1 : load1 G ⟨b, ob + k * 5 + 1, none⟩ = some (.int .i64 d.c) := load1_part hload (i := 1) (by decide)
      have s2 : load1 G ⟨b, ob + k * 5 + 2, none⟩ = some (.int .i64 d.f) := load1_part hload (i := 2) (by decide)
      have hno : d.pl ≠ p → (ps.take (k + 1)).count p = (ps.take k).count p := fun h => by rw [htk, if_neg h, Nat.add_zero]
      simp -implicitDefEqProofs (maxSteps := 2000000) (disch := first | omega | (simp only [nx_new, nx_set, List.length_cons, List.length_nil, List.length_map, List.length_set, ne_eq, not_true_eq_false, not_false_eq_true, Nat.succ_ne_zero]; done) | (simp only [nx_new, nx_set, List.length_cons, List.length_nil, List.length_map, List.length_set, ne_eq, not_true_eq_false, not_false_eq_true, Nat.succ_ne_zero]; omega)) only [go_sem, reduceIte, reduceCtorEq, Nat.succ_ne_zero, not_false_eq_true, decide_true, decide_false, Nat.reduceAdd, Nat.reduceMul, Nat.reduceEqDiff, Nat.reduceLeDiff]
      refine AWP_draw_fast mo (by kernel_rfl) ?_
      by_cases h1 : d.t = p.t
      · by_cases h2 : d.c = p.c
        · by_cases h3 : d.f = p.f
          · have hyes : (ps.take (k + 1)).count p = (ps.take k).count p + 1 := by
              rw [htk, if_pos]
              cases d; cases p
              simp only at h1 h2 h3
              subst h1; subst h2; subst h3; rfl
            rw [h1] at s0; rw [h2] at s1; rw [h3] at s2
            simp -implicitDefEqProofs (maxSteps := 2000000) (disch := first | omega | (simp only [nx_new, nx_set, List.length_cons, List.length_nil, List.length_map, List.length_set, ne_eq, not_true_eq_false, not_false_eq_true, Nat.succ_ne_zero]; done) | (simp only [nx_new, nx_set, List.length_cons, List.length_nil, List.length_map, List.length_set, ne_eq, not_true_eq_false, not_false_eq_true, Nat.succ_ne_zero]; omega)) only [go_sem, reduceIte, reduceCtorEq, Nat.succ_ne_zero, not_false_eq_true, decide_true, decide_false, Nat.reduceAdd, Nat.reduceMul, Nat.reduceEqDiff, Nat.reduceLeDiff, s0, s1, s2, t0, t1, t2, beq_self_eq_true]
            exact ⟨k + 1, hltk, by omega, Weak.sub (by simp only [hyes]; (simp -implicitDefEqProofs (disch := omega) only [Abs.Sub, get_cons_eq, get_cons_ne, and_self, Option.some.injEq, Value.int.injEq, Value.slice.injEq, true_and, and_true, Int.natCast_zero, Int.natCast_add, Int.natCast_one, List.length_nil]; try omega))⟩
          · have hb : (d.f == p.f) = false := beq_false_of_ne h3
            rw [h1] at s0; rw [h2] at s1
            simp -implicitDefEqProofs (maxSteps := 2000000) (disch := first | omega | (simp only [nx_new, nx_set, List.length_cons, List.length_nil, List.length_map, List.length_set, ne_eq, not_true_eq_false, not_false_eq_true, Nat.succ_ne_zero]; done) | (simp only [nx_new, nx_set, List.length_cons, List.length_nil, List.length_map, List.length_set, ne_eq, not_true_eq_false, not_false_eq_true, Nat.succ_ne_zero]; omega)) only [go_sem, reduceIte, reduceCtorEq, Nat.succ_ne_zero, not_false_eq_true, decide_true, decide_false, Nat.reduceAdd, Nat.reduceMul, Nat.reduceEqDiff, Nat.reduceLeDiff, s0, s1, s2, t0, t1, t2, beq_self_eq_true, hb]
            exact ⟨k + 1, hltk, by omega, Weak.sub (by simp only [hno (fun e => h3 (by rw [← e]; rfl))]; (simp -implicitDefEqProofs (disch := omega) only [Abs.Sub, get_cons_eq, get_cons_ne, and_self, Option.some.injEq, Value.int.injEq, Value.slice.injEq, true_and, and_true, Int.natCast_zero, Int.natCast_add, Int.natCast_one, List.length_nil]; try omega))⟩
        · have hb : (d.c == p.c) = false := beq_false_of_ne h2
          rw [h1] at s0
          simp -implicitDefEqProofs (maxSteps := 2000000) (disch := first | omega | (simp only [nx_new, nx_set, List.length_cons, List.length_nil, List.length_map, List.length_set, ne_eq, not_true_eq_false, not_false_eq_true, Nat.succ_ne_zero]; done) | (simp only [nx_new, nx_set, List.length_cons, List.length_nil, List.length_map, List.length_set, ne_eq, not_true_eq_false, not_false_eq_true, Nat.succ_ne_zero]; omega)) only [go_sem, reduceIte, reduceCtorEq, Nat.succ_ne_zero, not_false_eq_true, decide_true, decide_false, Nat.reduceAdd, Nat.reduceMul, Nat.reduceEqDiff, Nat.reduceLeDiff, s0, s1, s2, t0, t1, t2, beq_self_eq_true, hb]
          exact ⟨k + 1, hltk, by omega, Weak.sub (by simp only [hno (fun e => h2 (by rw [← e]; rfl))]; (simp -implicitDefEqProofs (disch := omega) only [Abs.Sub, get_cons_eq, get_cons_ne, and_self, Option.some.injEq, Value.int.injEq, Value.slice.injEq, true_and, and_true, Int.natCast_zero, Int.natCast_add, Int.natCast_one, List.length_nil]; try omega))⟩
      · have hb : (d.t == p.t) = false := beq_false_of_ne h1
        simp -implicitDefEqProofs (maxSteps := 2000000) (disch := first | omega | (simp only [nx_new, nx_set, List.length_cons, List.length_nil, List.length_map, List.length_set, ne_eq, not_true_eq_false, not_false_eq_true, Nat.succ_ne_zero]; done) | (simp only [nx_new, nx_set, List.length_cons, List.length_nil, List.length_map, List.length_set, ne_eq, not_true_eq_false, not_false_eq_true, Nat.succ_ne_zero]; omega)) only [go_sem, reduceIte, reduceCtorEq, Nat.succ_ne_zero, not_false_eq_true, decide_true, decide_false, Nat.reduceAdd, Nat.reduceMul, Nat.reduceEqDiff, Nat.reduceLeDiff, s0, s1, s2, t0, t1, t2, hb]
        exact ⟨k + 1, hltk, by omega, Weak.sub (by simp only [hno (fun e => h1 (by rw [← e]; rfl))]; (simp -implicitDefEqProofs (disch := omega) only [Abs.Sub, get_cons_eq, get_cons_ne, and_self, Option.some.injEq, Value.int.injEq, Value.slice.injEq, true_and, and_true, Int.natCast_zero, Int.natCast_add, Int.natCast_one, List.length_nil]; try omega))⟩
    · obtain rfl : k = l.length := by omega
      have hfull : ps.take l.length = ps := List.take_of_length_le (by omega)
      rw [hfull]
      simp -implicitDefEqProofs (maxSteps := 2000000) (disch := first | omega | (simp only [nx_new, nx_set, List.length_cons, List.length_nil, List.length_map, List.length_set, ne_eq, not_true_eq_false, not_false_eq_true, Nat.succ_ne_zero]; done) | (simp only [nx_new, nx_set, List.length_cons, List.length_nil, List.length_map, List.length_set, ne_eq, not_true_eq_false, not_false_eq_true, Nat.succ_ne_zero]; omega)) only [go_sem, reduceIte, reduceCtorEq, Nat.succ_ne_zero, not_false_eq_true, decide_true, decide_false, Nat.reduceAdd, Nat.reduceMul, Nat.reduceEqDiff, Nat.reduceLeDiff]
      refine AWP_draw_fast mo (by kernel_rfl) ?_
      have hbb : ((ps.count p : Int) != (ps.count p : Int)) = false := bne_eq_false_iff_eq.2 rfl
      by_cases hi0 : i = 0
      · subst hi0
        have hz : sumC ps [] = 0 := rfl
        have hs1' : sumC ps (L.take 1) = ps.count p := by
          have h := hs1
          rw [show sumC ps (L.take 0) = 0 from rfl] at h
          exact h.trans (Nat.zero_add _)
        simp -implicitDefEqProofs (maxSteps := 2000000) (disch := first | omega | (simp only [nx_new, nx_set, List.length_cons, List.length_nil, List.length_map, List.length_set, ne_eq, not_true_eq_false, not_false_eq_true, Nat.succ_ne_zero]; done) | (simp only [nx_new, nx_set, List.length_cons, List.length_nil, List.length_map, List.length_set, ne_eq, not_true_eq_false, not_false_eq_true, Nat.succ_ne_zero]; omega)) only [go_sem, reduceIte, reduceCtorEq, Nat.succ_ne_zero, not_false_eq_true, decide_true, decide_false, Nat.reduceAdd, Nat.reduceMul, Nat.reduceEqDiff, Nat.reduceLeDiff, t3, hbb, hz]
        exact ⟨(1, G), ⟨hlt, hk⟩, by simp only; omega, Weak.sub (by simp only [hs1']; (simp -implicitDefEqProofs (disch := omega) only [Abs.Sub, get_cons_eq, get_cons_ne, and_self, Option.some.injEq, Value.int.injEq, Value.slice.injEq, true_and, and_true, Int.natCast_zero, Int.natCast_add, Int.natCast_one, List.length_nil]; try omega))⟩
      · have hpr := hprev hi0
        have hle := hless hi0
        have hlq := hls (talOf ps (L[i - 1]'(by omega)))
        rw [hle] at hlq
        generalize L[i - 1]'(by omega) = q at *
        have hqc : (talOf ps q).cells = [.int .i64 q.t, .int .i64 q.c, .int .i64 q.f, .int .i64 (ps.count q)] := rfl
        rw [hqc] at hpr hlq
        have hidx : (i : Int) - 1 = ((i - 1 : Nat) : Int) := by omega
        simp -implicitDefEqProofs (maxSteps := 2000000) (disch := first | omega | (simp only [nx_new, nx_set, List.length_cons, List.length_nil, List.length_map, List.length_set, ne_eq, not_true_eq_false, not_false_eq_true, Nat.succ_ne_zero]; done) | (simp only [nx_new, nx_set, List.length_cons, List.length_nil, List.length_map, List.length_set, ne_eq, not_true_eq_false, not_false_eq_true, Nat.succ_ne_zero]; omega)) only [go_sem, reduceIte, reduceCtorEq, Nat.succ_ne_zero, not_false_eq_true, decide_true, decide_false, Nat.reduceAdd, Nat.reduceMul, Nat.reduceEqDiff, Nat.reduceLeDiff, t3, hbb, hidx, hpr, hload']
        refine hlq.mono ?_
        rintro _ G9 ⟨rfl, k9⟩
        have kg9 := k9.grows
        simp -implicitDefEqProofs (maxSteps := 2000000) (disch := first | omega | (simp only [nx_new, nx_set, List.length_cons, List.length_nil, List.length_map, List.length_set, ne_eq, not_true_eq_false, not_false_eq_true, Nat.succ_ne_zero]; done) | (simp only [nx_new, nx_set, List.length_cons, List.length_nil, List.length_map, List.length_set, ne_eq, not_true_eq_false, not_false_eq_true, Nat.succ_ne_zero]; omega)) only [go_sem, reduceIte, reduceCtorEq, Nat.succ_ne_zero, not_false_eq_true, decide_true, decide_false, Nat.reduceAdd, Nat.reduceMul, Nat.reduceEqDiff, Nat.reduceLeDiff, kg9]
        exact ⟨(i + 1, G9), ⟨hlt, hk.trans k9⟩, by simp only; omega, Weak.sub (by simp only [hs1]; (simp -implicitDefEqProofs (disch := omega) only [Abs.Sub, get_cons_eq, get_cons_ne, and_self, Option.some.injEq, Value.int.injEq, Value.slice.injEq, true_and, and_true, Int.natCast_zero, Int.natCast_add, Int.natCast_one, List.length_nil]; try omega))⟩
  · obtain rfl : i = L.length := by omega
    rw [List.take_of_length_le (Nat.le_refl _), htot]
    simp -implicitDefEqProofs (maxSteps := 2000000) (disch := first | omega | (simp only [nx_new, nx_set, List.length_cons, List.length_nil, List.length_map, List.length_set, ne_eq, not_true_eq_false, not_false_eq_true, Nat.succ_ne_zero]; done) | (simp only [nx_new, nx_set, List.length_cons, List.length_nil, List.length_map, List.length_set, ne_eq, not_true_eq_false, not_false_eq_true, Nat.succ_ne_zero]; omega)) only [go_sem, reduceIte, reduceCtorEq, Nat.succ_ne_zero, not_false_eq_true, decide_true, decide_false, Nat.reduceAdd, Nat.reduceMul, Nat.reduceEqDiff, Nat.reduceLeDiff, beq_self_eq_true]
    exact ret_r (v := .bool true) (by rw [ares_tmp ret4]; rfl) rfl
end Go.Proofs.Ytjdmndklnfhmjaa
