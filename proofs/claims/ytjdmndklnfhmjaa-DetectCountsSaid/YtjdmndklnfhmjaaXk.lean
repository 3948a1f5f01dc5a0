/- head, walked. -/
import Derived.Test.YtjdmndklnfhmjaaXj
set_option linter.unusedVariables false
set_option linter.unusedSimpArgs false
set_option linter.unusedSectionVars false
namespace Go.Proofs.Ytjdmndklnfhmjaa
open Go.Abs
set_option maxHeartbeats 8000000
set_option maxRecDepth 100000
theorem lt_irrefl (p : Pl) : ¬ p.lt p := by simp only [Pl.lt]; omega
theorem lt_asymm {p q : Pl} (h : p.lt q) : ¬ q.lt p := by simp only [Pl.lt] at *; omega
theorem sorted_unique : ∀ {L L' : List Pl}, L.Pairwise Pl.lt → L'.Pairwise Pl.lt → (∀ p, p ∈ L ↔ p ∈ L') → L = L'
  | [], [], _, _, _ => rfl
  | [], q :: L', _, _, h => by have := (h q).2 (List.mem_cons_self ..); cases this
  | p :: L, [], _, _, h => by have := (h p).1 (List.mem_cons_self ..); cases this
  | p :: L, q :: L', h1, h2, h => by
    rw [List.pairwise_cons] at h1 h2
    have e : p = q := by
      rcases List.mem_cons.1 ((h p).1 (List.mem_cons_self ..)) with e | hp
      · exact e
      rcases List.mem_cons.1 ((h q).2 (List.mem_cons_self ..)) with e | hq
      · exact e.symm
      exact absurd (h1.1 q hq) (lt_asymm (h2.1 p hp))
    subst e
    have := sorted_unique h1.2 h2.2 fun x => by
      constructor
      · intro hx
        rcases List.mem_cons.1 ((h x).1 (List.mem_cons_of_mem _ hx)) with e | hx'
        · subst e; exact absurd (h1.1 _ hx) (lt_irrefl _)
        · exact hx'
      · intro hx
        rcases List.mem_cons.1 ((h x).2 (List.mem_cons_of_mem _ hx)) with e | hx'
        · subst e; exact absurd (h2.1 _ hx) (lt_irrefl _)
        · exact hx'
    rw [this]
theorem rank_unique {ps L L' : List Pl} (h : Rank ps L) (h' : Rank ps L') : L = L' := sorted_unique h.1 h'.1 fun p => (h.2 p).trans (h'.2 p).symm
def hF : Fr := ⟨7, 1, 5, fun i => decide (i = 0 ∨ i = 3), fun i => if i = 0 then 10 else if i = 3 then 40 else 0⟩
def hW : List Det := [⟨7, 0, 1, 10, 5⟩, ⟨7, 3, 1, 40, 5⟩]
def hW3 : List Det := [⟨7, 0, 1, 10, 5⟩, ⟨7, 3, 1, 40, 5⟩, ⟨7, 0, 1, 99, 6⟩]
def hT : List Tal := [⟨7, 0, 1, 2⟩, ⟨7, 3, 1, 1⟩]
def hF2 : Fr := ⟨512, 1, 5, fun _ => false, fun _ => 0⟩
theorem hF_ok : hF.ok = true := by decide
theorem hF_dets : hF.dets 4 = hW := by decide
theorem hF2_ok : hF2.ok = false := by decide
theorem hW3_ok : hW3.all okD = true := by decide
theorem hR : Rank (hW3.map Det.pl) [⟨7, 0, 1⟩, ⟨7, 3, 1⟩] := by
  refine ⟨by decide, fun p => ?_⟩
  simp only [hW3, List.map_cons, List.map_nil, Det.pl, List.mem_cons, List.not_mem_nil, or_false]
  constructor
  · rintro (h | h)
    · exact .inl h
    · exact .inr (.inl h)
  · rintro (h | h | h)
    · exact .inl h
    · exact .inr h
    · exact .inl h
theorem hT_eq : [(⟨7, 0, 1⟩ : Pl), ⟨7, 3, 1⟩].map (talOf (hW3.map Det.pl)) = hT := by decide
theorem hT_ok : talsOk hT = true := by decide
theorem hT_conf : conf hT 2 = hT.take 1 := by decide
theorem slice33 {G : Hp} {p n m : Nat} {cs : List Value} (hg : G.get p = .row cs true 4) (hm : m ≤ n) : aslice Try.prog G 33 (.slice (some ⟨p, 0, none⟩) n n) none (some (.int .i64 m)) none = some (.slice (some ⟨p, 0, none⟩) m m) := by
  simp [aslice, u33, bnd, ts37, cutOk, hg, hm]
theorem n9 : Try.f9.ntmps = 74 := rfl
theorem ret9 : Try.f9.results = #[.tmp 0] := rfl
theorem head_spec (H : Hp) : ACalls Try.prog 9 [] H (fun v H' => v = .bool true ∧ KM H H') := by
  refine ACalls_enter Try.func9 (by kernel_rfl) rfl (by kernel_rfl) (by simp [n9]) fun hw hr => AWP_of_awp ?_
  simp -implicitDefEqProofs (maxSteps := 2000000) (disch := first | omega | (simp only [nx_new, nx_set, List.length_cons, List.length_nil, List.length_map, List.length_set, ne_eq, not_true_eq_false, not_false_eq_true, Nat.succ_ne_zero]; done) | (simp only [nx_new, nx_set, List.length_cons, List.length_nil, List.length_map, List.length_set, ne_eq, not_true_eq_false, not_false_eq_true, Nat.succ_ne_zero]; omega)) only [go_sem, reduceIte, reduceCtorEq, Nat.succ_ne_zero, not_false_eq_true, decide_true, decide_false, Nat.reduceAdd, Nat.reduceMul, Nat.reduceEqDiff, Nat.reduceLeDiff]
  refine (list_spec H hF).mono ?_
  rintro _ G1 ⟨hl, k1⟩
  rcases hl with ⟨h, _⟩ | ⟨_, o1, rfl, ho1⟩
  · rw [hF_ok] at h; cases h
  rw [hF_dets] at ho1
  rw [hF_dets]
  simp -implicitDefEqProofs (maxSteps := 2000000) (disch := first | omega | (simp only [nx_new, nx_set, List.length_cons, List.length_nil, List.length_map, List.length_set, ne_eq, not_true_eq_false, not_false_eq_true, Nat.succ_ne_zero]; done) | (simp only [nx_new, nx_set, List.length_cons, List.length_nil, List.length_map, List.length_set, ne_eq, not_true_eq_false, not_false_eq_true, Nat.succ_ne_zero]; omega)) only [go_sem, reduceIte, reduceCtorEq, Nat.succ_ne_zero, not_false_eq_true, decide_true, decide_false, Nat.reduceAdd, Nat.reduceMul, Nat.reduceEqDiff, Nat.reduceLeDiff]
  obtain ⟨M1, eM⟩ : ∃ M, M = (G1.new (.row [.int .i64 7, .int .i64 0, .int .i64 1, .int .i64 10, .int .i64 5, .int .i64 7, .int .i64 3, .int .i64 1, .int .i64 40, .int .i64 5] true 5)).new (.row [] true 5) := ⟨_, rfl⟩
  rw [← eM]
  have kM : Keeps G1 M1 := by rw [eM]; exact (Keeps.new _ _).trans (Keeps.new _ _)
  have nM : M1.next = G1.next + 2 := by rw [eM]; rfl
  have gW : M1.get G1.next = .row [.int .i64 7, .int .i64 0, .int .i64 1, .int .i64 10, .int .i64 5, .int .i64 7, .int .i64 3, .int .i64 1, .int .i64 40, .int .i64 5] true 5 := by
    rw [eM, Hp.get_new_ne _ _ _ (by simp only [Hp.next_new]; omega)]; exact Hp.get_new_same _ _ _ rfl
  have gE : M1.get (G1.next + 1) = .row [] true 5 := by rw [eM]; exact Hp.get_new_same _ _ _ rfl
  clear eM
  obtain ⟨G2, hap, h2n, h2g, hold2, hob2⟩ := append_own (P := Try.prog) u27 u27 ts32 tb32 tz32 rfl (by decide) (by decide) (G := M1) (lo := G1.next + 1) (n := 0) (c := 0) (m := 2) (c' := 2) (r := G1.next) (ro := 0) (a := some ⟨G1.next + 1, 0, none⟩) (cs := []) (xs := [.int .i64 7, .int .i64 0, .int .i64 1, .int .i64 10, .int .i64 5, .int .i64 7, .int .i64 3, .int .i64 1, .int .i64 40, .int .i64 5])
    (.inr ⟨G1.next + 1, rfl, Nat.le_refl _, by omega, gE⟩) (aload_row gW (Nat.le_refl 10)) rfl (by decide) rfl (by decide)
  rw [hap]
  have hold2' : ∀ b, b < G1.next + 1 → G2.get b = M1.get b := fun b hb => hold2 b (by omega) (fun q e => by cases e; simp only; omega)
  have ho2 : OwnSl (G1.next + 2) G2 (some ⟨M1.next, 0, none⟩) 5 [.int .i64 7, .int .i64 0, .int .i64 1, .int .i64 10, .int .i64 5, .int .i64 7, .int .i64 3, .int .i64 1, .int .i64 40, .int .i64 5] := .inr ⟨M1.next, rfl, by omega, by omega, h2g⟩
  have kG2 : Keeps G1 G2 := ⟨by omega, fun b hb => (hold2' b (by omega)).trans (kM.get b hb), fun r o h => by rw [hob2]; exact kM.ob r o h⟩
  have gW2 := (hold2' G1.next (by omega)).trans gW
  clear hap hold2 hob2 h2g hold2'
  simp -implicitDefEqProofs (maxSteps := 2000000) (disch := first | omega | (simp only [nx_new, nx_set, List.length_cons, List.length_nil, List.length_map, List.length_set, ne_eq, not_true_eq_false, not_false_eq_true, Nat.succ_ne_zero]; done) | (simp only [nx_new, nx_set, List.length_cons, List.length_nil, List.length_map, List.length_set, ne_eq, not_true_eq_false, not_false_eq_true, Nat.succ_ne_zero]; omega)) only [go_sem, reduceIte, reduceCtorEq, Nat.succ_ne_zero, not_false_eq_true, decide_true, decide_false, Nat.reduceAdd, Nat.reduceMul, Nat.reduceEqDiff, Nat.reduceLeDiff]
  obtain ⟨G3, hap, h3n, h3g, hold3, hob3⟩ := append_own (P := Try.prog) u27 u27 ts32 tb32 tz32 rfl (by decide) (by decide) (G := G2.new (.row [.int .i64 7, .int .i64 0, .int .i64 1, .int .i64 99, .int .i64 6] true 5)) (lo := G1.next + 2) (n := 2) (c := 2) (m := 1) (c' := 1) (r := G2.next) (ro := 0) (a := some ⟨M1.next, 0, none⟩) (xs := [.int .i64 7, .int .i64 0, .int .i64 1, .int .i64 99, .int .i64 6])
    (ho2.keeps (Keeps.new _ _)) (by simp -implicitDefEqProofs (maxSteps := 2000000) (disch := first | omega | (simp only [nx_new, nx_set, List.length_cons, List.length_nil, List.length_map, List.length_set, ne_eq, not_true_eq_false, not_false_eq_true, Nat.succ_ne_zero]; done) | (simp only [nx_new, nx_set, List.length_cons, List.length_nil, List.length_map, List.length_set, ne_eq, not_true_eq_false, not_false_eq_true, Nat.succ_ne_zero]; omega)) only [go_sem, reduceIte, reduceCtorEq, Nat.succ_ne_zero, not_false_eq_true, decide_true, decide_false, Nat.reduceAdd, Nat.reduceMul, Nat.reduceEqDiff, Nat.reduceLeDiff]) rfl (by decide) rfl (by decide)
  simp only [Hp.next_new] at hap
  rw [hap]
  have hold3' : ∀ b, b < G1.next + 1 → G3.get b = G2.get b := fun b hb => by
    rw [hold3 b (by simp only [Hp.next_new]; omega) (fun q e => by cases e; simp only; omega), Hp.get_new_ne _ _ _ (by omega)]
  have h3n' : G3.next = G2.next + 2 := h3n
  have kG3 : Keeps G1 G3 := ⟨by omega, fun b hb => (hold3' b (by omega)).trans (kG2.get b hb), fun r o h => by rw [hob3]; exact kG2.ob r o h⟩
  have gW3 := (hold3' G1.next (by omega)).trans gW2
  have h3g' : G3.get (G2.next + 1) = .row (hW3.map Det.cells).flatten true 5 := h3g
  have he3 : Elems G3 (some ⟨G2.next + 1, 0, none⟩) 5 (hW3.map Det.cells) := Elems.row (by omega) h3g' (dets_len hW3)
  clear hap hold3 hob3 h3g hold3' h3n
  simp -implicitDefEqProofs (maxSteps := 2000000) (disch := first | omega | (simp only [nx_new, nx_set, List.length_cons, List.length_nil, List.length_map, List.length_set, ne_eq, not_true_eq_false, not_false_eq_true, Nat.succ_ne_zero]; done) | (simp only [nx_new, nx_set, List.length_cons, List.length_nil, List.length_map, List.length_set, ne_eq, not_true_eq_false, not_false_eq_true, Nat.succ_ne_zero]; omega)) only [go_sem, reduceIte, reduceCtorEq, Nat.succ_ne_zero, not_false_eq_true, decide_true, decide_false, Nat.reduceAdd, Nat.reduceMul, Nat.reduceEqDiff, Nat.reduceLeDiff]
  refine (count_spec G3 _ hW3 (by decide) he3).mono ?_
  rintro _ G4 ⟨hc, k4⟩
  have hT3 : hW3.length = 3 := rfl
  rcases hc with ⟨h, _⟩ | ⟨_, h, _⟩ | ⟨_, _, o4, L4, hR4, rfl, ho4⟩
  · exact absurd h (by decide)
  · rw [hW3_ok] at h; cases h
  obtain rfl := rank_unique hR4 hR
  rw [hT_eq] at ho4
  have he4 := ho4.elems (tals_len hT) (by decide)
  have heD1 : Elems G1 o1 5 (hW.map Det.cells) := ho1.elems (dets_len hW) (by decide)
  have k34 : KM G1 G4 := (KM.of kG3).trans k4
  have n4 := k34.next
  have n34 := k4.next
  have gW4 : G4.get G1.next = .row (hW.map Det.cells).flatten true 5 := (k4.get _ (by omega)).trans gW3
  simp -implicitDefEqProofs (maxSteps := 2000000) (disch := first | omega | (simp only [nx_new, nx_set, List.length_cons, List.length_nil, List.length_map, List.length_set, ne_eq, not_true_eq_false, not_false_eq_true, Nat.succ_ne_zero]; done) | (simp only [nx_new, nx_set, List.length_cons, List.length_nil, List.length_map, List.length_set, ne_eq, not_true_eq_false, not_false_eq_true, Nat.succ_ne_zero]; omega)) only [go_sem, reduceIte, reduceCtorEq, Nat.succ_ne_zero, not_false_eq_true, decide_true, decide_false, Nat.reduceAdd, Nat.reduceMul, Nat.reduceEqDiff, Nat.reduceLeDiff]
  obtain ⟨M5, eM⟩ : ∃ M, M = G4.new (.row [.int .i64 7, .int .i64 0, .int .i64 1, .int .i64 2, .int .i64 7, .int .i64 3, .int .i64 1, .int .i64 1] true 4) := ⟨_, rfl⟩
  rw [← eM]
  have k5 : Keeps G4 M5 := by rw [eM]; exact Keeps.new _ _
  have n5 : M5.next = G4.next + 1 := by rw [eM]; rfl
  have g5 : M5.get G4.next = .row (hT.map Tal.cells).flatten true 4 := by rw [eM]; exact Hp.get_new_same _ _ _ rfl
  clear eM
  have he5 : Elems M5 (some ⟨G4.next, 0, none⟩) 4 (hT.map Tal.cells) := Elems.row (by omega) g5 (tals_len hT)
  refine (confirmed_spec M5 _ hT 2 (by decide) he5).mono ?_
  rintro _ G6 ⟨hc6, k6⟩
  rcases hc6 with ⟨h, _⟩ | ⟨_, o6, rfl, ho6⟩
  · rw [hT_ok] at h; exact absurd h (by decide)
  rw [hT_conf] at ho6
  rw [hT_conf]
  have he6 := ho6.elems (tals_len (hT.take 1)) (by decide)
  simp -implicitDefEqProofs (maxSteps := 2000000) (disch := first | omega | (simp only [nx_new, nx_set, List.length_cons, List.length_nil, List.length_map, List.length_set, ne_eq, not_true_eq_false, not_false_eq_true, Nat.succ_ne_zero]; done) | (simp only [nx_new, nx_set, List.length_cons, List.length_nil, List.length_map, List.length_set, ne_eq, not_true_eq_false, not_false_eq_true, Nat.succ_ne_zero]; omega)) only [go_sem, reduceIte, reduceCtorEq, Nat.succ_ne_zero, not_false_eq_true, decide_true, decide_false, Nat.reduceAdd, Nat.reduceMul, Nat.reduceEqDiff, Nat.reduceLeDiff]
  refine (list_spec G6 hF2).mono ?_
  rintro _ G7 ⟨hl7, k7⟩
  rcases hl7 with ⟨_, rfl⟩ | ⟨h, _⟩
  rotate_left
  · rw [hF2_ok] at h; cases h
  have k17 : KM G1 G7 := ((k34.trans (KM.of k5)).trans (KM.of k6)).trans (KM.of k7)
  have n6 := k6.next
  have n7 := k7.next
  have gW7 : G7.get G1.next = .row (hW.map Det.cells).flatten true 5 := (((k5.trans k6).trans k7).get _ (by omega)).trans gW4
  have gT7 : G7.get G4.next = .row (hT.map Tal.cells).flatten true 4 := ((k6.trans k7).get _ (by omega)).trans g5
  have hs1 := sameD_spec G7 o1 (some ⟨G1.next, 0, none⟩) hW hW (by decide) (by decide) (Elems.km heD1 k17) (Elems.row (by omega) gW7 (dets_len hW))
  have eT7 : Elems G7 (some ⟨G4.next, 0, none⟩) 4 (hT.map Tal.cells) := Elems.row (by omega) gT7 (tals_len hT)
  have hs2 := fun c1 c2 => same_spec G7 o4 (some ⟨G4.next, 0, none⟩) c1 c2 hT hT (by decide) (by decide) (Elems.km he4 (((KM.of k5).trans (KM.of k6)).trans (KM.of k7))) eT7
  have eT71 : Elems G7 (some ⟨G4.next, 0, none⟩) 4 ((hT.take 1).map Tal.cells) := fun i hi => by
    obtain ⟨b, o, h1, h2, h3⟩ := eT7 i (Nat.lt_of_lt_of_le hi (by decide))
    refine ⟨b, o, h1, h2, h3.trans ?_⟩
    congr 1
    simp only [List.map_take, List.getElem_take]
  have hs3 := fun c1 c2 => same_spec G7 o6 (some ⟨G4.next, 0, none⟩) c1 c2 (hT.take 1) (hT.take 1) (by decide) (by decide) (Elems.km he6 (KM.of k7)) eT71
  simp -implicitDefEqProofs (maxSteps := 2000000) (disch := first | omega | (simp only [nx_new, nx_set, List.length_cons, List.length_nil, List.length_map, List.length_set, ne_eq, not_true_eq_false, not_false_eq_true, Nat.succ_ne_zero]; done) | (simp only [nx_new, nx_set, List.length_cons, List.length_nil, List.length_map, List.length_set, ne_eq, not_true_eq_false, not_false_eq_true, Nat.succ_ne_zero]; omega)) only [go_sem, reduceIte, reduceCtorEq, Nat.succ_ne_zero, not_false_eq_true, decide_true, decide_false, Nat.reduceAdd, Nat.reduceMul, Nat.reduceEqDiff, Nat.reduceLeDiff]
  refine ACalls.use_eq hs1 ?_
  simp -implicitDefEqProofs (maxSteps := 2000000) (disch := first | omega | (simp only [nx_new, nx_set, List.length_cons, List.length_nil, List.length_map, List.length_set, ne_eq, not_true_eq_false, not_false_eq_true, Nat.succ_ne_zero]; done) | (simp only [nx_new, nx_set, List.length_cons, List.length_nil, List.length_map, List.length_set, ne_eq, not_true_eq_false, not_false_eq_true, Nat.succ_ne_zero]; omega)) only [go_sem, reduceIte, reduceCtorEq, Nat.succ_ne_zero, not_false_eq_true, decide_true, decide_false, Nat.reduceAdd, Nat.reduceMul, Nat.reduceEqDiff, Nat.reduceLeDiff]
  refine ACalls.use_eq (hs2 _ _) ?_
  simp -implicitDefEqProofs (maxSteps := 2000000) (disch := first | omega | (simp only [nx_new, nx_set, List.length_cons, List.length_nil, List.length_map, List.length_set, ne_eq, not_true_eq_false, not_false_eq_true, Nat.succ_ne_zero]; done) | (simp only [nx_new, nx_set, List.length_cons, List.length_nil, List.length_map, List.length_set, ne_eq, not_true_eq_false, not_false_eq_true, Nat.succ_ne_zero]; omega)) only [go_sem, reduceIte, reduceCtorEq, Nat.succ_ne_zero, not_false_eq_true, decide_true, decide_false, Nat.reduceAdd, Nat.reduceMul, Nat.reduceEqDiff, Nat.reduceLeDiff]
  have hsl : aslice Try.prog G7 33 (.slice (some ⟨G4.next, 0, none⟩) 2 2) none (some (.int .i64 1)) none = some (.slice (some ⟨G4.next, 0, none⟩) 1 1) := slice33 (n := 2) (m := 1) gT7 (by decide)
  rw [hsl]
  simp -implicitDefEqProofs (maxSteps := 2000000) (disch := first | omega | (simp only [nx_new, nx_set, List.length_cons, List.length_nil, List.length_map, List.length_set, ne_eq, not_true_eq_false, not_false_eq_true, Nat.succ_ne_zero]; done) | (simp only [nx_new, nx_set, List.length_cons, List.length_nil, List.length_map, List.length_set, ne_eq, not_true_eq_false, not_false_eq_true, Nat.succ_ne_zero]; omega)) only [go_sem, reduceIte, reduceCtorEq, Nat.succ_ne_zero, not_false_eq_true, decide_true, decide_false, Nat.reduceAdd, Nat.reduceMul, Nat.reduceEqDiff, Nat.reduceLeDiff]
  refine ACalls.use_eq (hs3 _ _) ?_
  simp -implicitDefEqProofs (maxSteps := 2000000) (disch := first | omega | (simp only [nx_new, nx_set, List.length_cons, List.length_nil, List.length_map, List.length_set, ne_eq, not_true_eq_false, not_false_eq_true, Nat.succ_ne_zero]; done) | (simp only [nx_new, nx_set, List.length_cons, List.length_nil, List.length_map, List.length_set, ne_eq, not_true_eq_false, not_false_eq_true, Nat.succ_ne_zero]; omega)) only [go_sem, reduceIte, reduceCtorEq, Nat.succ_ne_zero, not_false_eq_true, decide_true, decide_false, Nat.reduceAdd, Nat.reduceMul, Nat.reduceEqDiff, Nat.reduceLeDiff]
  exact ret_r (v := .bool true) (by rw [ares_tmp ret9]; rfl) ⟨rfl, (KM.of k1).trans k17⟩
end Go.Proofs.Ytjdmndklnfhmjaa
