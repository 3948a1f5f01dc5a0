/- Stable insertion at calibrations. -/
import Derived.Test.YtejpfdhlpcgfkaaVd
import Derived.Test.YtejpfdhlpcgfkaaAbsV
set_option linter.unusedVariables false
set_option linter.unusedSimpArgs false
set_option linter.unusedSectionVars false
namespace Go.Proofs.Ytejpfdhlpcgfkaa
open Go.Abs Go.Sm
set_option maxHeartbeats 8000000
set_option maxRecDepth 100000
def enc (E : Nat → Cal) (x : Nat) : List Value := (E x).cells
def rw9 (E : Nat → Cal) (xs : List Nat) : List Value := (xs.map (enc E)).flatten
theorem encs_len (E : Nat → Cal) (xs : List Nat) : ∀ y, y ∈ xs.map (enc E) → y.length = 9 := by
  intro y hy
  obtain ⟨x, _, rfl⟩ := List.mem_map.1 hy
  rfl
theorem rw9_len (E : Nat → Cal) (xs : List Nat) : (rw9 E xs).length = xs.length * 9 := by rw [rw9, flat_len (encs_len E xs), List.length_map]
theorem ld9 {H : Hp} {q k : Nat} {E : Nat → Cal} {xs : List Nat} (hqn : q < H.next) (hg : H.get q = .row (rw9 E xs) true k) {i x : Nat} (hi : xs[i]? = some x) : aload H ⟨q, i * 9, none⟩ 9 = some (E x).cells := by
  obtain ⟨hlt, rfl⟩ := List.getElem?_eq_some_iff.1 hi
  obtain ⟨b, o, e, _, hl⟩ := Elems.row (s := 9) hqn hg (encs_len E xs) i (by simpa using hlt)
  cases e
  simpa [enc] using hl
theorem splice_flat {α : Type} {f : α → List Value} {s : Nat} (hf : ∀ x, (f x).length = s) : ∀ {l : List α} {k : Nat} (_ : k < l.length) (y : α), splice ((l.map f).flatten) (k * s) (f y) = ((l.set k y).map f).flatten
  | x :: l, 0, _, y => by
    simp only [splice, Nat.zero_mul, List.take_zero, List.nil_append, Nat.zero_add, List.map_cons, List.flatten_cons, List.set_cons_zero, hf]
    rw [← hf x, List.drop_left]
  | x :: l, k + 1, hk, y => by
    have ih := splice_flat hf (l := l) (k := k) (by simpa using hk) y
    simp only [splice, List.map_cons, List.flatten_cons, List.set_cons_succ, hf] at ih ⊢
    have e1 : (k + 1) * s = (f x).length + k * s := by rw [hf, Nat.succ_mul, Nat.add_comm]
    have e2 : (f x).length + k * s + s = (f x).length + (k * s + s) := Nat.add_assoc _ _ _
    rw [e1, e2, List.take_length_add_append, List.drop_length_add_append, ← ih]
    simp only [List.append_assoc]
def KX (q : Nat) (H G : Hp) : Prop := H.next ≤ G.next ∧ ∀ b, b < H.next → b ≠ q → G.get b = H.get b
theorem KX.refl (q : Nat) (H : Hp) : KX q H H := ⟨Nat.le_refl _, fun _ _ _ => rfl⟩
theorem KX.keeps {q : Nat} {H G G' : Hp} (h : KX q H G) (k : Keeps G G') : KX q H G' := ⟨Nat.le_trans h.1 k.next, fun b hb hq => by rw [k.get b (Nat.lt_of_lt_of_le hb h.1)]; exact h.2 b hb hq⟩
theorem KX.set {q : Nat} {H G : Hp} (h : KX q H G) (b : Blk) : KX q H (G.set q b) := ⟨by rw [Hp.next_set]; exact h.1, fun c hc hq => by rw [Hp.get_set_ne _ _ _ _ hq]; exact h.2 c hc hq⟩
theorem KX.trans {q : Nat} {H G K : Hp} (h : KX q H G) (k : KX q G K) : KX q H K := ⟨Nat.le_trans h.1 k.1, fun b hb hq => by rw [k.2 b (Nat.lt_of_lt_of_le hb h.1) hq]; exact h.2 b hb hq⟩
def Cmp9 (E : Nat → Cal) (n : Nat) (key : Nat → Int) : Prop := ∀ H, ∀ x y : Nat, x < n → y < n → ACalls Try.prog 25 [.agg (E x).cells.toArray, .agg (E y).cells.toArray] H (fun v H' => v = .int .i64 (key x - key y) ∧ Keeps H H')
abbrev bf (key : Nat → Int) (x y : Nat) : Prop := bef key (fun n => n) x y

theorem n41 : Try.f41.ntmps = 53 := rfl
theorem ret41 : Try.f41.results = #[] := rfl
theorem insertion_spec {H : Hp} {q n : Nat} {E : Nat → Cal} {key : Nat → Int} {N : Nat} {a b : Int} (hcmp : Cmp9 E n key) (hqn : q < H.next) (p X r : List Nat) (hX : X.Pairwise (· < ·)) (hn : ∀ x, x ∈ X → x < n) (hN : (p ++ X ++ r).length = N) (hb : N ≤ 1000000) (ha : a = p.length) (hb2 : b = ((p.length + X.length : Nat) : Int))
    (hg : H.get q = .row (rw9 E (p ++ X ++ r)) true 9) :
    ACalls Try.prog 41 [.slice (some ⟨q, 0, none⟩) N N, .int .i64 a, .int .i64 b, .func (.func 25) #[] #[]] H (fun w H' => w = .tuple #[] ∧ ∃ Y, Y.Perm X ∧ Y.Pairwise (bf key) ∧ KX q H H' ∧ H'.get q = .row (rw9 E (p ++ Y ++ r)) true 9) := by
  subst ha; subst hb2
  refine ACalls_enter Try.func41 (by kernel_rfl) rfl (by kernel_rfl) (by simp [n41]) fun hw hr => AWP_of_awp ?_
  have hNl : p.length + X.length + r.length = N := by rw [← hN]; simp only [List.length_append]
  simp -implicitDefEqProofs (maxSteps := 2000000) (disch := first | omega | (simp only [nx_new, nx_set, List.length_cons, List.length_nil, List.length_map, List.length_set, ne_eq, not_true_eq_false, not_false_eq_true, Nat.succ_ne_zero]; done) | (simp only [nx_new, nx_set, List.length_cons, List.length_nil, List.length_map, List.length_set, ne_eq, not_true_eq_false, not_false_eq_true, Nat.succ_ne_zero]; omega)) only [go_sem, reduceIte, reduceCtorEq, Nat.succ_ne_zero, not_false_eq_true, decide_true, decide_false, Nat.reduceAdd, Nat.reduceMul, Nat.reduceEqDiff, Nat.reduceLeDiff]
  refine AWP_loop (σ := (Nat × List Nat) × Hp) (fun s => [(8, .int .i64 ((p.length + s.1.1 : Nat) : Int)), (0, .slice (some ⟨q, 0, none⟩) N N), (1, .int .i64 p.length), (2, .int .i64 ((p.length + X.length : Nat) : Int)), (3, .func (.func 25) #[] #[])]) (fun s => s.2)
    (fun s => 1 ≤ s.1.1 ∧ (s.1.1 ≤ X.length ∨ s.1.1 = 1) ∧ s.1.2.Perm (X.take s.1.1) ∧ s.1.2.Pairwise (bf key) ∧ KX q H s.2 ∧ s.2.get q = .row (rw9 E (p ++ s.1.2 ++ X.drop s.1.1 ++ r)) true 9)
    (fun s => X.length + 1 - s.1.1) ((1, X.take 1), H) ⟨Nat.le_refl _, .inr rfl, List.Perm.refl _, ?_, KX.refl _ _, ?_⟩ (Weak.sub ?_) ?_
  rotate_left 2
  · simp -implicitDefEqProofs (disch := omega) only [Abs.Sub, get_cons_eq, get_cons_ne, and_self, Int.natCast_zero, Int.natCast_add, Int.natCast_one]
  · rintro ⟨⟨k, S⟩, G⟩ ⟨hk1, hk2, hperm, hsort, hGk, hG⟩
    simp only at hk1 hk2 hperm hsort hGk hG ⊢
    refine AWP_of_awp ?_
    by_cases hlt : k < X.length
    · simp -implicitDefEqProofs (maxSteps := 2000000) (disch := first | omega | (simp only [nx_new, nx_set, List.length_cons, List.length_nil, List.length_map, List.length_set, ne_eq, not_true_eq_false, not_false_eq_true, Nat.succ_ne_zero]; done) | (simp only [nx_new, nx_set, List.length_cons, List.length_nil, List.length_map, List.length_set, ne_eq, not_true_eq_false, not_false_eq_true, Nat.succ_ne_zero]; omega)) only [go_sem, reduceIte, reduceCtorEq, Nat.succ_ne_zero, not_false_eq_true, decide_true, decide_false, Nat.reduceAdd, Nat.reduceMul, Nat.reduceEqDiff, Nat.reduceLeDiff]
      have hSl : S.length = k := by rw [hperm.length_eq, List.length_take]; omega
      have hxm : X[k] ∈ X := List.getElem_mem hlt
      have hSx : ∀ z, z ∈ S → z < X[k] ∧ z < n := fun z hz => by
        have h1 := hperm.mem_iff.1 hz
        obtain ⟨i, hi, rfl⟩ := List.getElem_of_mem h1
        rw [List.length_take] at hi
        rw [List.getElem_take]
        exact ⟨List.pairwise_iff_getElem.1 hX i k (by omega) hlt (by omega), hn _ (List.getElem_mem _)⟩
      have hdrop : X.drop k = X[k] :: X.drop (k + 1) := List.drop_eq_getElem_cons hlt
      have htake : X.take (k + 1) = X.take k ++ [X[k]] := List.take_succ_eq_append_getElem hlt
      have hxn := hn _ hxm
      have hdl : (X.drop (k + 1)).length = X.length - (k + 1) := List.length_drop
      rw [hdrop] at hG
      generalize X[k] = x at *
      generalize hX2 : X.drop (k + 1) = X2 at *
      refine AWP_loop (σ := (List Nat × List Nat) × Hp) (fun s => [(9, .int .i64 ((p.length + s.1.1.length : Nat) : Int)), (8, .int .i64 ((p.length + k : Nat) : Int)), (0, .slice (some ⟨q, 0, none⟩) N N), (1, .int .i64 p.length), (2, .int .i64 ((p.length + X.length : Nat) : Int)), (3, .func (.func 25) #[] #[])]) (fun s => s.2)
        (fun s => s.1.1 ++ s.1.2 = S ∧ (∀ y, s.1.2.head? = some y → bf key x y) ∧ KX q H s.2 ∧ s.2.get q = .row (rw9 E (p ++ s.1.1 ++ x :: (s.1.2 ++ X2 ++ r))) true 9)
        (fun s => s.1.1.length) ((S, []), G) ⟨by simp, (fun y h => by cases h), hGk, ?_⟩ (Weak.sub ?_) ?_
      rotate_left 1
      · simp -implicitDefEqProofs (disch := omega) only [Abs.Sub, get_cons_eq, get_cons_ne, and_self, Int.natCast_zero, Int.natCast_add, Int.natCast_one]
        refine ⟨?_, trivial⟩
        (first | rfl | (simp only [Option.some.injEq, Value.int.injEq, Value.slice.injEq, true_and, and_true]; omega))
      · rintro ⟨⟨S1, S2⟩, G1⟩ ⟨hS, hhead, hGk1, hg1⟩
        simp only at hS hhead hGk1 hg1 ⊢
        refine AWP_of_awp ?_
        have hqn1 : q < G1.next := Nat.lt_of_lt_of_le hqn hGk1.1
        have hS12 : S1.length + S2.length = k := by rw [← hSl, ← hS, List.length_append]
        have hlen : (p ++ S1 ++ x :: (S2 ++ X2 ++ r)).length = N := by simp only [List.length_append, List.length_cons]; omega
        have hfin : (∀ y, S1.getLast? = some y → bf key y x) → (S1 ++ x :: S2).Pairwise (bf key) ∧ (S1 ++ x :: S2).Perm (X.take (k + 1)) := fun h => by
          refine ⟨insert_sorted (hS ▸ hsort) h hhead, ?_⟩
          rw [htake]
          refine insert_perm.trans ?_
          rw [hS]
          exact (List.Perm.cons x hperm).trans (List.perm_append_singleton x _).symm
        have hG2 : ∀ G : Hp, G.get q = .row (rw9 E (p ++ S1 ++ x :: (S2 ++ X2 ++ r))) true 9 → G.get q = .row (rw9 E (p ++ (S1 ++ x :: S2) ++ X2 ++ r)) true 9 := fun G h => by
          rw [h]; simp only [List.append_assoc, List.cons_append]
        rcases List.eq_nil_or_concat S1 with rfl | ⟨S1', z, rfl⟩
        · simp -implicitDefEqProofs (maxSteps := 2000000) (disch := first | omega | (simp only [nx_new, nx_set, List.length_cons, List.length_nil, List.length_map, List.length_set, ne_eq, not_true_eq_false, not_false_eq_true, Nat.succ_ne_zero]; done) | (simp only [nx_new, nx_set, List.length_cons, List.length_nil, List.length_map, List.length_set, ne_eq, not_true_eq_false, not_false_eq_true, Nat.succ_ne_zero]; omega)) only [go_sem, reduceIte, reduceCtorEq, Nat.succ_ne_zero, not_false_eq_true, decide_true, decide_false, Nat.reduceAdd, Nat.reduceMul, Nat.reduceEqDiff, Nat.reduceLeDiff]
          refine AWP_draw_fast mo (by kernel_rfl) ?_
          simp -implicitDefEqProofs (maxSteps := 2000000) (disch := first | omega | (simp only [nx_new, nx_set, List.length_cons, List.length_nil, List.length_map, List.length_set, ne_eq, not_true_eq_false, not_false_eq_true, Nat.succ_ne_zero]; done) | (simp only [nx_new, nx_set, List.length_cons, List.length_nil, List.length_map, List.length_set, ne_eq, not_true_eq_false, not_false_eq_true, Nat.succ_ne_zero]; omega)) only [go_sem, reduceIte, reduceCtorEq, Nat.succ_ne_zero, not_false_eq_true, decide_true, decide_false, Nat.reduceAdd, Nat.reduceMul, Nat.reduceEqDiff, Nat.reduceLeDiff]
          obtain ⟨f1, f2⟩ := hfin (fun y h => by cases h)
          refine ⟨((k + 1, [] ++ x :: S2), G1), ⟨by simp only; omega, .inl hlt, f2, f1, hGk1, ?_⟩, by simp only; omega, Weak.sub ?_⟩
          · simp only [hX2]; exact hG2 _ hg1
          · simp -implicitDefEqProofs (disch := omega) only [Abs.Sub, get_cons_eq, get_cons_ne, and_self, Int.natCast_zero, Int.natCast_add, Int.natCast_one]
            exact ⟨rfl, trivial⟩
        · rw [List.concat_eq_append] at *
          obtain ⟨hz1, hz2⟩ := hSx z (by rw [← hS]; simp)
          have hpl : ((p.length + (S1' ++ [z]).length : Nat) : Int).toNat = p.length + S1'.length + 1 := by rw [List.length_append, List.length_singleton]; omega
          have hpl1 : (((p.length + (S1' ++ [z]).length : Nat) : Int) - 1).toNat = p.length + S1'.length := by rw [List.length_append, List.length_singleton]; omega
          have hpl2 : (S1' ++ [z]).length = S1'.length + 1 := by rw [List.length_append, List.length_singleton]
          have e1 : p ++ (S1' ++ [z]) ++ x :: (S2 ++ X2 ++ r) = (p ++ S1') ++ z :: x :: (S2 ++ X2 ++ r) := by simp only [List.append_assoc, List.cons_append, List.nil_append]
          have e2 : (p ++ S1') ++ x :: z :: (S2 ++ X2 ++ r) = p ++ S1' ++ x :: (z :: S2 ++ X2 ++ r) := by simp only [List.append_assoc, List.cons_append, List.nil_append]
          have hg0 := hg1
          rw [e1] at hg1 hlen
          have hpp : (p ++ S1').length = p.length + S1'.length := List.length_append
          have h1 : aload G1 ⟨q, (p.length + S1'.length) * 9, none⟩ 9 = some (E z).cells := ld9 hqn1 hg1 (get_app _ _ _ (by omega))
          have h2 : aload G1 ⟨q, (p.length + S1'.length + 1) * 9, none⟩ 9 = some (E x).cells := ld9 hqn1 hg1 (get_adj _ _ _ _ (by omega))
          have hcall := hcmp G1 x z hxn hz2
          rw [hpl2] at hpl hpl1 ⊢
          rw [cal_agg, cal_agg] at hcall
          simp only [Cal.cells] at h1 h2
          simp -implicitDefEqProofs (maxSteps := 2000000) (disch := first | omega | (simp only [nx_new, nx_set, List.length_cons, List.length_nil, List.length_map, List.length_set, ne_eq, not_true_eq_false, not_false_eq_true, Nat.succ_ne_zero]; done) | (simp only [nx_new, nx_set, List.length_cons, List.length_nil, List.length_map, List.length_set, ne_eq, not_true_eq_false, not_false_eq_true, Nat.succ_ne_zero]; omega)) only [go_sem, reduceIte, reduceCtorEq, Nat.succ_ne_zero, not_false_eq_true, decide_true, decide_false, Nat.reduceAdd, Nat.reduceMul, Nat.reduceEqDiff, Nat.reduceLeDiff]
          refine AWP_draw_fast mo (by kernel_rfl) ?_
          simp -implicitDefEqProofs (maxSteps := 2000000) (disch := first | omega | (simp only [nx_new, nx_set, List.length_cons, List.length_nil, List.length_map, List.length_set, ne_eq, not_true_eq_false, not_false_eq_true, Nat.succ_ne_zero]; done) | (simp only [nx_new, nx_set, List.length_cons, List.length_nil, List.length_map, List.length_set, ne_eq, not_true_eq_false, not_false_eq_true, Nat.succ_ne_zero]; omega)) only [go_sem, reduceIte, reduceCtorEq, Nat.succ_ne_zero, not_false_eq_true, decide_true, decide_false, Nat.reduceAdd, Nat.reduceMul, Nat.reduceEqDiff, Nat.reduceLeDiff, hpl, hpl1, h1, h2]
          refine hcall.mono ?_
          rintro _ G2 ⟨rfl, k2⟩
          have kg := k2.grows
          have hqn2 : q < G2.next := Nat.lt_of_lt_of_le hqn1 k2.next
          have hg2 : G2.get q = .row (rw9 E ((p ++ S1') ++ z :: x :: (S2 ++ X2 ++ r))) true 9 := by rw [k2.get q hqn1]; exact hg1
          have hGk2 := hGk1.keeps k2
          have h3 : aload G2 ⟨q, (p.length + S1'.length) * 9, none⟩ 9 = some (E z).cells := ld9 hqn2 hg2 (get_app _ _ _ (by omega))
          have h4 : aload G2 ⟨q, (p.length + S1'.length + 1) * 9, none⟩ 9 = some (E x).cells := ld9 hqn2 hg2 (get_adj _ _ _ _ (by omega))
          simp only [Cal.cells] at h3 h4
          simp -implicitDefEqProofs (maxSteps := 2000000) (disch := first | omega | (simp only [nx_new, nx_set, List.length_cons, List.length_nil, List.length_map, List.length_set, ne_eq, not_true_eq_false, not_false_eq_true, Nat.succ_ne_zero]; done) | (simp only [nx_new, nx_set, List.length_cons, List.length_nil, List.length_map, List.length_set, ne_eq, not_true_eq_false, not_false_eq_true, Nat.succ_ne_zero]; omega)) only [go_sem, reduceIte, reduceCtorEq, Nat.succ_ne_zero, not_false_eq_true, decide_true, decide_false, Nat.reduceAdd, Nat.reduceMul, Nat.reduceEqDiff, Nat.reduceLeDiff, kg]
          refine condS_split (fun hd => ?_) (fun hd => ?_)
          · have hlt2 : key x < key z := by have := of_decide_eq_true hd; omega
            simp -implicitDefEqProofs (maxSteps := 2000000) (disch := first | omega | (simp only [nx_new, nx_set, List.length_cons, List.length_nil, List.length_map, List.length_set, ne_eq, not_true_eq_false, not_false_eq_true, Nat.succ_ne_zero]; done) | (simp only [nx_new, nx_set, List.length_cons, List.length_nil, List.length_map, List.length_set, ne_eq, not_true_eq_false, not_false_eq_true, Nat.succ_ne_zero]; omega)) only [go_sem, reduceIte, reduceCtorEq, Nat.succ_ne_zero, not_false_eq_true, decide_true, decide_false, Nat.reduceAdd, Nat.reduceMul, Nat.reduceEqDiff, Nat.reduceLeDiff, hd]
            refine AWP_draw_fast mo (by kernel_rfl) ?_
            have hrl := rw9_len E ((p ++ S1') ++ z :: x :: (S2 ++ X2 ++ r))
            rw [hlen] at hrl
            have hsw : splice (splice (rw9 E ((p ++ S1') ++ z :: x :: (S2 ++ X2 ++ r))) ((p.length + S1'.length + 1) * 9) (E z).cells) ((p.length + S1'.length) * 9) (E x).cells = rw9 E (p ++ S1' ++ x :: (z :: S2 ++ X2 ++ r)) := by
              show splice (splice _ _ (enc E z)) _ (enc E x) = _
              rw [rw9, splice_flat (f := enc E) (s := 9) (fun _ => rfl) (by rw [hlen]; omega) z, splice_flat (f := enc E) (s := 9) (fun _ => rfl) (by rw [List.length_set, hlen]; omega) x, swap_adj' (p ++ S1') _ z x (by omega) (by omega), e2]
              rfl
            simp only [Cal.cells] at hsw
            have hsl := splice_length (cs := rw9 E ((p ++ S1') ++ z :: x :: (S2 ++ X2 ++ r))) (vs := (E z).cells) (o := (p.length + S1'.length + 1) * 9) (by rw [hrl]; simp only [Cal.cells, List.length_cons, List.length_nil]; omega)
            simp only [Cal.cells] at hsl
            simp -implicitDefEqProofs (maxSteps := 2000000) (disch := first | omega | (simp only [nx_new, nx_set, List.length_cons, List.length_nil, List.length_map, List.length_set, ne_eq, not_true_eq_false, not_false_eq_true, Nat.succ_ne_zero]; done) | (simp only [nx_new, nx_set, List.length_cons, List.length_nil, List.length_map, List.length_set, ne_eq, not_true_eq_false, not_false_eq_true, Nat.succ_ne_zero]; omega)) only [go_sem, reduceIte, reduceCtorEq, Nat.succ_ne_zero, not_false_eq_true, decide_true, decide_false, Nat.reduceAdd, Nat.reduceMul, Nat.reduceEqDiff, Nat.reduceLeDiff, hpl, hpl1, h3, h4, hg2]
            rw [hsw]
            refine ⟨((S1', z :: S2), G2.set q (.row (rw9 E (p ++ S1' ++ x :: (z :: S2 ++ X2 ++ r))) true 9)), ⟨by rw [← hS]; simp, ?_, hGk2.set _, Hp.get_set_same _ _ _ _ rfl⟩, by simp only; omega, Weak.sub ?_⟩
            · intro y hy; cases hy; exact .inl hlt2
            · simp -implicitDefEqProofs (disch := omega) only [Abs.Sub, get_cons_eq, get_cons_ne, and_self, Int.natCast_zero, Int.natCast_add, Int.natCast_one]
              refine ⟨?_, trivial⟩
              (first | rfl | (simp only [Option.some.injEq, Value.int.injEq, Value.slice.injEq, true_and, and_true]; omega))
          · have hge : key z ≤ key x := by have := of_decide_eq_false hd; omega
            simp -implicitDefEqProofs (maxSteps := 2000000) (disch := first | omega | (simp only [nx_new, nx_set, List.length_cons, List.length_nil, List.length_map, List.length_set, ne_eq, not_true_eq_false, not_false_eq_true, Nat.succ_ne_zero]; done) | (simp only [nx_new, nx_set, List.length_cons, List.length_nil, List.length_map, List.length_set, ne_eq, not_true_eq_false, not_false_eq_true, Nat.succ_ne_zero]; omega)) only [go_sem, reduceIte, reduceCtorEq, Nat.succ_ne_zero, not_false_eq_true, decide_true, decide_false, Nat.reduceAdd, Nat.reduceMul, Nat.reduceEqDiff, Nat.reduceLeDiff, hd]
            obtain ⟨f1, f2⟩ := hfin (fun y h => by
              rw [List.getLast?_append] at h; simp at h; subst h; exact bef_of_le hge hz1)
            refine ⟨((k + 1, (S1' ++ [z]) ++ x :: S2), G2), ⟨by simp only; omega, .inl hlt, f2, f1, hGk2, ?_⟩, by simp only; omega, Weak.sub ?_⟩
            · simp only [hX2]; exact hG2 _ (by rw [k2.get q hqn1]; exact hg0)
            · simp -implicitDefEqProofs (disch := omega) only [Abs.Sub, get_cons_eq, get_cons_ne, and_self, Int.natCast_zero, Int.natCast_add, Int.natCast_one]
              exact ⟨rfl, trivial⟩
      · simp only [List.nil_append]
        rw [hG]
        simp only [List.append_assoc, List.cons_append]
    · simp -implicitDefEqProofs (maxSteps := 2000000) (disch := first | omega | (simp only [nx_new, nx_set, List.length_cons, List.length_nil, List.length_map, List.length_set, ne_eq, not_true_eq_false, not_false_eq_true, Nat.succ_ne_zero]; done) | (simp only [nx_new, nx_set, List.length_cons, List.length_nil, List.length_map, List.length_set, ne_eq, not_true_eq_false, not_false_eq_true, Nat.succ_ne_zero]; omega)) only [go_sem, reduceIte, reduceCtorEq, Nat.succ_ne_zero, not_false_eq_true, decide_true, decide_false, Nat.reduceAdd, Nat.reduceMul, Nat.reduceEqDiff, Nat.reduceLeDiff]
      refine ret_n (v := .tuple #[]) (ares0 ret41) ⟨rfl, S, ?_, hsort, hGk, ?_⟩
      · rw [List.take_of_length_le (by omega)] at hperm; exact hperm
      · rw [hG, List.drop_eq_nil_of_le (by omega), List.append_nil]
  · cases X with
    | nil => exact List.Pairwise.nil
    | cons x X => exact List.pairwise_singleton _ _
  · have e : p ++ X.take 1 ++ X.drop 1 ++ r = p ++ X ++ r := by
      rw [List.append_assoc p, List.take_append_drop]
    rw [e]
    exact hg
end Go.Proofs.Ytejpfdhlpcgfkaa
