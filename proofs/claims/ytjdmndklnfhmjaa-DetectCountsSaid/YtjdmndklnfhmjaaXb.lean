/- maps.Keys, walked; Collect. -/
import Derived.Test.YtjdmndklnfhmjaaXa
set_option linter.unusedVariables false
set_option linter.unusedSimpArgs false
set_option linter.unusedSectionVars false
namespace Go.Proofs.Ytjdmndklnfhmjaa
open Go.Abs
set_option maxHeartbeats 8000000
set_option maxRecDepth 100000
/-- Rows and maps stand as they were; iterators may go on. -/
structure KM (H H' : Hp) : Prop where
  next : H.next ≤ H'.next
  get : ∀ b, b < H.next → H'.get b = H.get b
  mp : ∀ r es, H.ob r = some (.mp es) → H'.ob r = some (.mp es)
theorem KM.refl (H : Hp) : KM H H := ⟨Nat.le_refl _, fun _ _ => rfl, fun _ _ h => h⟩
theorem KM.trans {a b c : Hp} (h : KM a b) (k : KM b c) : KM a c := ⟨Nat.le_trans h.next k.next, fun i hi => (k.get i (Nat.lt_of_lt_of_le hi h.next)).trans (h.get i hi), fun r es hr => k.mp r es (h.mp r es hr)⟩
theorem KM.of {H H' : Hp} (h : Keeps H H') : KM H H' := ⟨h.next, h.get, fun r es hr => h.ob r _ hr⟩
theorem KM.it {H : Hp} {i m n : Nat} {seen : Array Nat} (h : ∀ es, H.ob i ≠ some (.mp es)) : KM H (H.setOb i (.it m n seen)) := ⟨Nat.le_refl _, fun _ _ => rfl, fun r es hr => by
  rw [Hp.ob_setOb_ne _ _ _ _ (fun e => by subst e; exact h es hr)]; exact hr⟩
theorem one_map (r : Option Nat) : Abs.one (Value.map r) = true := rfl
theorem cells_map (r : Option Nat) : (Value.map r).cells = #[.map r] := rfl
theorem n26 : Try.f26.ntmps = 4 := rfl
theorem ret26 : Try.f26.results = #[.tmp 2] := rfl
theorem keys_spec (H : Hp) (r : Nat) : ACalls Try.prog 26 [.map (some r)] H (fun v H' => v = .func (.func 42) #[] #[.pointer (some ⟨H.next, 0, none⟩)] ∧ H' = H.new (.row [.map (some r)] true 0)) := by
  refine ACalls_enter Try.func26 (by kernel_rfl) rfl (by kernel_rfl) (by simp [n26]) fun hw hr => AWP_of_awp ?_
  simp -implicitDefEqProofs (maxSteps := 2000000) (disch := first | omega | (simp only [nx_new, nx_set, List.length_cons, List.length_nil, List.length_map, List.length_set, ne_eq, not_true_eq_false, not_false_eq_true, Nat.succ_ne_zero]; done) | (simp only [nx_new, nx_set, List.length_cons, List.length_nil, List.length_map, List.length_set, ne_eq, not_true_eq_false, not_false_eq_true, Nat.succ_ne_zero]; omega)) only [go_sem, reduceIte, reduceCtorEq, Nat.succ_ne_zero, not_false_eq_true, decide_true, decide_false, Nat.reduceAdd, Nat.reduceMul, Nat.reduceEqDiff, Nat.reduceLeDiff, one_map, cells_map]
  exact ret_r (v := .func (.func 42) #[] #[.pointer (some ⟨H.next, 0, none⟩)]) (by rw [ares_tmp ret26]; rfl) ⟨rfl, rfl⟩
theorem left_lt {n i : Nat} {seen : Array Nat} (hi : i < n) (hs : i ∉ seen.toList) : ((List.range n).filter fun j => decide (j ∉ (seen.push i).toList)).length < ((List.range n).filter fun j => decide (j ∉ seen.toList)).length := by
  have e : ((List.range n).filter fun j => decide (j ∉ (seen.push i).toList)) = ((List.range n).filter fun j => decide (j ∉ seen.toList)).filter fun j => decide (j ≠ i) := by
    rw [List.filter_filter]
    congr 1
    funext j
    simp only [Array.toList_push, List.mem_append, List.mem_singleton, not_or, Bool.decide_and, Bool.and_comm, ne_eq]
  rw [e, List.length_filter_lt_length_iff_exists]
  exact ⟨i, List.mem_filter.2 ⟨List.mem_range.2 hi, by simpa using hs⟩, by simp⟩
def kStep (es : List (List Int × Value)) (s : List (List Int)) (vs : List Value) (s' : List (List Int)) : Prop := ∃ e, e ∈ es ∧ e.1 ∉ s ∧ vs = [kv e.1] ∧ s' = s ++ [e.1]
def kFin (es : List (List Int × Value)) (s : List (List Int)) : Prop := ∀ e, e ∈ es → e.1 ∈ s
theorem n42 : Try.f42.ntmps = 14 := rfl
theorem ret42 : Try.f42.results = #[] := rfl
theorem keys_iter {H : Hp} {r q : Nat} {es : List (List Int × Value)} {I : List (List Int) → Hp → Prop} (hnd : (es.map (·.1)).Nodup) (h3 : ∀ e, e ∈ es → e.1.length = 3)
    (hI : ∀ s G, I s G → G.get q = .row [.map (some r)] true 0 ∧ q < G.next ∧ G.ob r = some (.mp es)) (hm : ∀ s G G', I s G → KM G G' → I s G') (h0 : I [] H) :
    AIterS Try.prog 42 [.pointer (some ⟨q, 0, none⟩)] I (kStep es) (kFin es) H := by
  refine ⟨⟨_, Try.func42, by kernel_rfl, rfl⟩, fun X l hX hy => AXCalls_enter Try.func42 rfl (by kernel_rfl) (by simp [n42]) fun hw hr => ?_⟩
  obtain ⟨q1, q2, q3⟩ := hI [] H h0
  have hq : load1 H ⟨q, 0, none⟩ = some (.map (some r)) := (l1_row _ _ _ _ _ q1).trans rfl
  refine AWX_seq (AWX.of (AWP_of_awp ?_))
  simp -implicitDefEqProofs (maxSteps := 2000000) (disch := first | omega | (simp only [nx_new, nx_set, List.length_cons, List.length_nil, List.length_map, List.length_set, ne_eq, not_true_eq_false, not_false_eq_true, Nat.succ_ne_zero]; done) | (simp only [nx_new, nx_set, List.length_cons, List.length_nil, List.length_map, List.length_set, ne_eq, not_true_eq_false, not_false_eq_true, Nat.succ_ne_zero]; omega)) only [go_sem, reduceIte, reduceCtorEq, Nat.succ_ne_zero, not_false_eq_true, decide_true, decide_false, Nat.reduceAdd, Nat.reduceMul, Nat.reduceEqDiff, Nat.reduceLeDiff, hq, ts53, tg53]
  rw [o_range]
  refine ⟨r, es, 55, 3, by simp -implicitDefEqProofs (maxSteps := 2000000) (disch := first | omega | (simp only [nx_new, nx_set, List.length_cons, List.length_nil, List.length_map, List.length_set, ne_eq, not_true_eq_false, not_false_eq_true, Nat.succ_ne_zero]; done) | (simp only [nx_new, nx_set, List.length_cons, List.length_nil, List.length_map, List.length_set, ne_eq, not_true_eq_false, not_false_eq_true, Nat.succ_ne_zero]; omega)) only [go_sem, reduceIte, reduceCtorEq, Nat.succ_ne_zero, not_false_eq_true, decide_true, decide_false, Nat.reduceAdd, Nat.reduceMul, Nat.reduceEqDiff, Nat.reduceLeDiff], u53, q3, fun it hit => ?_⟩
  simp -implicitDefEqProofs (maxSteps := 2000000) (disch := first | omega | (simp only [nx_new, nx_set, List.length_cons, List.length_nil, List.length_map, List.length_set, ne_eq, not_true_eq_false, not_false_eq_true, Nat.succ_ne_zero]; done) | (simp only [nx_new, nx_set, List.length_cons, List.length_nil, List.length_map, List.length_set, ne_eq, not_true_eq_false, not_false_eq_true, Nat.succ_ne_zero]; omega)) only [go_sem, reduceIte, reduceCtorEq, Nat.succ_ne_zero, not_false_eq_true, decide_true, decide_false, Nat.reduceAdd, Nat.reduceMul, Nat.reduceEqDiff, Nat.reduceLeDiff]
  have hitne : it ≠ r := fun e => by subst e; rw [q3] at hit; cases hit
  have hI1 : I [] (H.setOb it (.it r es.length #[])) := hm _ _ _ h0 (KM.it fun x hx => by rw [hit] at hx; cases hx)
  refine AWX_block ?_
  refine AWX_loop (σ := List (List Int) × Array Nat × Hp) (fun s => [(5, .chan (some it)), (0, .func (.yield l) #[] #[])]) (fun s => s.2.2) (fun s => I s.1 s.2.2 ∧ s.2.2.ob it = some (.it r es.length s.2.1) ∧ ∀ (i : Nat) (e : List Int × Value), es[i]? = some e → (i ∈ s.2.1.toList ↔ e.1 ∈ s.1))
    (fun s => ((List.range es.length).filter fun j => decide (j ∉ s.2.1.toList)).length) ([], #[], H.setOb it (.it r es.length #[])) ⟨hI1, Hp.ob_setOb_same _ _ _, fun i e _ => by simp⟩ (Weak.sub ?_) ?_
  · (simp -implicitDefEqProofs (disch := omega) only [Abs.Sub, get_cons_eq, get_cons_ne, and_self, Option.some.injEq, Value.int.injEq, Value.slice.injEq, true_and, and_true, Int.natCast_zero, Int.natCast_add, Int.natCast_one, List.length_nil]; try omega)
  rintro ⟨s, seen, G⟩ ⟨hIs, hob, hsn⟩
  simp only at hIs hob hsn ⊢
  obtain ⟨p1, p2, p3⟩ := hI s G hIs
  refine AWX_seq (AWX.of (AWP_of_awp ?_))
  simp -implicitDefEqProofs (maxSteps := 2000000) (disch := first | omega | (simp only [nx_new, nx_set, List.length_cons, List.length_nil, List.length_map, List.length_set, ne_eq, not_true_eq_false, not_false_eq_true, Nat.succ_ne_zero]; done) | (simp only [nx_new, nx_set, List.length_cons, List.length_nil, List.length_map, List.length_set, ne_eq, not_true_eq_false, not_false_eq_true, Nat.succ_ne_zero]; omega)) only [go_sem, reduceIte, reduceCtorEq, Nat.succ_ne_zero, not_false_eq_true, decide_true, decide_false, Nat.reduceAdd, Nat.reduceMul, Nat.reduceEqDiff, Nat.reduceLeDiff]
  rw [o_next]
  refine ⟨it, r, seen, es, by simp -implicitDefEqProofs (maxSteps := 2000000) (disch := first | omega | (simp only [nx_new, nx_set, List.length_cons, List.length_nil, List.length_map, List.length_set, ne_eq, not_true_eq_false, not_false_eq_true, Nat.succ_ne_zero]; done) | (simp only [nx_new, nx_set, List.length_cons, List.length_nil, List.length_map, List.length_set, ne_eq, not_true_eq_false, not_false_eq_true, Nat.succ_ne_zero]; omega)) only [go_sem, reduceIte, reduceCtorEq, Nat.succ_ne_zero, not_false_eq_true, decide_true, decide_false, Nat.reduceAdd, Nat.reduceMul, Nat.reduceEqDiff, Nat.reduceLeDiff], hob, p3, fun i e he hi => ?_, fun hall => ?_⟩
  · have hem : e ∈ es := List.mem_of_getElem? he
    obtain ⟨k, v⟩ := e
    have hk3 := h3 _ hem
    simp only at hk3
    obtain ⟨a, b, c, rfl⟩ : ∃ a b c, k = [a, b, c] := by
      match k, hk3 with
      | [a, b, c], _ => exact ⟨a, b, c, rfl⟩
    have hns : [a, b, c] ∉ s := fun h => hi ((hsn i _ he).2 h)
    have hI2 : I s (G.setOb it (.it r es.length (seen.push i))) := hm _ _ _ hIs (KM.it fun x hx => by rw [hob] at hx; cases hx)
    have hob2 : (G.setOb it (.it r es.length (seen.push i))).ob it = some (.it r es.length (seen.push i)) := Hp.ob_setOb_same _ _ _
    generalize G.setOb it (.it r es.length (seen.push i)) = G1 at *
    obtain ⟨p4, p5, p6⟩ := hI s G1 hI2
    simp -implicitDefEqProofs (maxSteps := 2000000) (disch := first | omega | (simp only [nx_new, nx_set, List.length_cons, List.length_nil, List.length_map, List.length_set, ne_eq, not_true_eq_false, not_false_eq_true, Nat.succ_ne_zero]; done) | (simp only [nx_new, nx_set, List.length_cons, List.length_nil, List.length_map, List.length_set, ne_eq, not_true_eq_false, not_false_eq_true, Nat.succ_ne_zero]; omega)) only [go_sem, reduceIte, reduceCtorEq, Nat.succ_ne_zero, not_false_eq_true, decide_true, decide_false, Nat.reduceAdd, Nat.reduceMul, Nat.reduceEqDiff, Nat.reduceLeDiff]
    refine AWX_seq (AWX.of (AWP_of_awp ?_))
    simp -implicitDefEqProofs (maxSteps := 2000000) (disch := first | omega | (simp only [nx_new, nx_set, List.length_cons, List.length_nil, List.length_map, List.length_set, ne_eq, not_true_eq_false, not_false_eq_true, Nat.succ_ne_zero]; done) | (simp only [nx_new, nx_set, List.length_cons, List.length_nil, List.length_map, List.length_set, ne_eq, not_true_eq_false, not_false_eq_true, Nat.succ_ne_zero]; omega)) only [go_sem, reduceIte, reduceCtorEq, Nat.succ_ne_zero, not_false_eq_true, decide_true, decide_false, Nat.reduceAdd, Nat.reduceMul, Nat.reduceEqDiff, Nat.reduceLeDiff]
    refine AWX_block (AWX_seq (AWX.of (AWP_of_awp ?_)))
    simp -implicitDefEqProofs (maxSteps := 2000000) (disch := first | omega | (simp only [nx_new, nx_set, List.length_cons, List.length_nil, List.length_map, List.length_set, ne_eq, not_true_eq_false, not_false_eq_true, Nat.succ_ne_zero]; done) | (simp only [nx_new, nx_set, List.length_cons, List.length_nil, List.length_map, List.length_set, ne_eq, not_true_eq_false, not_false_eq_true, Nat.succ_ne_zero]; omega)) only [go_sem, reduceIte, reduceCtorEq, Nat.succ_ne_zero, not_false_eq_true, decide_true, decide_false, Nat.reduceAdd, Nat.reduceMul, Nat.reduceEqDiff, Nat.reduceLeDiff]
    rw [o_entry]
    refine ⟨it, r, seen, i, es, _, by simp -implicitDefEqProofs (maxSteps := 2000000) (disch := first | omega | (simp only [nx_new, nx_set, List.length_cons, List.length_nil, List.length_map, List.length_set, ne_eq, not_true_eq_false, not_false_eq_true, Nat.succ_ne_zero]; done) | (simp only [nx_new, nx_set, List.length_cons, List.length_nil, List.length_map, List.length_set, ne_eq, not_true_eq_false, not_false_eq_true, Nat.succ_ne_zero]; omega)) only [go_sem, reduceIte, reduceCtorEq, Nat.succ_ne_zero, not_false_eq_true, decide_true, decide_false, Nat.reduceAdd, Nat.reduceMul, Nat.reduceEqDiff, Nat.reduceLeDiff], hob2, p6, he, ?_⟩
    simp only [kv, List.map_cons, List.map_nil]
    simp -implicitDefEqProofs (maxSteps := 2000000) (disch := first | omega | (simp only [nx_new, nx_set, List.length_cons, List.length_nil, List.length_map, List.length_set, ne_eq, not_true_eq_false, not_false_eq_true, Nat.succ_ne_zero]; done) | (simp only [nx_new, nx_set, List.length_cons, List.length_nil, List.length_map, List.length_set, ne_eq, not_true_eq_false, not_false_eq_true, Nat.succ_ne_zero]; omega)) only [go_sem, reduceIte, reduceCtorEq, Nat.succ_ne_zero, not_false_eq_true, decide_true, decide_false, Nat.reduceAdd, Nat.reduceMul, Nat.reduceEqDiff, Nat.reduceLeDiff]
    refine AWX_seq ?_
    refine AWX_yieldAt (l := l) hX 2 rfl rfl rfl rfl ?_
    simp only [List.take_succ_cons, List.take_zero, List.drop_succ_cons, List.drop_zero]
    have hI3 : I s (G1.new (.row [.int .i64 a, .int .i64 b, .int .i64 c] true 0)) := hm _ _ _ hI2 (KM.of (Keeps.new _ _))
    have hob3 : (G1.new (.row [.int .i64 a, .int .i64 b, .int .i64 c] true 0)).ob it = some (.it r es.length (seen.push i)) := hob2
    simp -implicitDefEqProofs (maxSteps := 2000000) (disch := first | omega | (simp only [nx_new, nx_set, List.length_cons, List.length_nil, List.length_map, List.length_set, ne_eq, not_true_eq_false, not_false_eq_true, Nat.succ_ne_zero]; done) | (simp only [nx_new, nx_set, List.length_cons, List.length_nil, List.length_map, List.length_set, ne_eq, not_true_eq_false, not_false_eq_true, Nat.succ_ne_zero]; omega)) only [go_sem, reduceIte, reduceCtorEq, Nat.succ_ne_zero, not_false_eq_true, decide_true, decide_false, Nat.reduceAdd, Nat.reduceMul, Nat.reduceEqDiff, Nat.reduceLeDiff]
    refine ⟨by simp -implicitDefEqProofs (maxSteps := 2000000) (disch := first | omega | (simp only [nx_new, nx_set, List.length_cons, List.length_nil, List.length_map, List.length_set, ne_eq, not_true_eq_false, not_false_eq_true, Nat.succ_ne_zero]; done) | (simp only [nx_new, nx_set, List.length_cons, List.length_nil, List.length_map, List.length_set, ne_eq, not_true_eq_false, not_false_eq_true, Nat.succ_ne_zero]; omega)) only [go_sem, reduceIte, reduceCtorEq, Nat.succ_ne_zero, not_false_eq_true, decide_true, decide_false, Nat.reduceAdd, Nat.reduceMul, Nat.reduceEqDiff, Nat.reduceLeDiff], [.agg #[.int .i64 a, .int .i64 b, .int .i64 c]], by simp -implicitDefEqProofs (maxSteps := 2000000) (disch := first | omega | (simp only [nx_new, nx_set, List.length_cons, List.length_nil, List.length_map, List.length_set, ne_eq, not_true_eq_false, not_false_eq_true, Nat.succ_ne_zero]; done) | (simp only [nx_new, nx_set, List.length_cons, List.length_nil, List.length_map, List.length_set, ne_eq, not_true_eq_false, not_false_eq_true, Nat.succ_ne_zero]; omega)) only [go_sem, reduceIte, reduceCtorEq, Nat.succ_ne_zero, not_false_eq_true, decide_true, decide_false, Nat.reduceAdd, Nat.reduceMul, Nat.reduceEqDiff, Nat.reduceLeDiff], ?_⟩
    refine (hy s [kv [a, b, c]] (s ++ [[a, b, c]]) _ ⟨_, hem, hns, rfl, rfl⟩ hI3).mono ?_
    rintro _ G2 ⟨rfl, hI4, hits⟩
    have hob4 := hits _ _ _ _ hob3
    simp -implicitDefEqProofs (maxSteps := 2000000) (disch := first | omega | (simp only [nx_new, nx_set, List.length_cons, List.length_nil, List.length_map, List.length_set, ne_eq, not_true_eq_false, not_false_eq_true, Nat.succ_ne_zero]; done) | (simp only [nx_new, nx_set, List.length_cons, List.length_nil, List.length_map, List.length_set, ne_eq, not_true_eq_false, not_false_eq_true, Nat.succ_ne_zero]; omega)) only [go_sem, reduceIte, reduceCtorEq, Nat.succ_ne_zero, not_false_eq_true, decide_true, decide_false, Nat.reduceAdd, Nat.reduceMul, Nat.reduceEqDiff, Nat.reduceLeDiff]
    refine AWX.of (AWP_of_awp ?_)
    simp -implicitDefEqProofs (maxSteps := 2000000) (disch := first | omega | (simp only [nx_new, nx_set, List.length_cons, List.length_nil, List.length_map, List.length_set, ne_eq, not_true_eq_false, not_false_eq_true, Nat.succ_ne_zero]; done) | (simp only [nx_new, nx_set, List.length_cons, List.length_nil, List.length_map, List.length_set, ne_eq, not_true_eq_false, not_false_eq_true, Nat.succ_ne_zero]; omega)) only [go_sem, reduceIte, reduceCtorEq, Nat.succ_ne_zero, not_false_eq_true, decide_true, decide_false, Nat.reduceAdd, Nat.reduceMul, Nat.reduceEqDiff, Nat.reduceLeDiff]
    refine ⟨(s ++ [[a, b, c]], seen.push i, G2), ⟨hI4, hob4, fun j f hj => ?_⟩, left_lt (List.getElem?_eq_some_iff.1 he).1 hi, Weak.sub (by (simp -implicitDefEqProofs (disch := omega) only [Abs.Sub, get_cons_eq, get_cons_ne, and_self, Option.some.injEq, Value.int.injEq, Value.slice.injEq, true_and, and_true, Int.natCast_zero, Int.natCast_add, Int.natCast_one, List.length_nil]; try omega))⟩
    simp only [Array.toList_push, List.mem_append, List.mem_singleton]
    rw [hsn j f hj]
    constructor
    · rintro (h | h)
      · exact .inl h
      · subst h; rw [he] at hj; cases hj; exact .inr rfl
    · rintro (h | h)
      · exact .inl h
      · exact .inr (nodup_key hnd hj he h)
  · simp -implicitDefEqProofs (maxSteps := 2000000) (disch := first | omega | (simp only [nx_new, nx_set, List.length_cons, List.length_nil, List.length_map, List.length_set, ne_eq, not_true_eq_false, not_false_eq_true, Nat.succ_ne_zero]; done) | (simp only [nx_new, nx_set, List.length_cons, List.length_nil, List.length_map, List.length_set, ne_eq, not_true_eq_false, not_false_eq_true, Nat.succ_ne_zero]; omega)) only [go_sem, reduceIte, reduceCtorEq, Nat.succ_ne_zero, not_false_eq_true, decide_true, decide_false, Nat.reduceAdd, Nat.reduceMul, Nat.reduceEqDiff, Nat.reduceLeDiff]
    refine AWX_seq (AWX.of (AWP_of_awp ?_))
    simp -implicitDefEqProofs (maxSteps := 2000000) (disch := first | omega | (simp only [nx_new, nx_set, List.length_cons, List.length_nil, List.length_map, List.length_set, ne_eq, not_true_eq_false, not_false_eq_true, Nat.succ_ne_zero]; done) | (simp only [nx_new, nx_set, List.length_cons, List.length_nil, List.length_map, List.length_set, ne_eq, not_true_eq_false, not_false_eq_true, Nat.succ_ne_zero]; omega)) only [go_sem, reduceIte, reduceCtorEq, Nat.succ_ne_zero, not_false_eq_true, decide_true, decide_false, Nat.reduceAdd, Nat.reduceMul, Nat.reduceEqDiff, Nat.reduceLeDiff]
    refine ret_n (v := .tuple #[]) (ares0 ret42) ⟨s, fun e he => ?_, hIs⟩
    obtain ⟨i, hi⟩ := List.getElem?_of_mem he
    exact (hsn i e hi).1 (hall i (List.getElem?_eq_some_iff.1 hi).1)
/-! ### the keys, gathered -/
def pl3 (k : List Int) : List Value := k.map (Value.int .i64)
theorem pl3_flat {ks : List (List Int)} (h : ∀ k, k ∈ ks → k.length = 3) : ((ks.map pl3).flatten).length = ks.length * 3 := by
  rw [flat_len (s := 3), List.length_map]
  intro x hx
  obtain ⟨k, hk, rfl⟩ := List.mem_map.1 hx
  rw [pl3, List.length_map]; exact h k hk
/-- Between two rounds: the keys seen so far, in a slice of one's own. -/
def seqK (G0 : Hp) (q r : Nat) (es : List (List Int × Value)) (s : List (List Int)) (G : Hp) : Prop :=
  KM G0 G ∧ q < G0.next ∧ G0.get q = .row [.map (some r)] true 0 ∧ G0.ob r = some (.mp es) ∧ G0.next < G.next ∧ s.Nodup ∧ (∀ k, k ∈ s → k.length = 3 ∧ ∃ e, e ∈ es ∧ e.1 = k) ∧ s.length ≤ es.length ∧ ∃ o, G.get G0.next = .row [.slice o s.length s.length] true 0 ∧ OwnSl (G0.next + 1) G o 3 (s.map pl3).flatten
theorem seqK_mono {G0 : Hp} {q r : Nat} {es : List (List Int × Value)} {s : List (List Int)} {G G' : Hp} (h : seqK G0 q r es s G) (k : KM G G') : seqK G0 q r es s G' := by
  obtain ⟨h1, h2, h3, h4, h5, h6, h7, h8, o, h9, h10⟩ := h
  refine ⟨h1.trans k, h2, h3, h4, Nat.lt_of_lt_of_le h5 k.next, h6, h7, h8, o, (k.get _ h5).trans h9, ?_⟩
  rcases h10 with h | ⟨p, p1, p2, p3, p4⟩
  · exact .inl h
  · exact .inr ⟨p, p1, p2, Nat.lt_of_lt_of_le p3 k.next, (k.get p p3).trans p4⟩
theorem nodup_len {s t : List (List Int)} (hs : s.Nodup) (h : ∀ k, k ∈ s → k ∈ t) : s.length ≤ t.length := by
  induction s generalizing t with
  | nil => simp
  | cons a s ih =>
    rw [List.nodup_cons] at hs
    have ha := h a (List.mem_cons_self ..)
    have := ih (t := t.erase a) hs.2 fun k hk => (List.mem_erase_of_ne (fun e => hs.1 (by rw [← e]; exact hk))).2 (h k (List.mem_cons_of_mem _ hk))
    rw [List.length_erase_of_mem ha] at this
    have hp := List.length_pos_of_mem ha
    simp only [List.length_cons]
    omega
theorem n47 : Try.f47.ntmps = 13 := rfl
theorem ret47 : Try.f47.results = #[.tmp 4] := rfl
theorem appendSeq_spec {G : Hp} {q r : Nat} {es : List (List Int × Value)} (hn : es.length ≤ 1000000) (hnd : (es.map (·.1)).Nodup) (h3 : ∀ e, e ∈ es → e.1.length = 3) (hqn : q < G.next) (hq : G.get q = .row [.map (some r)] true 0) (hr : G.ob r = some (.mp es)) :
    ACalls Try.prog 47 [.slice none 0 0, .func (.func 42) #[] #[.pointer (some ⟨q, 0, none⟩)]] G (fun v H' => KM G H' ∧ ∃ (o : Option Addr) (s : List (List Int)), s.Perm (es.map (·.1)) ∧ v = .slice o s.length s.length ∧ OwnSl G.next H' o 3 (s.map pl3).flatten) := by
  refine ACalls_enter Try.func47 (by kernel_rfl) rfl (by kernel_rfl) (by simp [n47]) fun hw hr0 => AWP_of_awp ?_
  simp -implicitDefEqProofs (maxSteps := 2000000) (disch := first | omega | (simp only [nx_new, nx_set, List.length_cons, List.length_nil, List.length_map, List.length_set, ne_eq, not_true_eq_false, not_false_eq_true, Nat.succ_ne_zero]; done) | (simp only [nx_new, nx_set, List.length_cons, List.length_nil, List.length_map, List.length_set, ne_eq, not_true_eq_false, not_false_eq_true, Nat.succ_ne_zero]; omega)) only [go_sem, reduceIte, reduceCtorEq, Nat.succ_ne_zero, not_false_eq_true, decide_true, decide_false, Nat.reduceAdd, Nat.reduceMul, Nat.reduceEqDiff, Nat.reduceLeDiff]
  have h0 : seqK G q r es [] (G.new (.row [.slice none 0 0] true 0)) := ⟨KM.of (Keeps.new _ _), hqn, hq, hr, by rw [Hp.next_new]; omega, List.nodup_nil, (fun k h => by cases h), Nat.zero_le _, none, Hp.get_new_same _ _ _ rfl, OwnSl.none⟩
  refine AWP_rangeS (I := seqK G q r es) (step := kStep es) (fin := kFin es) rfl (keys_iter hnd h3 (fun s G' h => ⟨(h.1.get _ h.2.1).trans h.2.2.1, Nat.lt_of_lt_of_le h.2.1 h.1.next, h.1.mp _ _ h.2.2.2.1⟩) (fun s G1 G2 h k => seqK_mono h k) h0)
    (fun s vs s' ⟨e, _, _, hv, _⟩ => by rw [hv]; rfl) rfl (fun l s vs s' G' hst hI => ?_) (fun s G' hfin hI => ?_)
  · obtain ⟨⟨k, v⟩, he, hns, rfl, rfl⟩ := hst
    have hk3 := h3 _ he
    simp only at hk3 hns ⊢
    obtain ⟨a, b, c, rfl⟩ : ∃ a b c, k = [a, b, c] := by
      match k, hk3 with
      | [a, b, c], _ => exact ⟨a, b, c, rfl⟩
    simp only [kv, List.map_cons, List.map_nil]
    show AWP _ _ _ _ _ _ ((7, .agg #[.int .i64 a, .int .i64 b, .int .i64 c]) :: _) _
    obtain ⟨hk, q1, q2, q3, hlt, hsn, hs3, hsl, o, hb, ho⟩ := hI
    refine AWP_of_awp ?_
    simp -implicitDefEqProofs (maxSteps := 2000000) (disch := first | omega | (simp only [nx_new, nx_set, List.length_cons, List.length_nil, List.length_map, List.length_set, ne_eq, not_true_eq_false, not_false_eq_true, Nat.succ_ne_zero]; done) | (simp only [nx_new, nx_set, List.length_cons, List.length_nil, List.length_map, List.length_set, ne_eq, not_true_eq_false, not_false_eq_true, Nat.succ_ne_zero]; omega)) only [go_sem, reduceIte, reduceCtorEq, Nat.succ_ne_zero, not_false_eq_true, decide_true, decide_false, Nat.reduceAdd, Nat.reduceMul, Nat.reduceEqDiff, Nat.reduceLeDiff]
    have l0 : load1 G' ⟨G.next, 0, none⟩ = some (.slice o s.length s.length) := (l1_row _ _ _ _ _ hb).trans rfl
    refine AWP_of_awp ?_
    simp -implicitDefEqProofs (maxSteps := 2000000) (disch := first | omega | (simp only [nx_new, nx_set, List.length_cons, List.length_nil, List.length_map, List.length_set, ne_eq, not_true_eq_false, not_false_eq_true, Nat.succ_ne_zero]; done) | (simp only [nx_new, nx_set, List.length_cons, List.length_nil, List.length_map, List.length_set, ne_eq, not_true_eq_false, not_false_eq_true, Nat.succ_ne_zero]; omega)) only [go_sem, reduceIte, reduceCtorEq, Nat.succ_ne_zero, not_false_eq_true, decide_true, decide_false, Nat.reduceAdd, Nat.reduceMul, Nat.reduceEqDiff, Nat.reduceLeDiff, l0]
    have hfl := pl3_flat (fun k hk => (hs3 k hk).1)
    obtain ⟨G2, hap, h2n, h2g, hold, hob⟩ := append_own (P := Try.prog) u57 u57 ts55 tb55 tz55 rfl (by decide) (by decide) (G := (G'.new (.row [.int .i64 a, .int .i64 b, .int .i64 c] true 0)).new (.row [.int .i64 a, .int .i64 b, .int .i64 c] true 3)) (lo := G.next + 1) (n := s.length) (c := s.length) (m := 1) (c' := 1) (r := G'.next + 1) (ro := 0) (xs := [.int .i64 a, .int .i64 b, .int .i64 c]) ((ho.keeps (Keeps.new _ _)).keeps (Keeps.new _ _))
      (by simp -implicitDefEqProofs (maxSteps := 2000000) (disch := first | omega | (simp only [nx_new, nx_set, List.length_cons, List.length_nil, List.length_map, List.length_set, ne_eq, not_true_eq_false, not_false_eq_true, Nat.succ_ne_zero]; done) | (simp only [nx_new, nx_set, List.length_cons, List.length_nil, List.length_map, List.length_set, ne_eq, not_true_eq_false, not_false_eq_true, Nat.succ_ne_zero]; omega)) only [go_sem, reduceIte, reduceCtorEq, Nat.succ_ne_zero, not_false_eq_true, decide_true, decide_false, Nat.reduceAdd, Nat.reduceMul, Nat.reduceEqDiff, Nat.reduceLeDiff]) rfl (by decide) hfl (by omega)
    rw [hap]
    have hnx : G2.next = G'.next + 1 + 1 + 1 := h2n
    have hg2 : G2.get (G'.next + 1 + 1) = .row ((s.map pl3).flatten ++ [.int .i64 a, .int .i64 b, .int .i64 c]) true 3 := h2g
    have hob2 : G2.ob = G'.ob := hob
    have hold' : ∀ b, b < G.next + 1 → G2.get b = G'.get b := fun b hb => by
      rw [hold b (by simp only [Hp.next_new]; omega) (ho.lo_ne hb), Hp.get_new_ne _ _ _ (by simp only [Hp.next_new]; omega), Hp.get_new_ne _ _ _ (by omega)]
    have hb2 : G2.get G.next = .row [.slice o s.length s.length] true 0 := (hold' _ (by omega)).trans hb
    simp -implicitDefEqProofs (maxSteps := 2000000) (disch := first | omega | (simp only [nx_new, nx_set, List.length_cons, List.length_nil, List.length_map, List.length_set, ne_eq, not_true_eq_false, not_false_eq_true, Nat.succ_ne_zero]; done) | (simp only [nx_new, nx_set, List.length_cons, List.length_nil, List.length_map, List.length_set, ne_eq, not_true_eq_false, not_false_eq_true, Nat.succ_ne_zero]; omega)) only [go_sem, reduceIte, reduceCtorEq, Nat.succ_ne_zero, not_false_eq_true, decide_true, decide_false, Nat.reduceAdd, Nat.reduceMul, Nat.reduceEqDiff, Nat.reduceLeDiff, hb2]
    have hkn := hk.next
    have hmem : [a, b, c] ∈ es.map (·.1) := List.mem_map.2 ⟨_, he, rfl⟩
    have hsn' : (s ++ [[a, b, c]]).Nodup := by
      rw [List.nodup_append]
      refine ⟨hsn, by simp, fun x hx y hy => ?_⟩
      rw [List.mem_singleton] at hy
      subst hy
      exact fun e => hns (e ▸ hx)
    have hs3' : ∀ k, k ∈ s ++ [[a, b, c]] → k.length = 3 ∧ ∃ e, e ∈ es ∧ e.1 = k := fun k hk => by
      rcases List.mem_append.1 hk with h | h
      · exact hs3 k h
      · rw [List.mem_singleton] at h; subst h; exact ⟨rfl, _, he, rfl⟩
    have hlen' : (s ++ [[a, b, c]]).length ≤ es.length := by
      have e0 : (es.map (·.1)).length = es.length := List.length_map _
      rw [← e0]
      refine nodup_len hsn' fun k hk => ?_
      obtain ⟨e, h1, h2⟩ := (hs3' k hk).2
      exact List.mem_map.2 ⟨e, h1, h2⟩
    refine ⟨⟨⟨by rw [Hp.next_set]; omega, fun b hb => ?_, fun x y hxy => ?_⟩, q1, q2, q3, by rw [Hp.next_set]; omega, hsn', hs3', hlen', some ⟨G'.next + 1 + 1, 0, none⟩, ?_, .inr ⟨G'.next + 1 + 1, rfl, by omega, by rw [Hp.next_set]; omega, ?_⟩⟩, fun it m n seen hx => ?_⟩
    · rw [Hp.get_set_ne _ _ _ _ (by omega), hold' b (by omega)]; exact hk.get b hb
    · rw [Hp.ob_set, hob2]; exact hk.mp _ _ hxy
    · rw [List.length_append, List.length_singleton]; exact Hp.get_set_same _ _ _ _ rfl
    · rw [Hp.get_set_ne _ _ _ _ (by omega), hg2, List.map_append, List.flatten_append]; rfl
    · rw [Hp.ob_set, hob2]; exact hx
  · obtain ⟨hk, q1, q2, q3, hlt, hsn, hs3, hsl, o, hb, ho⟩ := hI
    have l0 : load1 G' ⟨G.next, 0, none⟩ = some (.slice o s.length s.length) := (l1_row _ _ _ _ _ hb).trans rfl
    have hperm : s.Perm (es.map (·.1)) := (List.perm_ext_iff_of_nodup hsn hnd).2 fun k => by
      constructor
      · intro h
        obtain ⟨e, h1, h2⟩ := (hs3 k h).2
        exact List.mem_map.2 ⟨e, h1, h2⟩
      · intro h
        obtain ⟨e, h1, rfl⟩ := List.mem_map.1 h
        exact hfin e h1
    simp -implicitDefEqProofs (maxSteps := 2000000) (disch := first | omega | (simp only [nx_new, nx_set, List.length_cons, List.length_nil, List.length_map, List.length_set, ne_eq, not_true_eq_false, not_false_eq_true, Nat.succ_ne_zero]; done) | (simp only [nx_new, nx_set, List.length_cons, List.length_nil, List.length_map, List.length_set, ne_eq, not_true_eq_false, not_false_eq_true, Nat.succ_ne_zero]; omega)) only [go_sem, reduceIte, reduceCtorEq, Nat.succ_ne_zero, not_false_eq_true, decide_true, decide_false, Nat.reduceAdd, Nat.reduceMul, Nat.reduceEqDiff, Nat.reduceLeDiff, l0]
    refine ret_r (v := .slice o s.length s.length) (by rw [ares_tmp ret47]; rfl) ⟨hk, o, s, hperm, rfl, ?_⟩
    rcases ho with h | ⟨p, h1, h2, h3, h4⟩
    · exact .inl h
    · exact .inr ⟨p, h1, by omega, h3, h4⟩
end Go.Proofs.Ytjdmndklnfhmjaa
