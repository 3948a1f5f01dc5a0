/- List, walked. -/
import Derived.Test.YtjdmndklnfhmjaaXg
set_option linter.unusedVariables false
set_option linter.unusedSimpArgs false
set_option linter.unusedSectionVars false
namespace Go.Proofs.Ytjdmndklnfhmjaa
open Go.Abs
set_option maxHeartbeats 8000000
set_option maxRecDepth 100000
/-- A frame: tile, filter, moment, mask, values. -/
structure Fr where
  t : Int
  f : Int
  a : Int
  m : Nat → Bool
  v : Nat → Int
def Fr.det (x : Fr) (i : Nat) : Det := ⟨x.t, i, x.f, x.v i, x.a⟩
def Fr.sel (x : Fr) (k : Nat) : List Nat := (List.range k).filter x.m
def Fr.dets (x : Fr) (k : Nat) : List Det := (x.sel k).map x.det
def Fr.ok (x : Fr) : Bool := (List.range 4).all fun i => okD (x.det i)
def Fr.ma (x : Fr) : Value := .agg #[.bool (x.m 0), .bool (x.m 1), .bool (x.m 2), .bool (x.m 3)]
def Fr.va (x : Fr) : Value := .agg #[.int .i64 (x.v 0), .int .i64 (x.v 1), .int .i64 (x.v 2), .int .i64 (x.v 3)]
theorem sel_succ (x : Fr) (k : Nat) : x.sel (k + 1) = x.sel k ++ if x.m k then [k] else [] := by
  rw [Fr.sel, List.range_succ, List.filter_append, Fr.sel]
  congr 1
  simp only [List.filter_cons, List.filter_nil]
theorem ix25 (v : Nat → Int) {k : Nat} (hk : k < 4) : aindex Try.prog 25 (.agg #[.int .i64 (v 0), .int .i64 (v 1), .int .i64 (v 2), .int .i64 (v 3)]) (.int .i64 k) = some (.int .i64 (v k)) := by
  have h0 : ∀ a b c d : Int, aindex Try.prog 25 (.agg #[.int .i64 a, .int .i64 b, .int .i64 c, .int .i64 d]) (.int .i64 0) = some (.int .i64 a) := fun a b c d => by kernel_rfl
  have h1 : ∀ a b c d : Int, aindex Try.prog 25 (.agg #[.int .i64 a, .int .i64 b, .int .i64 c, .int .i64 d]) (.int .i64 1) = some (.int .i64 b) := fun a b c d => by kernel_rfl
  have h2 : ∀ a b c d : Int, aindex Try.prog 25 (.agg #[.int .i64 a, .int .i64 b, .int .i64 c, .int .i64 d]) (.int .i64 2) = some (.int .i64 c) := fun a b c d => by kernel_rfl
  have h3 : ∀ a b c d : Int, aindex Try.prog 25 (.agg #[.int .i64 a, .int .i64 b, .int .i64 c, .int .i64 d]) (.int .i64 3) = some (.int .i64 d) := fun a b c d => by kernel_rfl
  match k, hk with
  | 0, _ => exact h0 _ _ _ _
  | 1, _ => exact h1 _ _ _ _
  | 2, _ => exact h2 _ _ _ _
  | 3, _ => exact h3 _ _ _ _
/-- What List answers. -/
def ListR (x : Fr) (lo : Nat) (v : Value) (G : Hp) : Prop :=
  (x.ok = false ∧ v = .tuple #[.slice none 0 0, .int .i64 1]) ∨
    (x.ok = true ∧ ∃ o : Option Addr, v = .tuple #[.slice o (x.dets 4).length (x.dets 4).length, .int .i64 0] ∧ OwnSl lo G o 5 ((x.dets 4).map Det.cells).flatten)
theorem dets_flat (L : List Det) : (L.map Det.cells).flatten.length = L.length * 5 := by rw [flat_len (dets_len L), List.length_map]
theorem sel_len (x : Fr) (k : Nat) : (x.sel k).length ≤ k := by
  have := List.length_filter_le x.m (List.range k)
  rwa [List.length_range] at this
theorem n10 : Try.f10.ntmps = 39 := rfl
theorem ret10 : Try.f10.results = #[.tmp 10, .tmp 11] := rfl
theorem list_spec (H : Hp) (x : Fr) : ACalls Try.prog 10 [.int .i64 x.t, .int .i64 x.f, .int .i64 x.a, x.ma, x.va] H (fun v H' => ListR x H.next v H' ∧ Keeps H H') := by
  have hix := fun k hk => ix25 x.v (k := k) hk
  simp only [Fr.ma, Fr.va]
  refine ACalls_enter Try.func10 (by kernel_rfl) rfl (by kernel_rfl) (by simp [n10]) fun hw hr => AWP_of_awp ?_
  simp -implicitDefEqProofs (maxSteps := 2000000) (disch := first | omega | (simp only [nx_new, nx_set, List.length_cons, List.length_nil, List.length_map, List.length_set, ne_eq, not_true_eq_false, not_false_eq_true, Nat.succ_ne_zero]; done) | (simp only [nx_new, nx_set, List.length_cons, List.length_nil, List.length_map, List.length_set, ne_eq, not_true_eq_false, not_false_eq_true, Nat.succ_ne_zero]; omega)) only [go_sem, reduceIte, reduceCtorEq, Nat.succ_ne_zero, not_false_eq_true, decide_true, decide_false, Nat.reduceAdd, Nat.reduceMul, Nat.reduceEqDiff, Nat.reduceLeDiff]
  obtain ⟨M, eM⟩ : ∃ M, M = (H.new (.row [.bool (x.m 0), .bool (x.m 1), .bool (x.m 2), .bool (x.m 3)] true 0)).new (.row [.int .i64 (x.v 0), .int .i64 (x.v 1), .int .i64 (x.v 2), .int .i64 (x.v 3)] true 0) := ⟨_, rfl⟩
  rw [← eM]
  have kM : Keeps H M := by rw [eM]; exact (Keeps.new _ _).trans (Keeps.new _ _)
  have nM : M.next = H.next + 1 + 1 := by rw [eM]; rfl
  have gM : M.get H.next = .row [.bool (x.m 0), .bool (x.m 1), .bool (x.m 2), .bool (x.m 3)] true 0 := by
    rw [eM, Hp.get_new_ne _ _ _ (by simp only [Hp.next_new]; omega)]; exact Hp.get_new_same _ _ _ rfl
  clear eM
  refine AWP_loop (σ := Nat × Hp × Option Addr) (fun s => [(17, .int .i64 s.1), (16, .agg #[.int .i64 (x.v 0), .int .i64 (x.v 1), .int .i64 (x.v 2), .int .i64 (x.v 3)]), (12, .slice s.2.2 (x.sel s.1).length (x.sel s.1).length), (8, .pointer (some ⟨H.next, 0, none⟩)), (0, .int .i64 x.t), (1, .int .i64 x.f), (2, .int .i64 x.a)]) (fun s => s.2.1)
    (fun s => s.1 ≤ 4 ∧ Keeps M s.2.1 ∧ OwnSl M.next s.2.1 s.2.2 5 ((x.dets s.1).map Det.cells).flatten ∧ ∀ i, i < s.1 → okD (x.det i) = true) (fun s => 4 - s.1) (0, M, none) ⟨Nat.zero_le _, Keeps.refl _, OwnSl.none, fun i h => by omega⟩ (Weak.sub ?_) ?_
  · have h0 : (x.sel 0).length = 0 := rfl
    simp only [h0]
    (simp -implicitDefEqProofs (disch := omega) only [Abs.Sub, get_cons_eq, get_cons_ne, and_self, Option.some.injEq, Value.int.injEq, Value.slice.injEq, true_and, and_true, Int.natCast_zero, Int.natCast_add, Int.natCast_one, List.length_nil]; try omega)
  rintro ⟨k, G, o⟩ ⟨hk4, hk, ho, hok⟩
  simp only at hk4 hk ho hok ⊢
  have hkn := hk.next
  refine AWP_of_awp ?_
  by_cases hlt : k < 4
  · have hixk := hix k hlt
    have hsl := sel_len x k
    have hsc := sel_succ x k
    have hfl : ((x.dets k).map Det.cells).flatten.length = (x.sel k).length * 5 := by rw [dets_flat, Fr.dets, List.length_map]
    have hval := fun G => valid_spec G (x.det k)
    have hds : x.dets (k + 1) = x.dets k ++ if x.m k then [x.det k] else [] := by
      rw [Fr.dets, hsc, List.map_append, Fr.dets]
      congr 1
      split <;> rfl
    have hnb : okD (x.det k) = false → x.ok = false := fun h => by
      rw [Fr.ok, List.all_eq_false]
      exact ⟨k, List.mem_range.2 hlt, by rw [h]; decide⟩
    have hdc : (x.det k).cells = [.int .i64 x.t, .int .i64 k, .int .i64 x.f, .int .i64 (x.v k), .int .i64 x.a] := rfl
    rw [hdc] at hval
    simp -implicitDefEqProofs (maxSteps := 2000000) (disch := first | omega | (simp only [nx_new, nx_set, List.length_cons, List.length_nil, List.length_map, List.length_set, ne_eq, not_true_eq_false, not_false_eq_true, Nat.succ_ne_zero]; done) | (simp only [nx_new, nx_set, List.length_cons, List.length_nil, List.length_map, List.length_set, ne_eq, not_true_eq_false, not_false_eq_true, Nat.succ_ne_zero]; omega)) only [go_sem, reduceIte, reduceCtorEq, Nat.succ_ne_zero, not_false_eq_true, decide_true, decide_false, Nat.reduceAdd, Nat.reduceMul, Nat.reduceEqDiff, Nat.reduceLeDiff, hixk]
    refine (hval _).mono ?_
    rintro _ G2 ⟨rfl, k2⟩
    have gd : G2.get G.next = .row [.int .i64 x.t, .int .i64 k, .int .i64 x.f, .int .i64 (x.v k), .int .i64 x.a] true 0 := (k2.get _ (Nat.lt_succ_self _)).trans (Hp.get_new_same _ _ _ rfl)
    have kG2 : Keeps G G2 := (Keeps.new _ _).trans k2
    have ho2 := ho.keeps kG2
    have hMG := hk.trans kG2
    have hn2 : G.next < G2.next := Nat.lt_of_lt_of_le (Nat.lt_succ_self _) k2.next
    have gm : G2.get H.next = .row [.bool (x.m 0), .bool (x.m 1), .bool (x.m 2), .bool (x.m 3)] true 0 := (hMG.get _ (by omega)).trans gM
    have lm : load1 G2 ⟨H.next, k, none⟩ = some (.bool (x.m k)) := by
      rw [l1_row _ _ _ _ _ gm]
      match k, hlt with
      | 0, _ => rfl
      | 1, _ => rfl
      | 2, _ => rfl
      | 3, _ => rfl
    have la : aload G2 ⟨G.next, 0, none⟩ 5 = some [.int .i64 x.t, .int .i64 k, .int .i64 x.f, .int .i64 (x.v k), .int .i64 x.a] := aload_row gd (Nat.le_refl 5)
    cases hb : okD (x.det k) with
    | false =>
      simp -implicitDefEqProofs (maxSteps := 2000000) (disch := first | omega | (simp only [nx_new, nx_set, List.length_cons, List.length_nil, List.length_map, List.length_set, ne_eq, not_true_eq_false, not_false_eq_true, Nat.succ_ne_zero]; done) | (simp only [nx_new, nx_set, List.length_cons, List.length_nil, List.length_map, List.length_set, ne_eq, not_true_eq_false, not_false_eq_true, Nat.succ_ne_zero]; omega)) only [go_sem, reduceIte, reduceCtorEq, Nat.succ_ne_zero, not_false_eq_true, decide_true, decide_false, Nat.reduceAdd, Nat.reduceMul, Nat.reduceEqDiff, Nat.reduceLeDiff]
      exact ret_r (v := .tuple #[.slice none 0 0, .int .i64 1]) (by rw [ares_tmp_tmp ret10]; rfl) ⟨.inl ⟨hnb hb, rfl⟩, kM.trans hMG⟩
    | true =>
      have hok' : ∀ i, i < k + 1 → okD (x.det i) = true := fun i hi => by
        rcases Nat.lt_succ_iff_lt_or_eq.1 hi with h | h
        · exact hok i h
        · rw [h]; exact hb
      cases hm : x.m k with
      | false =>
        rw [hm] at lm hsc hds
        simp only [Bool.false_eq_true, if_false, List.append_nil] at hsc hds
        simp -implicitDefEqProofs (maxSteps := 2000000) (disch := first | omega | (simp only [nx_new, nx_set, List.length_cons, List.length_nil, List.length_map, List.length_set, ne_eq, not_true_eq_false, not_false_eq_true, Nat.succ_ne_zero]; done) | (simp only [nx_new, nx_set, List.length_cons, List.length_nil, List.length_map, List.length_set, ne_eq, not_true_eq_false, not_false_eq_true, Nat.succ_ne_zero]; omega)) only [go_sem, reduceIte, reduceCtorEq, Nat.succ_ne_zero, not_false_eq_true, decide_true, decide_false, Nat.reduceAdd, Nat.reduceMul, Nat.reduceEqDiff, Nat.reduceLeDiff, lm]
        exact ⟨(k + 1, G2, o), ⟨hlt, hMG, by rw [hds]; exact ho2, hok'⟩, by simp only; omega, Weak.sub (by simp only [hsc]; (simp -implicitDefEqProofs (disch := omega) only [Abs.Sub, get_cons_eq, get_cons_ne, and_self, Option.some.injEq, Value.int.injEq, Value.slice.injEq, true_and, and_true, Int.natCast_zero, Int.natCast_add, Int.natCast_one, List.length_nil]; try omega))⟩
      | true =>
        rw [hm] at lm hsc hds
        simp only [if_true] at hsc hds
        simp -implicitDefEqProofs (maxSteps := 2000000) (disch := first | omega | (simp only [nx_new, nx_set, List.length_cons, List.length_nil, List.length_map, List.length_set, ne_eq, not_true_eq_false, not_false_eq_true, Nat.succ_ne_zero]; done) | (simp only [nx_new, nx_set, List.length_cons, List.length_nil, List.length_map, List.length_set, ne_eq, not_true_eq_false, not_false_eq_true, Nat.succ_ne_zero]; omega)) only [go_sem, reduceIte, reduceCtorEq, Nat.succ_ne_zero, not_false_eq_true, decide_true, decide_false, Nat.reduceAdd, Nat.reduceMul, Nat.reduceEqDiff, Nat.reduceLeDiff, lm, la]
        obtain ⟨G7, hap, h7n, h7g, hold, hob7⟩ := append_own (P := Try.prog) u27 u27 ts32 tb32 tz32 rfl (by decide) (by decide) (G := G2.new (.row [.int .i64 x.t, .int .i64 k, .int .i64 x.f, .int .i64 (x.v k), .int .i64 x.a] true 5)) (lo := M.next) (n := (x.sel k).length) (c := (x.sel k).length) (m := 1) (c' := 1) (r := G2.next) (ro := 0) (xs := [.int .i64 x.t, .int .i64 k, .int .i64 x.f, .int .i64 (x.v k), .int .i64 x.a])
          (ho2.keeps (Keeps.new _ _)) (by simp -implicitDefEqProofs (maxSteps := 2000000) (disch := first | omega | (simp only [nx_new, nx_set, List.length_cons, List.length_nil, List.length_map, List.length_set, ne_eq, not_true_eq_false, not_false_eq_true, Nat.succ_ne_zero]; done) | (simp only [nx_new, nx_set, List.length_cons, List.length_nil, List.length_map, List.length_set, ne_eq, not_true_eq_false, not_false_eq_true, Nat.succ_ne_zero]; omega)) only [go_sem, reduceIte, reduceCtorEq, Nat.succ_ne_zero, not_false_eq_true, decide_true, decide_false, Nat.reduceAdd, Nat.reduceMul, Nat.reduceEqDiff, Nat.reduceLeDiff]) rfl (by decide) hfl (by omega)
        simp only [Hp.next_new] at hap
        rw [hap]
        have hnx : G7.next = G2.next + 1 + 1 := h7n
        have hg7 : G7.get (G2.next + 1) = .row (((x.dets k).map Det.cells).flatten ++ [.int .i64 x.t, .int .i64 k, .int .i64 x.f, .int .i64 (x.v k), .int .i64 x.a]) true 5 := h7g
        have hob8 : G7.ob = G2.ob := hob7
        have hold' : ∀ b, b < M.next → G7.get b = G2.get b := fun b hb => by
          rw [hold b (by simp only [Hp.next_new]; omega) (ho2.lo_ne hb), Hp.get_new_ne _ _ _ (by omega)]
        refine ⟨(k + 1, G7, some ⟨G2.next + 1, 0, none⟩), ⟨hlt, ⟨(by show M.next ≤ G7.next; omega), fun b hb => (hold' b hb).trans (hMG.get b hb), fun r y hy => by rw [hob8]; exact hMG.ob r y hy⟩, .inr ⟨G2.next + 1, rfl, by omega, (by show G2.next + 1 < G7.next; omega), ?_⟩, hok'⟩, by simp only; omega, Weak.sub (by simp only [hsc, List.length_append, List.length_singleton]; (simp -implicitDefEqProofs (disch := omega) only [Abs.Sub, get_cons_eq, get_cons_ne, and_self, Option.some.injEq, Value.int.injEq, Value.slice.injEq, true_and, and_true, Int.natCast_zero, Int.natCast_add, Int.natCast_one, List.length_nil]; try omega))⟩
        rw [hds, List.map_append, List.flatten_append]
        exact hg7
  · obtain rfl : k = 4 := by omega
    have hall : x.ok = true := List.all_eq_true.2 fun i hi => hok i (List.mem_range.1 hi)
    have hlen : (x.dets 4).length = (x.sel 4).length := List.length_map _
    simp -implicitDefEqProofs (maxSteps := 2000000) (disch := first | omega | (simp only [nx_new, nx_set, List.length_cons, List.length_nil, List.length_map, List.length_set, ne_eq, not_true_eq_false, not_false_eq_true, Nat.succ_ne_zero]; done) | (simp only [nx_new, nx_set, List.length_cons, List.length_nil, List.length_map, List.length_set, ne_eq, not_true_eq_false, not_false_eq_true, Nat.succ_ne_zero]; omega)) only [go_sem, reduceIte, reduceCtorEq, Nat.succ_ne_zero, not_false_eq_true, decide_true, decide_false, Nat.reduceAdd, Nat.reduceMul, Nat.reduceEqDiff, Nat.reduceLeDiff]
    refine ret_r (v := .tuple #[.slice o (x.sel 4).length (x.sel 4).length, .int .i64 0]) (by rw [ares_tmp_tmp ret10]; rfl) ⟨.inr ⟨hall, o, by rw [hlen], ?_⟩, kM.trans hk⟩
    rcases ho with h | ⟨q, e1, e2, e3, e4⟩
    · exact .inl h
    · exact .inr ⟨q, e1, by omega, e3, e4⟩
end Go.Proofs.Ytjdmndklnfhmjaa
