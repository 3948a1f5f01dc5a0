/- The reference's Master, walked. -/
import Derived.Test.YtejpfdhlpcgfkaaVp
set_option linter.unusedVariables false
set_option linter.unusedSimpArgs false
set_option linter.unusedSectionVars false
namespace Go.Proofs.Ytejpfdhlpcgfkaa
open Go.Abs Go.Sm
set_option maxHeartbeats 8000000
set_option maxRecDepth 100000
def rp (l : List Cal) (S : List Nat) (p : Nat) : Int := med ((S.take 5).map fun i => (lat l i).pix p)
def RefR (l : List Cal) (w : Want) (S : List Nat) (v : Value) : Prop :=
  (okAll l w = false ∧ v = .tuple #[pxs 0 0 0 0, .int .i64 1]) ∨ (okAll l w = true ∧ S = [] ∧ v = .tuple #[pxs 0 0 0 0, .int .i64 10]) ∨
    (okAll l w = true ∧ S ≠ [] ∧ v = .tuple #[pxs (rp l S 0) (rp l S 1) (rp l S 2) (rp l S 3), .int .i64 0])
theorem pc_cell (c : Cal) {k : Nat} (hk : k < 4) : c.pc[k]? = some (.int .i64 (c.pix k)) := by
  match k, hk with
  | 0, _ => rfl
  | 1, _ => rfl
  | 2, _ => rfl
  | 3, _ => rfl
theorem n12 : Try.f12.ntmps = 85 := rfl
theorem ret12 : Try.f12.results = #[.cell 12 27, .tmp 13] := rfl
theorem refmaster_spec (H : Hp) (a : Option Addr) (l : List Cal) (w : Want) (S : List Nat) (hl : l.length ≤ 1000) (he : Elems H a 9 (l.map Cal.cells)) (hp : S.Perm (apps l w)) (hs : S.Pairwise (bfL l)) :
    ACalls Try.prog 12 [.slice a l.length l.length, .int .i64 w.kind, .int .i64 w.tel, .int .i64 w.fil, .int .i64 w.at_, .int .i64 w.known] H (fun v H' => RefR l w S v ∧ Keeps H H') := by
  have hvw := fun G => valid16_spec G w.cal
  have hva := fun G c => valid16_spec G c
  refine ACalls_enter Try.func12 (by kernel_rfl) rfl (by kernel_rfl) (by simp [n12]) fun hw hr => AWP_of_awp ?_
  simp -implicitDefEqProofs (maxSteps := 2000000) (disch := first | omega | (simp only [nx_new, nx_set, List.length_cons, List.length_nil, List.length_map, List.length_set, ne_eq, not_true_eq_false, not_false_eq_true, Nat.succ_ne_zero]; done) | (simp only [nx_new, nx_set, List.length_cons, List.length_nil, List.length_map, List.length_set, ne_eq, not_true_eq_false, not_false_eq_true, Nat.succ_ne_zero]; omega)) only [go_sem, reduceIte, reduceCtorEq, Nat.succ_ne_zero, not_false_eq_true, decide_true, decide_false, Nat.reduceAdd, Nat.reduceMul, Nat.reduceEqDiff, Nat.reduceLeDiff]
  obtain ⟨H1, e1⟩ : ∃ X, X = H.new (.row [.int .i64 0, .int .i64 0, .int .i64 0, .int .i64 0] true 0) := ⟨_, rfl⟩
  rw [← e1]
  have k1 : Keeps H H1 := by rw [e1]; exact Keeps.new _ _
  have n1 : H1.next = H.next + 1 := by rw [e1]; rfl
  have g1 : H1.get H.next = .row [.int .i64 0, .int .i64 0, .int .i64 0, .int .i64 0] true 0 := by rw [e1]; exact Hp.get_new_same _ _ _ rfl
  clear e1
  refine AWP_loop (σ := Nat × Hp) (fun s => [(14, .int .i64 s.1), (12, .pointer (some ⟨H.next, 0, none⟩)), (13, .int .i64 0), (0, .slice a l.length l.length), (1, .int .i64 w.kind), (2, .int .i64 w.tel), (3, .int .i64 w.fil), (4, .int .i64 w.at_), (5, .int .i64 w.known)]) (fun s => s.2)
    (fun s => s.1 ≤ l.length ∧ Keeps H1 s.2 ∧ (l.take s.1).any (fun c => !c.ok) = false) (fun s => l.length - s.1) (0, H1) ⟨Nat.zero_le _, Keeps.refl _, rfl⟩ (Weak.sub ?_) ?_
  · (simp -implicitDefEqProofs (disch := omega) only [Abs.Sub, get_cons_eq, get_cons_ne, and_self, Option.some.injEq, Value.int.injEq, Value.slice.injEq, true_and, and_true, Int.natCast_zero, Int.natCast_add, Int.natCast_one, List.length_nil]; try omega)
  rintro ⟨i, G⟩ ⟨hi, hk, hno⟩
  simp only at hi hk hno ⊢
  have hkn := hk.next
  refine AWP_of_awp ?_
  have gG : G.get H.next = .row [.int .i64 0, .int .i64 0, .int .i64 0, .int .i64 0] true 0 := (hk.get _ (by omega)).trans g1
  by_cases hlt : i < l.length
  · obtain ⟨b, o, rfl, hload⟩ := cal_at ((he.grows k1.grows).grows hk.grows) i hlt
    have hc := hva G l[i]
    have hmem : l[i] ∈ l := List.getElem_mem hlt
    have hat := @any_take _ (fun c : Cal => !c.ok) l i hlt hno
    generalize l[i] = c at *
    rw [cal_agg] at hc
    rw [Cal.cells] at hload
    have kg : Keeps G (G.new (.row c.cells true 0)) := Keeps.new _ _
    have gG2 : (G.new (.row c.cells true 0)).get H.next = .row [.int .i64 0, .int .i64 0, .int .i64 0, .int .i64 0] true 0 := (kg.get _ (by omega)).trans gG
    generalize G.new (.row c.cells true 0) = G2 at *
    simp -implicitDefEqProofs (maxSteps := 2000000) (disch := first | omega | (simp only [nx_new, nx_set, List.length_cons, List.length_nil, List.length_map, List.length_set, ne_eq, not_true_eq_false, not_false_eq_true, Nat.succ_ne_zero]; done) | (simp only [nx_new, nx_set, List.length_cons, List.length_nil, List.length_map, List.length_set, ne_eq, not_true_eq_false, not_false_eq_true, Nat.succ_ne_zero]; omega)) only [go_sem, reduceIte, reduceCtorEq, Nat.succ_ne_zero, not_false_eq_true, decide_true, decide_false, Nat.reduceAdd, Nat.reduceMul, Nat.reduceEqDiff, Nat.reduceLeDiff, hload]
    refine ACalls.use_eq hc ?_
    cases hb : c.ok with
    | false =>
      simp -implicitDefEqProofs (maxSteps := 2000000) (disch := first | omega | (simp only [nx_new, nx_set, List.length_cons, List.length_nil, List.length_map, List.length_set, ne_eq, not_true_eq_false, not_false_eq_true, Nat.succ_ne_zero]; done) | (simp only [nx_new, nx_set, List.length_cons, List.length_nil, List.length_map, List.length_set, ne_eq, not_true_eq_false, not_false_eq_true, Nat.succ_ne_zero]; omega)) only [go_sem, reduceIte, reduceCtorEq, Nat.succ_ne_zero, not_false_eq_true, decide_true, decide_false, Nat.reduceAdd, Nat.reduceMul, Nat.reduceEqDiff, Nat.reduceLeDiff, gG2]
      refine ret_r (v := .tuple #[pxs 0 0 0 0, .int .i64 1]) (by rw [ares_cell_tmp ret12]; simp -implicitDefEqProofs (maxSteps := 2000000) (disch := first | omega | (simp only [nx_new, nx_set, List.length_cons, List.length_nil, List.length_map, List.length_set, ne_eq, not_true_eq_false, not_false_eq_true, Nat.succ_ne_zero]; done) | (simp only [nx_new, nx_set, List.length_cons, List.length_nil, List.length_map, List.length_set, ne_eq, not_true_eq_false, not_false_eq_true, Nat.succ_ne_zero]; omega)) only [go_sem, reduceIte, reduceCtorEq, Nat.succ_ne_zero, not_false_eq_true, decide_true, decide_false, Nat.reduceAdd, Nat.reduceMul, Nat.reduceEqDiff, Nat.reduceLeDiff]; rfl) ⟨.inl ⟨?_, rfl⟩, Keeps.setR ((k1.trans hk).trans kg) (by omega)⟩
      rw [okAll, (List.any_eq_true.2 ⟨_, hmem, by rw [hb]; rfl⟩ : (l.any fun c => !c.ok) = true)]; rfl
    | true =>
      simp -implicitDefEqProofs (maxSteps := 2000000) (disch := first | omega | (simp only [nx_new, nx_set, List.length_cons, List.length_nil, List.length_map, List.length_set, ne_eq, not_true_eq_false, not_false_eq_true, Nat.succ_ne_zero]; done) | (simp only [nx_new, nx_set, List.length_cons, List.length_nil, List.length_map, List.length_set, ne_eq, not_true_eq_false, not_false_eq_true, Nat.succ_ne_zero]; omega)) only [go_sem, reduceIte, reduceCtorEq, Nat.succ_ne_zero, not_false_eq_true, decide_true, decide_false, Nat.reduceAdd, Nat.reduceMul, Nat.reduceEqDiff, Nat.reduceLeDiff]
      exact ⟨(i + 1, G2), ⟨hlt, hk.trans kg, hat (by rw [hb]; rfl)⟩, by simp only; omega, Weak.sub (by (simp -implicitDefEqProofs (disch := omega) only [Abs.Sub, get_cons_eq, get_cons_ne, and_self, Option.some.injEq, Value.int.injEq, Value.slice.injEq, true_and, and_true, Int.natCast_zero, Int.natCast_add, Int.natCast_one, List.length_nil]; try omega))⟩
  · obtain rfl : i = l.length := by omega
    rw [List.take_of_length_le (Nat.le_refl _)] at hno
    have hvG := hvw G
    simp only [Want.cal, cal_agg, Cal.cells] at hvG
    have kg : Keeps G (G.new (.row [.int .i64 w.kind, .int .i64 w.tel, .int .i64 w.fil, .int .i64 w.at_, .int .i64 w.known, .int .i64 0, .int .i64 0, .int .i64 0, .int .i64 0] true 0)) := Keeps.new _ _
    have gG2 := (kg.get _ (show H.next < G.next by omega)).trans gG
    generalize G.new (.row [.int .i64 w.kind, .int .i64 w.tel, .int .i64 w.fil, .int .i64 w.at_, .int .i64 w.known, .int .i64 0, .int .i64 0, .int .i64 0, .int .i64 0] true 0) = G2 at *
    have kG2 := (k1.trans hk).trans kg
    have nG2 := kg.next
    simp -implicitDefEqProofs (maxSteps := 2000000) (disch := first | omega | (simp only [nx_new, nx_set, List.length_cons, List.length_nil, List.length_map, List.length_set, ne_eq, not_true_eq_false, not_false_eq_true, Nat.succ_ne_zero]; done) | (simp only [nx_new, nx_set, List.length_cons, List.length_nil, List.length_map, List.length_set, ne_eq, not_true_eq_false, not_false_eq_true, Nat.succ_ne_zero]; omega)) only [go_sem, reduceIte, reduceCtorEq, Nat.succ_ne_zero, not_false_eq_true, decide_true, decide_false, Nat.reduceAdd, Nat.reduceMul, Nat.reduceEqDiff, Nat.reduceLeDiff]
    refine ACalls.use_eq hvG ?_
    cases hb : w.cal.ok with
    | false =>
      simp only [Want.cal] at hb
      rw [hb]
      simp -implicitDefEqProofs (maxSteps := 2000000) (disch := first | omega | (simp only [nx_new, nx_set, List.length_cons, List.length_nil, List.length_map, List.length_set, ne_eq, not_true_eq_false, not_false_eq_true, Nat.succ_ne_zero]; done) | (simp only [nx_new, nx_set, List.length_cons, List.length_nil, List.length_map, List.length_set, ne_eq, not_true_eq_false, not_false_eq_true, Nat.succ_ne_zero]; omega)) only [go_sem, reduceIte, reduceCtorEq, Nat.succ_ne_zero, not_false_eq_true, decide_true, decide_false, Nat.reduceAdd, Nat.reduceMul, Nat.reduceEqDiff, Nat.reduceLeDiff, gG2]
      refine ret_r (v := .tuple #[pxs 0 0 0 0, .int .i64 1]) (by rw [ares_cell_tmp ret12]; simp -implicitDefEqProofs (maxSteps := 2000000) (disch := first | omega | (simp only [nx_new, nx_set, List.length_cons, List.length_nil, List.length_map, List.length_set, ne_eq, not_true_eq_false, not_false_eq_true, Nat.succ_ne_zero]; done) | (simp only [nx_new, nx_set, List.length_cons, List.length_nil, List.length_map, List.length_set, ne_eq, not_true_eq_false, not_false_eq_true, Nat.succ_ne_zero]; omega)) only [go_sem, reduceIte, reduceCtorEq, Nat.succ_ne_zero, not_false_eq_true, decide_true, decide_false, Nat.reduceAdd, Nat.reduceMul, Nat.reduceEqDiff, Nat.reduceLeDiff]; rfl) ⟨.inl ⟨?_, rfl⟩, Keeps.setR kG2 (by omega)⟩
      rw [okAll, Want.cal, hb, Bool.and_false]
    | true =>
      have hok : okAll l w = true := by rw [okAll, hno, hb]; rfl
      simp only [Want.cal] at hb
      rw [hb]
      simp -implicitDefEqProofs (maxSteps := 2000000) (disch := first | omega | (simp only [nx_new, nx_set, List.length_cons, List.length_nil, List.length_map, List.length_set, ne_eq, not_true_eq_false, not_false_eq_true, Nat.succ_ne_zero]; done) | (simp only [nx_new, nx_set, List.length_cons, List.length_nil, List.length_map, List.length_set, ne_eq, not_true_eq_false, not_false_eq_true, Nat.succ_ne_zero]; omega)) only [go_sem, reduceIte, reduceCtorEq, Nat.succ_ne_zero, not_false_eq_true, decide_true, decide_false, Nat.reduceAdd, Nat.reduceMul, Nat.reduceEqDiff, Nat.reduceLeDiff]
      refine (latest_spec G2 a l w S hl (he.grows kG2.grows) hp hs).mono ?_
      rintro _ G3 ⟨k3, o, rfl, ho⟩
      have n3 := k3.next
      have gG3 := (k3.get _ (show H.next < G2.next by omega)).trans gG2
      have hSl : (S.take 5).length = 0 ↔ S = [] := by
        rw [List.length_take]
        constructor
        · intro h
          exact List.eq_nil_of_length_eq_zero (by omega)
        · rintro rfl; simp
      by_cases hS0 : (S.take 5).length = 0
      · simp -implicitDefEqProofs (maxSteps := 2000000) (disch := first | omega | (simp only [nx_new, nx_set, List.length_cons, List.length_nil, List.length_map, List.length_set, ne_eq, not_true_eq_false, not_false_eq_true, Nat.succ_ne_zero]; done) | (simp only [nx_new, nx_set, List.length_cons, List.length_nil, List.length_map, List.length_set, ne_eq, not_true_eq_false, not_false_eq_true, Nat.succ_ne_zero]; omega)) only [go_sem, reduceIte, reduceCtorEq, Nat.succ_ne_zero, not_false_eq_true, decide_true, decide_false, Nat.reduceAdd, Nat.reduceMul, Nat.reduceEqDiff, Nat.reduceLeDiff, gG3]
        refine ret_r (v := .tuple #[pxs 0 0 0 0, .int .i64 10]) (by rw [ares_cell_tmp ret12]; simp -implicitDefEqProofs (maxSteps := 2000000) (disch := first | omega | (simp only [nx_new, nx_set, List.length_cons, List.length_nil, List.length_map, List.length_set, ne_eq, not_true_eq_false, not_false_eq_true, Nat.succ_ne_zero]; done) | (simp only [nx_new, nx_set, List.length_cons, List.length_nil, List.length_map, List.length_set, ne_eq, not_true_eq_false, not_false_eq_true, Nat.succ_ne_zero]; omega)) only [go_sem, reduceIte, reduceCtorEq, Nat.succ_ne_zero, not_false_eq_true, decide_true, decide_false, Nat.reduceAdd, Nat.reduceMul, Nat.reduceEqDiff, Nat.reduceLeDiff]; rfl) ⟨.inr (.inl ⟨hok, hSl.1 hS0, rfl⟩), Keeps.setR (kG2.trans k3) (by omega)⟩
      have hSn : S ≠ [] := fun h => hS0 (hSl.2 h)
      have hel := ho.elems (pcs_len _ _) (by decide)
      have h5 : (S.take 5).length ≤ 5 := by rw [List.length_take]; omega
      have hR : ∀ v, v = .tuple #[pxs (rp l S 0) (rp l S 1) (rp l S 2) (rp l S 3), .int .i64 0] → RefR l w S v := fun v h => .inr (.inr ⟨hok, hSn, h⟩)
      have hrp : ∀ p, rp l S p = med ((S.take 5).map fun i => (lat l i).pix p) := fun p => rfl
      generalize S.take 5 = T at *
      simp -implicitDefEqProofs (maxSteps := 2000000) (disch := first | omega | (simp only [nx_new, nx_set, List.length_cons, List.length_nil, List.length_map, List.length_set, ne_eq, not_true_eq_false, not_false_eq_true, Nat.succ_ne_zero]; done) | (simp only [nx_new, nx_set, List.length_cons, List.length_nil, List.length_map, List.length_set, ne_eq, not_true_eq_false, not_false_eq_true, Nat.succ_ne_zero]; omega)) only [go_sem, reduceIte, reduceCtorEq, Nat.succ_ne_zero, not_false_eq_true, decide_true, decide_false, Nat.reduceAdd, Nat.reduceMul, Nat.reduceEqDiff, Nat.reduceLeDiff]
      obtain ⟨M0, e0⟩ : ∃ X, X = G3.new (.row [.int .i64 0, .int .i64 0, .int .i64 0, .int .i64 0] true 0) := ⟨_, rfl⟩
      rw [← e0]
      have kM : Keeps G3 M0 := by rw [e0]; exact Keeps.new _ _
      have nM : M0.next = G3.next + 1 := by rw [e0]; rfl
      have y16 : M0.get G3.next = .row (pixR (rp l S) 0) true 0 := by rw [e0]; exact Hp.get_new_same _ _ _ rfl
      have y12 := (kM.get _ (show H.next < G3.next by omega)).trans gG3
      have helM := hel.grows kM.grows
      have hplt := fun x hx => pcs_len l T x hx
      clear e0
      refine AWP_loop (σ := Nat × Hp) (fun s => [(17, .int .i64 s.1), (15, .slice o T.length T.length), (16, .pointer (some ⟨G3.next, 0, none⟩)), (12, .pointer (some ⟨H.next, 0, none⟩))]) (fun s => s.2)
        (fun s => s.1 ≤ 4 ∧ KX G3.next M0 s.2 ∧ s.2.get G3.next = .row (pixR (rp l S) s.1) true 0) (fun s => 4 - s.1) (0, M0) ⟨Nat.zero_le _, KX.refl _ _, y16⟩ (Weak.sub ?_) ?_
      · (simp -implicitDefEqProofs (disch := omega) only [Abs.Sub, get_cons_eq, get_cons_ne, and_self, Option.some.injEq, Value.int.injEq, Value.slice.injEq, true_and, and_true, Int.natCast_zero, Int.natCast_add, Int.natCast_one, List.length_nil]; try omega)
      rintro ⟨k, G⟩ ⟨hk4, hx, h16⟩
      simp only at hk4 hx h16 ⊢
      refine AWP_of_awp ?_
      have hxn := hx.1
      by_cases hlt4 : k < 4
      · simp -implicitDefEqProofs (maxSteps := 2000000) (disch := first | omega | (simp only [nx_new, nx_set, List.length_cons, List.length_nil, List.length_map, List.length_set, ne_eq, not_true_eq_false, not_false_eq_true, Nat.succ_ne_zero]; done) | (simp only [nx_new, nx_set, List.length_cons, List.length_nil, List.length_map, List.length_set, ne_eq, not_true_eq_false, not_false_eq_true, Nat.succ_ne_zero]; omega)) only [go_sem, reduceIte, reduceCtorEq, Nat.succ_ne_zero, not_false_eq_true, decide_true, decide_false, Nat.reduceAdd, Nat.reduceMul, Nat.reduceEqDiff, Nat.reduceLeDiff]
        refine AWP_loop (σ := Nat × Hp × Option Addr) (fun s => [(19, .int .i64 s.1), (18, .slice s.2.2 s.1 s.1), (17, .int .i64 k), (15, .slice o T.length T.length), (16, .pointer (some ⟨G3.next, 0, none⟩)), (12, .pointer (some ⟨H.next, 0, none⟩))]) (fun s => s.2.1)
          (fun s => s.1 ≤ T.length ∧ KX G3.next M0 s.2.1 ∧ s.2.1.get G3.next = .row (pixR (rp l S) k) true 0 ∧ OwnSl (G3.next + 1) s.2.1 s.2.2 1 (((T.take s.1).map fun i => (lat l i).pix k).map ic).flatten)
          (fun s => T.length - s.1) (0, G, none) ⟨Nat.zero_le _, hx, h16, OwnSl.none⟩ (Weak.sub ?_) ?_
        · (simp -implicitDefEqProofs (disch := omega) only [Abs.Sub, get_cons_eq, get_cons_ne, and_self, Option.some.injEq, Value.int.injEq, Value.slice.injEq, true_and, and_true, Int.natCast_zero, Int.natCast_add, Int.natCast_one, List.length_nil]; try omega)
        rintro ⟨j, G8, o8⟩ ⟨hj, hx8, h168, ho8⟩
        simp only at hj hx8 h168 ho8 ⊢
        refine AWP_of_awp ?_
        have hx8n := hx8.1
        by_cases hjm : j < T.length
        · obtain ⟨b, ob, eo, hbn, hload⟩ := hel j (by rw [pcs, List.length_map]; exact hjm)
          subst eo
          have hbq : b ≠ G3.next := by omega
          have hld8 : load1 G8 ⟨b, ob + j * 4 + k, none⟩ = some (.int .i64 ((lat l T[j]).pix k)) := by
            have h1 : aload G8 ⟨b, ob + j * 4, none⟩ 4 = some (lat l T[j]).pc := by
              have h2 := aload_grows' kM.grows hbn hload
              simp only [aload, hx8.2 b (by omega) hbq] at h2 ⊢
              rw [h2]; simp [pcs]
            exact (load1_part h1 hlt4).trans (pc_cell _ hlt4)
          have htk : (T.take (j + 1)).map (fun i => (lat l i).pix k) = (T.take j).map (fun i => (lat l i).pix k) ++ [(lat l T[j]).pix k] := by
            rw [List.take_succ_eq_append_getElem hjm, List.map_append]; rfl
          have hvl : ((T.take j).map (fun i => (lat l i).pix k)).length = j := by rw [List.length_map, List.length_take]; omega
          generalize (T.take j).map (fun i => (lat l i).pix k) = vs at *
          generalize (lat l T[j]).pix k = x at *
          obtain ⟨G9, happ, n9, g9, hold⟩ := append_own (P := Try.prog) u23 u23 ts3 tb3 tz3 rfl (by decide) (by decide) (G := G8.new (.row [.int .i64 x] true 1)) (lo := G3.next + 1) (n := j) (c := j) (m := 1) (c' := 1) (r := G8.next) (ro := 0) (xs := [.int .i64 x]) (ho8.keeps (Keeps.new _ _))
            (by simp -implicitDefEqProofs (maxSteps := 2000000) (disch := first | omega | (simp only [nx_new, nx_set, List.length_cons, List.length_nil, List.length_map, List.length_set, ne_eq, not_true_eq_false, not_false_eq_true, Nat.succ_ne_zero]; done) | (simp only [nx_new, nx_set, List.length_cons, List.length_nil, List.length_map, List.length_set, ne_eq, not_true_eq_false, not_false_eq_true, Nat.succ_ne_zero]; omega)) only [go_sem, reduceIte, reduceCtorEq, Nat.succ_ne_zero, not_false_eq_true, decide_true, decide_false, Nat.reduceAdd, Nat.reduceMul, Nat.reduceEqDiff, Nat.reduceLeDiff]) rfl (by decide) (by rw [ic_flat, List.length_map, hvl, Nat.mul_one]) (by omega)
          have n9' : G9.next = G8.next + 1 + 1 := n9
          have g9' : G9.get (G8.next + 1) = .row ((vs.map ic).flatten ++ [.int .i64 x]) true 1 := g9
          have hold' : ∀ b, b < G3.next + 1 → G9.get b = G8.get b := fun b hb => by
            rw [hold b (by simp only [Hp.next_new]; omega) (ho8.lo_ne hb), Hp.get_new_ne _ _ _ (by omega)]
          simp -implicitDefEqProofs (maxSteps := 2000000) (disch := first | omega | (simp only [nx_new, nx_set, List.length_cons, List.length_nil, List.length_map, List.length_set, ne_eq, not_true_eq_false, not_false_eq_true, Nat.succ_ne_zero]; done) | (simp only [nx_new, nx_set, List.length_cons, List.length_nil, List.length_map, List.length_set, ne_eq, not_true_eq_false, not_false_eq_true, Nat.succ_ne_zero]; omega)) only [go_sem, reduceIte, reduceCtorEq, Nat.succ_ne_zero, not_false_eq_true, decide_true, decide_false, Nat.reduceAdd, Nat.reduceMul, Nat.reduceEqDiff, Nat.reduceLeDiff, hld8]
          rw [happ]
          simp -implicitDefEqProofs (maxSteps := 2000000) (disch := first | omega | (simp only [nx_new, nx_set, List.length_cons, List.length_nil, List.length_map, List.length_set, ne_eq, not_true_eq_false, not_false_eq_true, Nat.succ_ne_zero]; done) | (simp only [nx_new, nx_set, List.length_cons, List.length_nil, List.length_map, List.length_set, ne_eq, not_true_eq_false, not_false_eq_true, Nat.succ_ne_zero]; omega)) only [go_sem, reduceIte, reduceCtorEq, Nat.succ_ne_zero, not_false_eq_true, decide_true, decide_false, Nat.reduceAdd, Nat.reduceMul, Nat.reduceEqDiff, Nat.reduceLeDiff]
          refine ⟨(j + 1, G9, some ⟨G8.next + 1, 0, none⟩), ⟨hjm, ⟨by simp only; omega, fun b hb hq => ?_⟩, ?_, .inr ⟨G8.next + 1, rfl, by omega, by simp only; omega, ?_⟩⟩, by (first | omega | (simp only; omega)), Weak.sub (by (simp -implicitDefEqProofs (disch := omega) only [Abs.Sub, get_cons_eq, get_cons_ne, and_self, Option.some.injEq, Value.int.injEq, Value.slice.injEq, true_and, and_true, Int.natCast_zero, Int.natCast_add, Int.natCast_one, List.length_nil]; try omega))⟩
          · rw [hold' b (by omega)]; exact hx8.2 b hb hq
          · rw [hold' _ (by omega)]; exact h168
          · rw [g9', htk, List.map_append, List.flatten_append]; rfl
        · obtain rfl : j = T.length := by omega
          rw [List.take_of_length_le (Nat.le_refl _)] at ho8
          have hvl : (T.map (fun i => (lat l i).pix k)).length = T.length := List.length_map _
          have hmv : medV (T.map (fun i => (lat l i).pix k)) = rp l S k := by
            rw [medV, hvl, if_neg (by omega), if_neg (by omega), hrp]
          have md := refmed_spec G8 o8 (T.map (fun i => (lat l i).pix k)) (by omega) (ho8.elems (ic_len _) (by decide))
          rw [hvl, hmv] at md
          have hps := pixR_set (rp l S) hlt4
          have hpl := pixR_len (rp l S) k
          simp -implicitDefEqProofs (maxSteps := 2000000) (disch := first | omega | (simp only [nx_new, nx_set, List.length_cons, List.length_nil, List.length_map, List.length_set, ne_eq, not_true_eq_false, not_false_eq_true, Nat.succ_ne_zero]; done) | (simp only [nx_new, nx_set, List.length_cons, List.length_nil, List.length_map, List.length_set, ne_eq, not_true_eq_false, not_false_eq_true, Nat.succ_ne_zero]; omega)) only [go_sem, reduceIte, reduceCtorEq, Nat.succ_ne_zero, not_false_eq_true, decide_true, decide_false, Nat.reduceAdd, Nat.reduceMul, Nat.reduceEqDiff, Nat.reduceLeDiff]
          refine ACalls.use_eq md ?_
          simp -implicitDefEqProofs (maxSteps := 2000000) (disch := first | omega | (simp only [nx_new, nx_set, List.length_cons, List.length_nil, List.length_map, List.length_set, ne_eq, not_true_eq_false, not_false_eq_true, Nat.succ_ne_zero]; done) | (simp only [nx_new, nx_set, List.length_cons, List.length_nil, List.length_map, List.length_set, ne_eq, not_true_eq_false, not_false_eq_true, Nat.succ_ne_zero]; omega)) only [go_sem, reduceIte, reduceCtorEq, Nat.succ_ne_zero, not_false_eq_true, decide_true, decide_false, Nat.reduceAdd, Nat.reduceMul, Nat.reduceEqDiff, Nat.reduceLeDiff, h168, hpl]
          rw [hps]
          exact ⟨(k + 1, G8.set G3.next (.row (pixR (rp l S) (k + 1)) true 0)), ⟨hlt4, hx8.set _, Hp.get_set_same _ _ _ _ rfl⟩, by (first | omega | (simp only; omega)), Weak.sub (by (simp -implicitDefEqProofs (disch := omega) only [Abs.Sub, get_cons_eq, get_cons_ne, and_self, Option.some.injEq, Value.int.injEq, Value.slice.injEq, true_and, and_true, Int.natCast_zero, Int.natCast_add, Int.natCast_one, List.length_nil]; try omega))⟩
      · obtain rfl : k = 4 := by omega
        have l16 : aload G ⟨G3.next, 0, none⟩ 4 = some [.int .i64 (rp l S 0), .int .i64 (rp l S 1), .int .i64 (rp l S 2), .int .i64 (rp l S 3)] := (aload_row h16 (by simp [pixR])).trans rfl
        have h12 : G.get H.next = _ := (hx.2 _ (by omega) (by omega)).trans y12
        simp -implicitDefEqProofs (maxSteps := 2000000) (disch := first | omega | (simp only [nx_new, nx_set, List.length_cons, List.length_nil, List.length_map, List.length_set, ne_eq, not_true_eq_false, not_false_eq_true, Nat.succ_ne_zero]; done) | (simp only [nx_new, nx_set, List.length_cons, List.length_nil, List.length_map, List.length_set, ne_eq, not_true_eq_false, not_false_eq_true, Nat.succ_ne_zero]; omega)) only [go_sem, reduceIte, reduceCtorEq, Nat.succ_ne_zero, not_false_eq_true, decide_true, decide_false, Nat.reduceAdd, Nat.reduceMul, Nat.reduceEqDiff, Nat.reduceLeDiff, l16, h12]
        refine ret_r (v := .tuple #[pxs (rp l S 0) (rp l S 1) (rp l S 2) (rp l S 3), .int .i64 0]) (by rw [ares_cell_tmp ret12]; simp -implicitDefEqProofs (maxSteps := 2000000) (disch := first | omega | (simp only [nx_new, nx_set, List.length_cons, List.length_nil, List.length_map, List.length_set, ne_eq, not_true_eq_false, not_false_eq_true, Nat.succ_ne_zero]; done) | (simp only [nx_new, nx_set, List.length_cons, List.length_nil, List.length_map, List.length_set, ne_eq, not_true_eq_false, not_false_eq_true, Nat.succ_ne_zero]; omega)) only [go_sem, reduceIte, reduceCtorEq, Nat.succ_ne_zero, not_false_eq_true, decide_true, decide_false, Nat.reduceAdd, Nat.reduceMul, Nat.reduceEqDiff, Nat.reduceLeDiff]; rfl) ⟨hR _ rfl, Keeps.setR ⟨by have := kG2.next; omega, fun b hb => ?_⟩ (by omega)⟩
        rw [hx.2 b (by omega) (by omega), kM.get b (by omega), k3.get b (by omega)]
        exact kG2.get b hb
end Go.Proofs.Ytejpfdhlpcgfkaa
