/- Master. -/
import Derived.Test.YtejpfdhlpcgfkaaVf
set_option linter.unusedVariables false
set_option linter.unusedSimpArgs false
set_option linter.unusedSectionVars false
namespace Go.Proofs.Ytejpfdhlpcgfkaa
open Go.Abs Go.Sm
set_option maxHeartbeats 8000000
set_option maxRecDepth 100000
def Want.cal (w : Want) : Cal := ⟨w.kind, w.tel, w.fil, w.at_, w.known, 0, 0, 0, 0⟩
def okAll (l : List Cal) (w : Want) : Bool := !(l.any fun c => !c.ok) && w.cal.ok
def usedL (l : List Cal) (w : Want) : List Cal := l.reverse.filter w.app
def Cal.pix (c : Cal) (p : Nat) : Int := c.vals.getD p 0
/-- The numbers of the used ones, the latest first. -/
def Order (u : List Cal) (Y : List Nat) : Prop := Y.Perm (List.range u.length) ∧ Y.Pairwise (bf fun i => -(u.getD i cal0).at_)
def pixV (u : List Cal) (Y : List Nat) (p : Nat) : Int := med ((Y.take 5).map fun i => (u.getD i cal0).pix p)
def pxs (a b c d : Int) : Value := .agg #[.int .i64 a, .int .i64 b, .int .i64 c, .int .i64 d]
def MasterR (l : List Cal) (w : Want) (v : Value) : Prop :=
  (okAll l w = false ∧ v = .tuple #[pxs 0 0 0 0, .int .i64 1]) ∨ (okAll l w = true ∧ usedL l w = [] ∧ v = .tuple #[pxs 0 0 0 0, .int .i64 10]) ∨
    (okAll l w = true ∧ usedL l w ≠ [] ∧ ∃ Y, Order (usedL l w) Y ∧ v = .tuple #[pxs (pixV (usedL l w) Y 0) (pixV (usedL l w) Y 1) (pixV (usedL l w) Y 2) (pixV (usedL l w) Y 3), .int .i64 0])
/-- Between two rounds of the range over Backward. -/
def mI (G2 : Hp) (a : Option Addr) (clo : Value) (l : List Cal) (w : Want) (i : Nat) (G : Hp) : Prop :=
  Keeps G2 G ∧ G2.next + 2 < G.next ∧ G.get G2.next = .row [clo] true 0 ∧ G.get (G2.next + 2) = .row [.slice a l.length l.length] true 0 ∧
    ∃ o, G.get (G2.next + 1) = .row [.slice o ((l.reverse.take i).filter w.app).length ((l.reverse.take i).filter w.app).length] true 0 ∧ OwnSl (G2.next + 3) G o 9 (((l.reverse.take i).filter w.app).map Cal.cells).flatten
theorem cals_flat (l : List Cal) : ((l.map Cal.cells).flatten).length = l.length * 9 := by rw [flat_len (cells_len l), List.length_map]
theorem rw9_range (u : List Cal) : rw9 (fun i => u.getD i cal0) (List.range u.length) = (u.map Cal.cells).flatten := by
  have e : (List.range u.length).map (enc fun i => u.getD i cal0) = u.map Cal.cells := by
    apply List.ext_getElem
    · simp
    · intro i h1 h2
      have hi : i < u.length := by simpa using h2
      simp [enc, List.getElem?_eq_getElem hi]
  rw [rw9, e]
theorem used_ok {l : List Cal} {w : Want} (h : okAll l w = true) : ∀ c, c ∈ usedL l w → c.ok = true := fun c hc => by
  simp only [okAll, Bool.and_eq_true, Bool.not_eq_true'] at h
  have h1 := (List.mem_filter.1 hc).1
  rw [List.mem_reverse] at h1
  cases hk : c.ok with
  | true => rfl
  | false => exact absurd (List.any_eq_true.2 ⟨c, h1, by simp [hk]⟩ : (l.any fun c => !c.ok) = true) (by rw [h.1]; decide)
theorem ok_at {c : Cal} (h : c.ok = true) : 0 ≤ c.at_ ∧ c.at_ ≤ 38399 := by
  simp only [Cal.ok, momB, Bool.and_eq_true, decide_eq_true_eq] at h
  exact h.1.1.2
theorem cmp_used {u : List Cal} (h : ∀ c, c ∈ u → c.ok = true) : Cmp9 (fun i => u.getD i cal0) u.length (fun i => -(u.getD i cal0).at_) := fun H x y hx hy => by
  refine (later_spec H _ _).mono ?_
  rintro v H' ⟨rfl, hk⟩
  refine ⟨?_, hk⟩
  have hb : ∀ i, i < u.length → 0 ≤ (u.getD i cal0).at_ ∧ (u.getD i cal0).at_ ≤ 38399 := fun i hi => by
    rw [List.getD_eq_getElem?_getD, List.getElem?_eq_getElem hi]
    exact ok_at (h _ (List.getElem_mem hi))
  have h1 := hb x hx
  have h2 := hb y hy
  show Value.int .i64 (IntKind.i64.wrap ((u.getD y cal0).at_ - (u.getD x cal0).at_)) = .int .i64 (-(u.getD x cal0).at_ - -(u.getD y cal0).at_)
  rw [wrap_i64 (by omega) (by omega)]
  congr 1
  omega
theorem slice22 {G : Hp} {p n m : Nat} {cs : List Value} (hg : G.get p = .row cs true 9) (hm : m ≤ n) : aslice Try.prog G 22 (.slice (some ⟨p, 0, none⟩) n n) none (some (.int .i64 m)) none = some (.slice (some ⟨p, 0, none⟩) m m) := by
  simp [aslice, u22, bnd, ts42, cutOk, hg, hm]
theorem pix_cell (c : Cal) {k : Nat} (hk : k < 4) : c.cells[5 + k]? = some (.int .i64 (c.pix k)) := by
  match k, hk with
  | 0, _ => rfl
  | 1, _ => rfl
  | 2, _ => rfl
  | 3, _ => rfl
def pixR (f : Nat → Int) (k : Nat) : List Value := (List.range 4).map fun j => .int .i64 (if j < k then f j else 0)
theorem pixR_len (f : Nat → Int) (k : Nat) : (pixR f k).length = 4 := rfl
theorem pixR_set (f : Nat → Int) {k : Nat} (hk : k < 4) : (pixR f k).set k (.int .i64 (f k)) = pixR f (k + 1) := by
  match k, hk with
  | 0, _ => rfl
  | 1, _ => rfl
  | 2, _ => rfl
  | 3, _ => rfl
theorem one_nil : Abs.one Value.nilFunc = true := by decide
theorem n11 : Try.f11.ntmps = 92 := rfl
theorem ret11 : Try.f11.results = #[.cell 12 27, .tmp 13] := rfl
theorem master_spec (H : Hp) (a : Option Addr) (l : List Cal) (w : Want) (hl : l.length ≤ 21) (he : Elems H a 9 (l.map Cal.cells)) :
    ACalls Try.prog 11 [.slice a l.length l.length, .int .i64 w.kind, .int .i64 w.tel, .int .i64 w.fil, .int .i64 w.at_, .int .i64 w.known] H (fun v H' => MasterR l w v ∧ Keeps H H') := by
  obtain ⟨wk, wt, wf, wa, wn⟩ := w
  refine ACalls_enter Try.func11 (by kernel_rfl) rfl (by kernel_rfl) (by simp [n11]) fun hw hr => AWP_step ?_
  simp -implicitDefEqProofs (maxSteps := 2000000) (disch := first | omega | (simp only [nx_new, nx_set, List.length_cons, List.length_nil, List.length_map, List.length_set, ne_eq, not_true_eq_false, not_false_eq_true, Nat.succ_ne_zero]; done) | (simp only [nx_new, nx_set, List.length_cons, List.length_nil, List.length_map, List.length_set, ne_eq, not_true_eq_false, not_false_eq_true, Nat.succ_ne_zero]; omega)) only [go_sem, reduceIte, reduceCtorEq, Nat.succ_ne_zero, not_false_eq_true, decide_true, decide_false, Nat.reduceAdd, Nat.reduceMul, Nat.reduceEqDiff, Nat.reduceLeDiff]
  refine AWP_step ?_
  simp -implicitDefEqProofs (maxSteps := 2000000) (disch := first | omega | (simp only [nx_new, nx_set, List.length_cons, List.length_nil, List.length_map, List.length_set, ne_eq, not_true_eq_false, not_false_eq_true, Nat.succ_ne_zero]; done) | (simp only [nx_new, nx_set, List.length_cons, List.length_nil, List.length_map, List.length_set, ne_eq, not_true_eq_false, not_false_eq_true, Nat.succ_ne_zero]; omega)) only [go_sem, reduceIte, reduceCtorEq, Nat.succ_ne_zero, not_false_eq_true, decide_true, decide_false, Nat.reduceAdd, Nat.reduceMul, Nat.reduceEqDiff, Nat.reduceLeDiff]
  refine AWP_step ?_
  simp -implicitDefEqProofs (maxSteps := 2000000) (disch := first | omega | (simp only [nx_new, nx_set, List.length_cons, List.length_nil, List.length_map, List.length_set, ne_eq, not_true_eq_false, not_false_eq_true, Nat.succ_ne_zero]; done) | (simp only [nx_new, nx_set, List.length_cons, List.length_nil, List.length_map, List.length_set, ne_eq, not_true_eq_false, not_false_eq_true, Nat.succ_ne_zero]; omega)) only [go_sem, reduceIte, reduceCtorEq, Nat.succ_ne_zero, not_false_eq_true, decide_true, decide_false, Nat.reduceAdd, Nat.reduceMul, Nat.reduceEqDiff, Nat.reduceLeDiff]
  refine AWP_step ?_
  simp -implicitDefEqProofs (maxSteps := 2000000) (disch := first | omega | (simp only [nx_new, nx_set, List.length_cons, List.length_nil, List.length_map, List.length_set, ne_eq, not_true_eq_false, not_false_eq_true, Nat.succ_ne_zero]; done) | (simp only [nx_new, nx_set, List.length_cons, List.length_nil, List.length_map, List.length_set, ne_eq, not_true_eq_false, not_false_eq_true, Nat.succ_ne_zero]; omega)) only [go_sem, reduceIte, reduceCtorEq, Nat.succ_ne_zero, not_false_eq_true, decide_true, decide_false, Nat.reduceAdd, Nat.reduceMul, Nat.reduceEqDiff, Nat.reduceLeDiff]
  obtain ⟨H4, e4⟩ : ∃ X, X = (((H.new (.row [.int .i64 wa] true 0)).new (.row [.int .i64 wn] true 0)).new (.row [.int .i64 0, .int .i64 0, .int .i64 0, .int .i64 0] true 0)).new (.row [.int .i64 wk, .int .i64 wt, .int .i64 wf, .int .i64 wa] true 0) := ⟨_, rfl⟩
  rw [← e4]
  have n4 : H4.next = H.next + 4 := by rw [e4]; rfl
  have k4 : Keeps H H4 := by rw [e4]; exact (((Keeps.new _ _).trans (Keeps.new _ _)).trans (Keeps.new _ _)).trans (Keeps.new _ _)
  have g0 : H4.get H.next = .row [.int .i64 wa] true 0 := by
    rw [e4, Hp.get_new_ne _ _ _ (by simp only [Hp.next_new]; omega), Hp.get_new_ne _ _ _ (by simp only [Hp.next_new]; omega), Hp.get_new_ne _ _ _ (by simp only [Hp.next_new]; omega)]
    exact Hp.get_new_same _ _ _ rfl
  have g1 : H4.get (H.next + 1) = .row [.int .i64 wn] true 0 := by
    rw [e4, Hp.get_new_ne _ _ _ (by simp only [Hp.next_new]; omega), Hp.get_new_ne _ _ _ (by simp only [Hp.next_new]; omega)]
    exact Hp.get_new_same _ _ _ rfl
  have g2 : H4.get (H.next + 2) = .row [.int .i64 0, .int .i64 0, .int .i64 0, .int .i64 0] true 0 := by
    rw [e4, Hp.get_new_ne _ _ _ (by simp only [Hp.next_new]; omega)]
    exact Hp.get_new_same _ _ _ rfl
  have g3 : H4.get (H.next + 3) = .row [.int .i64 wk, .int .i64 wt, .int .i64 wf, .int .i64 wa] true 0 := by
    rw [e4]
    exact Hp.get_new_same _ _ _ rfl
  clear e4
  refine (contains19_spec H4 a l (by omega) (he.grows k4.grows)).mono ?_
  rintro _ G1 ⟨rfl, k1⟩
  have n1 := k1.next
  have m0 : G1.get H.next = .row [.int .i64 wa] true 0 := by rw [k1.get _ (by omega)]; exact g0
  have m1 : G1.get (H.next + 1) = .row [.int .i64 wn] true 0 := by rw [k1.get _ (by omega)]; exact g1
  have m2 : G1.get (H.next + 2) = .row [.int .i64 0, .int .i64 0, .int .i64 0, .int .i64 0] true 0 := by rw [k1.get _ (by omega)]; exact g2
  have m3 : G1.get (H.next + 3) = .row [.int .i64 wk, .int .i64 wt, .int .i64 wf, .int .i64 wa] true 0 := by rw [k1.get _ (by omega)]; exact g3
  have kk : Keeps H G1 := k4.trans k1
  simp -implicitDefEqProofs (maxSteps := 2000000) (disch := first | omega | (simp only [nx_new, nx_set, List.length_cons, List.length_nil, List.length_map, List.length_set, ne_eq, not_true_eq_false, not_false_eq_true, Nat.succ_ne_zero]; done) | (simp only [nx_new, nx_set, List.length_cons, List.length_nil, List.length_map, List.length_set, ne_eq, not_true_eq_false, not_false_eq_true, Nat.succ_ne_zero]; omega)) only [go_sem, reduceIte, reduceCtorEq, Nat.succ_ne_zero, not_false_eq_true, decide_true, decide_false, Nat.reduceAdd, Nat.reduceMul, Nat.reduceEqDiff, Nat.reduceLeDiff]
  refine guardS_split (fun c0 => ?_) (fun c0 => ?_)
  · simp -implicitDefEqProofs (maxSteps := 2000000) (disch := first | omega | (simp only [nx_new, nx_set, List.length_cons, List.length_nil, List.length_map, List.length_set, ne_eq, not_true_eq_false, not_false_eq_true, Nat.succ_ne_zero]; done) | (simp only [nx_new, nx_set, List.length_cons, List.length_nil, List.length_map, List.length_set, ne_eq, not_true_eq_false, not_false_eq_true, Nat.succ_ne_zero]; omega)) only [go_sem, reduceIte, reduceCtorEq, Nat.succ_ne_zero, not_false_eq_true, decide_true, decide_false, Nat.reduceAdd, Nat.reduceMul, Nat.reduceEqDiff, Nat.reduceLeDiff, c0, m2]
    refine ret_r (v := .tuple #[pxs 0 0 0 0, .int .i64 1]) (by rw [ares_cell_tmp ret11]; simp -implicitDefEqProofs (maxSteps := 2000000) (disch := first | omega | (simp only [nx_new, nx_set, List.length_cons, List.length_nil, List.length_map, List.length_set, ne_eq, not_true_eq_false, not_false_eq_true, Nat.succ_ne_zero]; done) | (simp only [nx_new, nx_set, List.length_cons, List.length_nil, List.length_map, List.length_set, ne_eq, not_true_eq_false, not_false_eq_true, Nat.succ_ne_zero]; omega)) only [go_sem, reduceIte, reduceCtorEq, Nat.succ_ne_zero, not_false_eq_true, decide_true, decide_false, Nat.reduceAdd, Nat.reduceMul, Nat.reduceEqDiff, Nat.reduceLeDiff]; rfl) ⟨.inl ⟨?_, rfl⟩, Keeps.setR kk (by omega)⟩
    simp only [okAll, c0, Bool.not_true, Bool.false_and]
  have lw : aload G1 ⟨H.next + 3, 0, none⟩ 4 = some [.int .i64 wk, .int .i64 wt, .int .i64 wf, .int .i64 wa] := (aload_row m3 (by simp)).trans rfl
  have ln : load1 G1 ⟨H.next + 1, 0, none⟩ = some (.int .i64 wn) := (l1_row _ _ _ _ _ m1).trans rfl
  simp -implicitDefEqProofs (maxSteps := 2000000) (disch := first | omega | (simp only [nx_new, nx_set, List.length_cons, List.length_nil, List.length_map, List.length_set, ne_eq, not_true_eq_false, not_false_eq_true, Nat.succ_ne_zero]; done) | (simp only [nx_new, nx_set, List.length_cons, List.length_nil, List.length_map, List.length_set, ne_eq, not_true_eq_false, not_false_eq_true, Nat.succ_ne_zero]; omega)) only [go_sem, reduceIte, reduceCtorEq, Nat.succ_ne_zero, not_false_eq_true, decide_true, decide_false, Nat.reduceAdd, Nat.reduceMul, Nat.reduceEqDiff, Nat.reduceLeDiff, c0, lw, ln]
  have hv := valid_spec G1 (Want.cal ⟨wk, wt, wf, wa, wn⟩)
  rw [cal_agg] at hv
  simp only [Want.cal] at hv
  refine hv.mono ?_
  rintro _ G2 ⟨rfl, k2⟩
  have n2 := k2.next
  have p0 : G2.get H.next = .row [.int .i64 wa] true 0 := by rw [k2.get _ (by omega)]; exact m0
  have p1 : G2.get (H.next + 1) = .row [.int .i64 wn] true 0 := by rw [k2.get _ (by omega)]; exact m1
  have p2 : G2.get (H.next + 2) = .row [.int .i64 0, .int .i64 0, .int .i64 0, .int .i64 0] true 0 := by rw [k2.get _ (by omega)]; exact m2
  have p3 : G2.get (H.next + 3) = .row [.int .i64 wk, .int .i64 wt, .int .i64 wf, .int .i64 wa] true 0 := by rw [k2.get _ (by omega)]; exact m3
  have kk2 : Keeps H G2 := kk.trans k2
  clear hv lw ln m0 m1 m2 m3 g0 g1 g2 g3 kk k1 k2
  simp -implicitDefEqProofs (maxSteps := 2000000) (disch := first | omega | (simp only [nx_new, nx_set, List.length_cons, List.length_nil, List.length_map, List.length_set, ne_eq, not_true_eq_false, not_false_eq_true, Nat.succ_ne_zero]; done) | (simp only [nx_new, nx_set, List.length_cons, List.length_nil, List.length_map, List.length_set, ne_eq, not_true_eq_false, not_false_eq_true, Nat.succ_ne_zero]; omega)) only [go_sem, reduceIte, reduceCtorEq, Nat.succ_ne_zero, not_false_eq_true, decide_true, decide_false, Nat.reduceAdd, Nat.reduceMul, Nat.reduceEqDiff, Nat.reduceLeDiff]
  refine condS_split (fun c1 => ?_) (fun c1 => ?_)
  · simp -implicitDefEqProofs (maxSteps := 2000000) (disch := first | omega | (simp only [nx_new, nx_set, List.length_cons, List.length_nil, List.length_map, List.length_set, ne_eq, not_true_eq_false, not_false_eq_true, Nat.succ_ne_zero]; done) | (simp only [nx_new, nx_set, List.length_cons, List.length_nil, List.length_map, List.length_set, ne_eq, not_true_eq_false, not_false_eq_true, Nat.succ_ne_zero]; omega)) only [go_sem, reduceIte, reduceCtorEq, Nat.succ_ne_zero, not_false_eq_true, decide_true, decide_false, Nat.reduceAdd, Nat.reduceMul, Nat.reduceEqDiff, Nat.reduceLeDiff, c1, p2]
    refine ret_r (v := .tuple #[pxs 0 0 0 0, .int .i64 1]) (by rw [ares_cell_tmp ret11]; simp -implicitDefEqProofs (maxSteps := 2000000) (disch := first | omega | (simp only [nx_new, nx_set, List.length_cons, List.length_nil, List.length_map, List.length_set, ne_eq, not_true_eq_false, not_false_eq_true, Nat.succ_ne_zero]; done) | (simp only [nx_new, nx_set, List.length_cons, List.length_nil, List.length_map, List.length_set, ne_eq, not_true_eq_false, not_false_eq_true, Nat.succ_ne_zero]; omega)) only [go_sem, reduceIte, reduceCtorEq, Nat.succ_ne_zero, not_false_eq_true, decide_true, decide_false, Nat.reduceAdd, Nat.reduceMul, Nat.reduceEqDiff, Nat.reduceLeDiff]; rfl) ⟨.inl ⟨?_, rfl⟩, Keeps.setR kk2 (by omega)⟩
    simp only [okAll, Want.cal, c0, Bool.not_false, Bool.true_and]
    simpa using c1
  have hok : okAll l ⟨wk, wt, wf, wa, wn⟩ = true := by
    simp only [okAll, Want.cal, c0, Bool.not_false, Bool.true_and]
    simpa using c1
  simp -implicitDefEqProofs (maxSteps := 2000000) (disch := first | omega | (simp only [nx_new, nx_set, List.length_cons, List.length_nil, List.length_map, List.length_set, ne_eq, not_true_eq_false, not_false_eq_true, Nat.succ_ne_zero]; done) | (simp only [nx_new, nx_set, List.length_cons, List.length_nil, List.length_map, List.length_set, ne_eq, not_true_eq_false, not_false_eq_true, Nat.succ_ne_zero]; omega)) only [go_sem, reduceIte, reduceCtorEq, Nat.succ_ne_zero, not_false_eq_true, decide_true, decide_false, Nat.reduceAdd, Nat.reduceMul, Nat.reduceEqDiff, Nat.reduceLeDiff, c1]
  refine AWP_step ?_
  simp -implicitDefEqProofs (maxSteps := 2000000) (disch := first | omega | (simp only [nx_new, nx_set, List.length_cons, List.length_nil, List.length_map, List.length_set, ne_eq, not_true_eq_false, not_false_eq_true, Nat.succ_ne_zero]; done) | (simp only [nx_new, nx_set, List.length_cons, List.length_nil, List.length_map, List.length_set, ne_eq, not_true_eq_false, not_false_eq_true, Nat.succ_ne_zero]; omega)) only [go_sem, reduceIte, reduceCtorEq, Nat.succ_ne_zero, not_false_eq_true, decide_true, decide_false, Nat.reduceAdd, Nat.reduceMul, Nat.reduceEqDiff, Nat.reduceLeDiff, one_nil]
  refine AWP_step ?_
  simp -implicitDefEqProofs (maxSteps := 2000000) (disch := first | omega | (simp only [nx_new, nx_set, List.length_cons, List.length_nil, List.length_map, List.length_set, ne_eq, not_true_eq_false, not_false_eq_true, Nat.succ_ne_zero]; done) | (simp only [nx_new, nx_set, List.length_cons, List.length_nil, List.length_map, List.length_set, ne_eq, not_true_eq_false, not_false_eq_true, Nat.succ_ne_zero]; omega)) only [go_sem, reduceIte, reduceCtorEq, Nat.succ_ne_zero, not_false_eq_true, decide_true, decide_false, Nat.reduceAdd, Nat.reduceMul, Nat.reduceEqDiff, Nat.reduceLeDiff]
  refine AWP_step ?_
  simp -implicitDefEqProofs (maxSteps := 2000000) (disch := first | omega | (simp only [nx_new, nx_set, List.length_cons, List.length_nil, List.length_map, List.length_set, ne_eq, not_true_eq_false, not_false_eq_true, Nat.succ_ne_zero]; done) | (simp only [nx_new, nx_set, List.length_cons, List.length_nil, List.length_map, List.length_set, ne_eq, not_true_eq_false, not_false_eq_true, Nat.succ_ne_zero]; omega)) only [go_sem, reduceIte, reduceCtorEq, Nat.succ_ne_zero, not_false_eq_true, decide_true, decide_false, Nat.reduceAdd, Nat.reduceMul, Nat.reduceEqDiff, Nat.reduceLeDiff]
  refine ACalls.use_eq (backward_spec _ _ _) ?_
  simp -implicitDefEqProofs (maxSteps := 2000000) (disch := first | omega | (simp only [nx_new, nx_set, List.length_cons, List.length_nil, List.length_map, List.length_set, ne_eq, not_true_eq_false, not_false_eq_true, Nat.succ_ne_zero]; done) | (simp only [nx_new, nx_set, List.length_cons, List.length_nil, List.length_map, List.length_set, ne_eq, not_true_eq_false, not_false_eq_true, Nat.succ_ne_zero]; omega)) only [go_sem, reduceIte, reduceCtorEq, Nat.succ_ne_zero, not_false_eq_true, decide_true, decide_false, Nat.reduceAdd, Nat.reduceMul, Nat.reduceEqDiff, Nat.reduceLeDiff]
  have heG := he.grows kk2.grows
  refine AWP_range (A := fun i => [.int .i64 ((l.length : Int) - 1 - i), .agg (l.reverse.getD i cal0).cells.toArray])
    (I := mI G2 a (.func (.func 22) #[] #[.pointer (some ⟨H.next, 0, none⟩), .pointer (some ⟨H.next + 1 + 1 + 1, 0, none⟩), .pointer (some ⟨H.next + 1, 0, none⟩)]) l ⟨wk, wt, wf, wa, wn⟩) rfl
    (backward_iter (by omega) (fun i G h => ⟨h.2.2.2.1, heG.grows h.1.grows⟩) ?_) (fun i _ => rfl) rfl (fun r i G hi hI => ?_) (fun G hI => ?_)
  · refine ⟨((Keeps.new _ _).trans (Keeps.new _ _)).trans (Keeps.new _ _), by simp only [Hp.next_new]; omega, ?_, ?_, none, ?_, OwnSl.none⟩
    · rw [Hp.get_new_ne _ _ _ (by simp only [Hp.next_new]; omega), Hp.get_new_ne _ _ _ (by simp only [Hp.next_new]; omega)]
      exact Hp.get_new_same _ _ _ rfl
    · exact Hp.get_new_same _ _ _ rfl
    · rw [Hp.get_new_ne _ _ _ (by simp only [Hp.next_new]; omega)]
      exact Hp.get_new_same _ _ _ rfl
  · show AWP _ _ _ _ _ _ ((47, .agg (l.reverse.getD i cal0).cells.toArray) :: (46, .int .i64 ((l.length : Int) - 1 - i)) :: _) _
    obtain ⟨hk, hlt, b0, b2, o, b1, ho⟩ := hI
    have htk : l.reverse.take (i + 1) = l.reverse.take i ++ [l.reverse.getD i cal0] := by
      rw [List.take_succ_eq_append_getElem (by simpa using hi), List.getD_eq_getElem?_getD, List.getElem?_eq_getElem (by simpa using hi)]; rfl
    generalize l.reverse.getD i cal0 = c at *
    rw [cal_agg]
    have lb0 : load1 G ⟨G2.next, 0, none⟩ = some (.func (.func 22) #[] #[.pointer (some ⟨H.next, 0, none⟩), .pointer (some ⟨H.next + 1 + 1 + 1, 0, none⟩), .pointer (some ⟨H.next + 1, 0, none⟩)]) := (l1_row _ _ _ _ _ b0).trans rfl
    refine AWP_of_awp ?_
    simp -implicitDefEqProofs (maxSteps := 2000000) (disch := first | omega | (simp only [nx_new, nx_set, List.length_cons, List.length_nil, List.length_map, List.length_set, ne_eq, not_true_eq_false, not_false_eq_true, Nat.succ_ne_zero]; done) | (simp only [nx_new, nx_set, List.length_cons, List.length_nil, List.length_map, List.length_set, ne_eq, not_true_eq_false, not_false_eq_true, Nat.succ_ne_zero]; omega)) only [go_sem, reduceIte, reduceCtorEq, Nat.succ_ne_zero, not_false_eq_true, decide_true, decide_false, Nat.reduceAdd, Nat.reduceMul, Nat.reduceEqDiff, Nat.reduceLeDiff]
    refine AWP_of_awp ?_
    simp -implicitDefEqProofs (maxSteps := 2000000) (disch := first | omega | (simp only [nx_new, nx_set, List.length_cons, List.length_nil, List.length_map, List.length_set, ne_eq, not_true_eq_false, not_false_eq_true, Nat.succ_ne_zero]; done) | (simp only [nx_new, nx_set, List.length_cons, List.length_nil, List.length_map, List.length_set, ne_eq, not_true_eq_false, not_false_eq_true, Nat.succ_ne_zero]; omega)) only [go_sem, reduceIte, reduceCtorEq, Nat.succ_ne_zero, not_false_eq_true, decide_true, decide_false, Nat.reduceAdd, Nat.reduceMul, Nat.reduceEqDiff, Nat.reduceLeDiff, lb0]
    have ap := applies_spec (G.new (.row c.cells true 0)) c ⟨wk, wt, wf, wa, wn⟩ H.next (H.next + 1 + 1 + 1) (H.next + 1) (by rw [Hp.get_new_ne _ _ _ (by omega), hk.get _ (by omega)]; exact p0)
      (by rw [Hp.get_new_ne _ _ _ (by omega), hk.get _ (by omega)]; exact p3) (by rw [Hp.get_new_ne _ _ _ (by omega), hk.get _ (by omega)]; exact p1)
    rw [cal_agg] at ap
    refine ap.mono ?_
    rintro _ G5 ⟨rfl, k5⟩
    have n5 : G.next + 1 ≤ G5.next := k5.next
    have k05 : Keeps G G5 := (Keeps.new _ _).trans k5
    have hkn := hk.next
    have c0' : G5.get G2.next = _ := (k05.get _ (by omega)).trans b0
    have c2' : G5.get (G2.next + 2) = _ := (k05.get _ (by omega)).trans b2
    have c1' : G5.get (G2.next + 1) = _ := (k05.get _ (by omega)).trans b1
    have ho5 := ho.keeps k05
    cases hap : Want.app ⟨wk, wt, wf, wa, wn⟩ c with
    | false =>
      simp -implicitDefEqProofs (maxSteps := 2000000) (disch := first | omega | (simp only [nx_new, nx_set, List.length_cons, List.length_nil, List.length_map, List.length_set, ne_eq, not_true_eq_false, not_false_eq_true, Nat.succ_ne_zero]; done) | (simp only [nx_new, nx_set, List.length_cons, List.length_nil, List.length_map, List.length_set, ne_eq, not_true_eq_false, not_false_eq_true, Nat.succ_ne_zero]; omega)) only [go_sem, reduceIte, reduceCtorEq, Nat.succ_ne_zero, not_false_eq_true, decide_true, decide_false, Nat.reduceAdd, Nat.reduceMul, Nat.reduceEqDiff, Nat.reduceLeDiff]
      have hft : (l.reverse.take (i + 1)).filter (Want.app ⟨wk, wt, wf, wa, wn⟩) = (l.reverse.take i).filter (Want.app ⟨wk, wt, wf, wa, wn⟩) := by
        rw [htk, List.filter_append]; simp [hap]
      exact ⟨hk.trans k05, by omega, c0', c2', o, by rw [hft]; exact c1', by rw [hft]; exact ho5⟩
    | true =>
      have hft : (l.reverse.take (i + 1)).filter (Want.app ⟨wk, wt, wf, wa, wn⟩) = (l.reverse.take i).filter (Want.app ⟨wk, wt, wf, wa, wn⟩) ++ [c] := by
        rw [htk, List.filter_append]; simp [hap]
      have hml : ((l.reverse.take i).filter (Want.app ⟨wk, wt, wf, wa, wn⟩)).length ≤ 21 := by
        refine Nat.le_trans (List.length_filter_le _ _) ?_
        rw [List.length_take, List.length_reverse]; omega
      generalize (l.reverse.take i).filter (Want.app ⟨wk, wt, wf, wa, wn⟩) = u at *
      have lb1 : load1 G5 ⟨G2.next + 1, 0, none⟩ = some (.slice o u.length u.length) := (l1_row _ _ _ _ _ c1').trans rfl
      have gc : G5.get G.next = .row c.cells true 0 := (k5.get _ (Nat.lt_succ_self _)).trans (Hp.get_new_same _ _ _ rfl)
      have lc : aload G5 ⟨G.next, 0, none⟩ 9 = some [.int .i64 c.kind, .int .i64 c.tel, .int .i64 c.fil, .int .i64 c.at_, .int .i64 c.known, .int .i64 c.v0, .int .i64 c.v1, .int .i64 c.v2, .int .i64 c.v3] := (aload_row gc (by simp [Cal.cells])).trans rfl
      simp -implicitDefEqProofs (maxSteps := 2000000) (disch := first | omega | (simp only [nx_new, nx_set, List.length_cons, List.length_nil, List.length_map, List.length_set, ne_eq, not_true_eq_false, not_false_eq_true, Nat.succ_ne_zero]; done) | (simp only [nx_new, nx_set, List.length_cons, List.length_nil, List.length_map, List.length_set, ne_eq, not_true_eq_false, not_false_eq_true, Nat.succ_ne_zero]; omega)) only [go_sem, reduceIte, reduceCtorEq, Nat.succ_ne_zero, not_false_eq_true, decide_true, decide_false, Nat.reduceAdd, Nat.reduceMul, Nat.reduceEqDiff, Nat.reduceLeDiff, lb1, lc]
      obtain ⟨G6, happ, n6, g6, hold⟩ := append_own (P := Try.prog) u22 u22 ts42 tb42 tz42 rfl (by decide) (by decide) (G := G5.new (.row c.cells true 9)) (lo := G2.next + 3) (n := u.length) (c := u.length) (m := 1) (c' := 1) (r := G5.next) (ro := 0) (xs := c.cells) (ho5.keeps (Keeps.new _ _))
        (by rw [Cal.cells]; simp -implicitDefEqProofs (maxSteps := 2000000) (disch := first | omega | (simp only [nx_new, nx_set, List.length_cons, List.length_nil, List.length_map, List.length_set, ne_eq, not_true_eq_false, not_false_eq_true, Nat.succ_ne_zero]; done) | (simp only [nx_new, nx_set, List.length_cons, List.length_nil, List.length_map, List.length_set, ne_eq, not_true_eq_false, not_false_eq_true, Nat.succ_ne_zero]; omega)) only [go_sem, reduceIte, reduceCtorEq, Nat.succ_ne_zero, not_false_eq_true, decide_true, decide_false, Nat.reduceAdd, Nat.reduceMul, Nat.reduceEqDiff, Nat.reduceLeDiff]) rfl (by decide) (cals_flat u) (by omega)
      have happ2 : aappend Try.prog (G5.new (.row [.int .i64 c.kind, .int .i64 c.tel, .int .i64 c.fil, .int .i64 c.at_, .int .i64 c.known, .int .i64 c.v0, .int .i64 c.v1, .int .i64 c.v2, .int .i64 c.v3] true 9)) [22, 22] (.slice o u.length u.length) (.slice (some ⟨G5.next, 0, none⟩) 1 1) = _ := happ
      rw [happ2]
      have n6' : G6.next = G5.next + 1 + 1 := n6
      have g6' : G6.get (G5.next + 1) = .row ((u.map Cal.cells).flatten ++ c.cells) true 9 := g6
      have hold' : ∀ b, b < G2.next + 3 → G6.get b = G5.get b := fun b hb => by
        rw [hold b (by simp only [Hp.next_new]; omega) (ho5.lo_ne hb), Hp.get_new_ne _ _ _ (by omega)]
      have d1 : G6.get (G2.next + 1) = _ := (hold' _ (by omega)).trans c1'
      simp -implicitDefEqProofs (maxSteps := 2000000) (disch := first | omega | (simp only [nx_new, nx_set, List.length_cons, List.length_nil, List.length_map, List.length_set, ne_eq, not_true_eq_false, not_false_eq_true, Nat.succ_ne_zero]; done) | (simp only [nx_new, nx_set, List.length_cons, List.length_nil, List.length_map, List.length_set, ne_eq, not_true_eq_false, not_false_eq_true, Nat.succ_ne_zero]; omega)) only [go_sem, reduceIte, reduceCtorEq, Nat.succ_ne_zero, not_false_eq_true, decide_true, decide_false, Nat.reduceAdd, Nat.reduceMul, Nat.reduceEqDiff, Nat.reduceLeDiff, d1]
      refine ⟨⟨by rw [Hp.next_set]; omega, fun b hb => ?_⟩, by rw [Hp.next_set]; omega, ?_, ?_, some ⟨G5.next + 1, 0, none⟩, ?_, .inr ⟨G5.next + 1, rfl, by omega, by rw [Hp.next_set]; omega, ?_⟩⟩
      · rw [Hp.get_set_ne _ _ _ _ (by omega), hold' b (by omega), k05.get b (by omega)]
        exact hk.get b hb
      · rw [Hp.get_set_ne _ _ _ _ (by omega), hold' _ (by omega)]; exact c0'
      · rw [Hp.get_set_ne _ _ _ _ (by omega), hold' _ (by omega)]; exact c2'
      · rw [hft, List.length_append, List.length_singleton]
        exact Hp.get_set_same _ _ _ _ rfl
      · rw [Hp.get_set_ne _ _ _ _ (by omega), g6', hft, List.map_append, List.flatten_append]
        simp only [List.map_cons, List.map_nil, List.flatten_cons, List.flatten_nil, List.append_nil]
  · obtain ⟨hk, hlt, b0, b2, o, b1, ho⟩ := hI
    rw [List.take_of_length_le (by simp)] at b1 ho
    have hu : l.reverse.filter (Want.app ⟨wk, wt, wf, wa, wn⟩) = usedL l ⟨wk, wt, wf, wa, wn⟩ := rfl
    rw [hu] at b1 ho
    have hul : (usedL l ⟨wk, wt, wf, wa, wn⟩).length ≤ 21 := by
      rw [← hu]
      refine Nat.le_trans (List.length_filter_le _ _) ?_
      rw [List.length_reverse]; exact hl
    have huok := used_ok hok
    have hR : ∀ v, (okAll l ⟨wk, wt, wf, wa, wn⟩ = true ∧ usedL l ⟨wk, wt, wf, wa, wn⟩ = [] ∧ v = .tuple #[pxs 0 0 0 0, .int .i64 10]) ∨
      (okAll l ⟨wk, wt, wf, wa, wn⟩ = true ∧ usedL l ⟨wk, wt, wf, wa, wn⟩ ≠ [] ∧ ∃ Y, Order (usedL l ⟨wk, wt, wf, wa, wn⟩) Y ∧ v = .tuple #[pxs (pixV (usedL l ⟨wk, wt, wf, wa, wn⟩) Y 0) (pixV (usedL l ⟨wk, wt, wf, wa, wn⟩) Y 1) (pixV (usedL l ⟨wk, wt, wf, wa, wn⟩) Y 2) (pixV (usedL l ⟨wk, wt, wf, wa, wn⟩) Y 3), .int .i64 0]) → MasterR l ⟨wk, wt, wf, wa, wn⟩ v := fun v h => .inr h
    generalize usedL l ⟨wk, wt, wf, wa, wn⟩ = u at *
    have hkn := hk.next
    have z2 : G.get (H.next + 2) = .row [.int .i64 0, .int .i64 0, .int .i64 0, .int .i64 0] true 0 := by rw [hk.get _ (by omega)]; exact p2
    have lb1 : load1 G ⟨G2.next + 1, 0, none⟩ = some (.slice o u.length u.length) := (l1_row _ _ _ _ _ b1).trans rfl
    show AWP _ _ _ _ _ _ _ _
    refine AWP_step ?_
    simp -implicitDefEqProofs (maxSteps := 2000000) (disch := first | omega | (simp only [nx_new, nx_set, List.length_cons, List.length_nil, List.length_map, List.length_set, ne_eq, not_true_eq_false, not_false_eq_true, Nat.succ_ne_zero]; done) | (simp only [nx_new, nx_set, List.length_cons, List.length_nil, List.length_map, List.length_set, ne_eq, not_true_eq_false, not_false_eq_true, Nat.succ_ne_zero]; omega)) only [go_sem, reduceIte, reduceCtorEq, Nat.succ_ne_zero, not_false_eq_true, decide_true, decide_false, Nat.reduceAdd, Nat.reduceMul, Nat.reduceEqDiff, Nat.reduceLeDiff, lb1]
    refine condS_split (fun hz => ?_) (fun hz => ?_)
    · have hu0 : u = [] := by
        have : u.length = 0 := by simpa using hz
        exact List.eq_nil_of_length_eq_zero this
      simp -implicitDefEqProofs (maxSteps := 2000000) (disch := first | omega | (simp only [nx_new, nx_set, List.length_cons, List.length_nil, List.length_map, List.length_set, ne_eq, not_true_eq_false, not_false_eq_true, Nat.succ_ne_zero]; done) | (simp only [nx_new, nx_set, List.length_cons, List.length_nil, List.length_map, List.length_set, ne_eq, not_true_eq_false, not_false_eq_true, Nat.succ_ne_zero]; omega)) only [go_sem, reduceIte, reduceCtorEq, Nat.succ_ne_zero, not_false_eq_true, decide_true, decide_false, Nat.reduceAdd, Nat.reduceMul, Nat.reduceEqDiff, Nat.reduceLeDiff, hz, z2]
      refine ret_r (v := .tuple #[pxs 0 0 0 0, .int .i64 10]) (by rw [ares_cell_tmp ret11]; simp -implicitDefEqProofs (maxSteps := 2000000) (disch := first | omega | (simp only [nx_new, nx_set, List.length_cons, List.length_nil, List.length_map, List.length_set, ne_eq, not_true_eq_false, not_false_eq_true, Nat.succ_ne_zero]; done) | (simp only [nx_new, nx_set, List.length_cons, List.length_nil, List.length_map, List.length_set, ne_eq, not_true_eq_false, not_false_eq_true, Nat.succ_ne_zero]; omega)) only [go_sem, reduceIte, reduceCtorEq, Nat.succ_ne_zero, not_false_eq_true, decide_true, decide_false, Nat.reduceAdd, Nat.reduceMul, Nat.reduceEqDiff, Nat.reduceLeDiff]; rfl) ⟨hR _ (.inl ⟨hok, hu0, rfl⟩), Keeps.setR (kk2.trans hk) (by omega)⟩
    have hun : u.length ≠ 0 := by simpa using hz
    simp -implicitDefEqProofs (maxSteps := 2000000) (disch := first | omega | (simp only [nx_new, nx_set, List.length_cons, List.length_nil, List.length_map, List.length_set, ne_eq, not_true_eq_false, not_false_eq_true, Nat.succ_ne_zero]; done) | (simp only [nx_new, nx_set, List.length_cons, List.length_nil, List.length_map, List.length_set, ne_eq, not_true_eq_false, not_false_eq_true, Nat.succ_ne_zero]; omega)) only [go_sem, reduceIte, reduceCtorEq, Nat.succ_ne_zero, not_false_eq_true, decide_true, decide_false, Nat.reduceAdd, Nat.reduceMul, Nat.reduceEqDiff, Nat.reduceLeDiff, hz]
    rcases ho with ⟨_, h⟩ | ⟨p, rfl, hp1, hp2, hp3⟩
    · have := cals_flat u
      rw [h] at this
      simp at this; omega
    refine AWP_step ?_
    simp -implicitDefEqProofs (maxSteps := 2000000) (disch := first | omega | (simp only [nx_new, nx_set, List.length_cons, List.length_nil, List.length_map, List.length_set, ne_eq, not_true_eq_false, not_false_eq_true, Nat.succ_ne_zero]; done) | (simp only [nx_new, nx_set, List.length_cons, List.length_nil, List.length_map, List.length_set, ne_eq, not_true_eq_false, not_false_eq_true, Nat.succ_ne_zero]; omega)) only [go_sem, reduceIte, reduceCtorEq, Nat.succ_ne_zero, not_false_eq_true, decide_true, decide_false, Nat.reduceAdd, Nat.reduceMul, Nat.reduceEqDiff, Nat.reduceLeDiff, lb1]
    refine (sortStable_spec (E := fun i => u.getD i cal0) (cmp_used huok) hp2 (List.range u.length) List.pairwise_lt_range (fun x hx => List.mem_range.1 hx) (by simp) hul (by rw [rw9_range]; exact hp3)).mono ?_
    rintro _ G7 ⟨rfl, Y, hY1, hY2, hkx, hg7⟩
    simp -implicitDefEqProofs (maxSteps := 2000000) (disch := first | omega | (simp only [nx_new, nx_set, List.length_cons, List.length_nil, List.length_map, List.length_set, ne_eq, not_true_eq_false, not_false_eq_true, Nat.succ_ne_zero]; done) | (simp only [nx_new, nx_set, List.length_cons, List.length_nil, List.length_map, List.length_set, ne_eq, not_true_eq_false, not_false_eq_true, Nat.succ_ne_zero]; omega)) only [go_sem, reduceIte, reduceCtorEq, Nat.succ_ne_zero, not_false_eq_true, decide_true, decide_false, Nat.reduceAdd, Nat.reduceMul, Nat.reduceEqDiff, Nat.reduceLeDiff]
    have n7 := hkx.1
    have hYl : Y.length = u.length := by rw [hY1.length_eq, List.length_range]
    have lb7 : load1 G7 ⟨G2.next + 1, 0, none⟩ = some (.slice (some ⟨p, 0, none⟩) u.length u.length) := (l1_row _ _ _ _ _ ((hkx.2 _ (by omega) (by omega)).trans b1)).trans rfl
    refine AWP_step ?_
    simp -implicitDefEqProofs (maxSteps := 2000000) (disch := first | omega | (simp only [nx_new, nx_set, List.length_cons, List.length_nil, List.length_map, List.length_set, ne_eq, not_true_eq_false, not_false_eq_true, Nat.succ_ne_zero]; done) | (simp only [nx_new, nx_set, List.length_cons, List.length_nil, List.length_map, List.length_set, ne_eq, not_true_eq_false, not_false_eq_true, Nat.succ_ne_zero]; omega)) only [go_sem, reduceIte, reduceCtorEq, Nat.succ_ne_zero, not_false_eq_true, decide_true, decide_false, Nat.reduceAdd, Nat.reduceMul, Nat.reduceEqDiff, Nat.reduceLeDiff, lb7]
    obtain ⟨m, hm, hm1, hm2⟩ : ∃ m : Nat, (min 5 (u.length : Int)) = (m : Int) ∧ m ≤ u.length ∧ m = min 5 u.length := ⟨min 5 u.length, by omega, by omega, rfl⟩
    rw [hm, slice22 hg7 hm1]
    have gb7 : G7.get (G2.next + 1) = .row [.slice (some ⟨p, 0, none⟩) u.length u.length] true 0 := (hkx.2 _ (by omega) (by omega)).trans b1
    simp -implicitDefEqProofs (maxSteps := 2000000) (disch := first | omega | (simp only [nx_new, nx_set, List.length_cons, List.length_nil, List.length_map, List.length_set, ne_eq, not_true_eq_false, not_false_eq_true, Nat.succ_ne_zero]; done) | (simp only [nx_new, nx_set, List.length_cons, List.length_nil, List.length_map, List.length_set, ne_eq, not_true_eq_false, not_false_eq_true, Nat.succ_ne_zero]; omega)) only [go_sem, reduceIte, reduceCtorEq, Nat.succ_ne_zero, not_false_eq_true, decide_true, decide_false, Nat.reduceAdd, Nat.reduceMul, Nat.reduceEqDiff, Nat.reduceLeDiff, gb7]
    refine AWP_step ?_
    simp -implicitDefEqProofs (maxSteps := 2000000) (disch := first | omega | (simp only [nx_new, nx_set, List.length_cons, List.length_nil, List.length_map, List.length_set, ne_eq, not_true_eq_false, not_false_eq_true, Nat.succ_ne_zero]; done) | (simp only [nx_new, nx_set, List.length_cons, List.length_nil, List.length_map, List.length_set, ne_eq, not_true_eq_false, not_false_eq_true, Nat.succ_ne_zero]; omega)) only [go_sem, reduceIte, reduceCtorEq, Nat.succ_ne_zero, not_false_eq_true, decide_true, decide_false, Nat.reduceAdd, Nat.reduceMul, Nat.reduceEqDiff, Nat.reduceLeDiff]
    obtain ⟨M0, e0⟩ : ∃ X, X = (G7.set (G2.next + 1) (.row [.slice (some ⟨p, 0, none⟩) m m] true 0)).new (.row [.int .i64 0, .int .i64 0, .int .i64 0, .int .i64 0] true 0) := ⟨_, rfl⟩
    rw [← e0]
    have n0 : M0.next = G7.next + 1 := by rw [e0]; rfl
    have y16 : M0.get (G2.next + 1) = .row [.slice (some ⟨p, 0, none⟩) m m] true 0 := by
      rw [e0, Hp.get_new_ne _ _ _ (by rw [Hp.next_set]; omega)]; exact Hp.get_set_same _ _ _ _ rfl
    have yp : M0.get p = .row (rw9 (fun i => u.getD i cal0) Y) true 9 := by
      rw [e0, Hp.get_new_ne _ _ _ (by rw [Hp.next_set]; omega), Hp.get_set_ne _ _ _ _ (by omega)]; exact hg7
    have y19 : M0.get G7.next = .row [.int .i64 0, .int .i64 0, .int .i64 0, .int .i64 0] true 0 := by
      rw [e0]; exact Hp.get_new_same _ _ _ rfl
    have y12 : M0.get (H.next + 2) = .row [.int .i64 0, .int .i64 0, .int .i64 0, .int .i64 0] true 0 := by
      rw [e0, Hp.get_new_ne _ _ _ (by rw [Hp.next_set]; omega), Hp.get_set_ne _ _ _ _ (by omega), hkx.2 _ (by omega) (by omega)]; exact z2
    have yk : Keeps H M0 := ⟨by omega, fun b hb => by
      rw [e0, Hp.get_new_ne _ _ _ (by rw [Hp.next_set]; omega), Hp.get_set_ne _ _ _ _ (by omega), hkx.2 _ (by omega) (by omega), hk.get _ (by omega)]
      exact kk2.get b hb⟩
    clear e0
    refine AWP_join (σ := Hp) (fun _ => [(19, .pointer (some ⟨G7.next, 0, none⟩)), (12, .pointer (some ⟨H.next + 2, 0, none⟩))]) (fun G => G) (fun G => KX G7.next M0 G ∧ G.get G7.next = .row (pixR (pixV u Y) 4) true 0) ?_ ?_
    · simp -implicitDefEqProofs (maxSteps := 2000000) (disch := first | omega | (simp only [nx_new, nx_set, List.length_cons, List.length_nil, List.length_map, List.length_set, ne_eq, not_true_eq_false, not_false_eq_true, Nat.succ_ne_zero]; done) | (simp only [nx_new, nx_set, List.length_cons, List.length_nil, List.length_map, List.length_set, ne_eq, not_true_eq_false, not_false_eq_true, Nat.succ_ne_zero]; omega)) only [go_sem, reduceIte, reduceCtorEq, Nat.succ_ne_zero, not_false_eq_true, decide_true, decide_false, Nat.reduceAdd, Nat.reduceMul, Nat.reduceEqDiff, Nat.reduceLeDiff]
      refine AWP_loop (σ := Nat × Hp) (fun s => [(66, .int .i64 s.1), (16, .pointer (some ⟨G2.next + 1, 0, none⟩)), (19, .pointer (some ⟨G7.next, 0, none⟩)), (12, .pointer (some ⟨H.next + 2, 0, none⟩))]) (fun s => s.2)
        (fun s => s.1 ≤ 4 ∧ KX G7.next M0 s.2 ∧ s.2.get G7.next = .row (pixR (pixV u Y) s.1) true 0) (fun s => 4 - s.1) (0, M0) ⟨Nat.zero_le _, KX.refl _ _, y19⟩ (Weak.sub ?_) ?_
      · (simp -implicitDefEqProofs (disch := omega) only [Abs.Sub, get_cons_eq, get_cons_ne, and_self, Option.some.injEq, Value.int.injEq, Value.slice.injEq, true_and, and_true, Int.natCast_zero, Int.natCast_add, Int.natCast_one, List.length_nil]; try omega)
      · rintro ⟨k, G⟩ ⟨hk4, hx, h19⟩
        simp only at hk4 hx h19 ⊢
        refine AWP_of_awp ?_
        by_cases hlt4 : k < 4
        · have h16 : load1 G ⟨G2.next + 1, 0, none⟩ = some (.slice (some ⟨p, 0, none⟩) m m) := (l1_row _ _ _ _ _ ((hx.2 _ (by omega) (by omega)).trans y16)).trans rfl
          simp -implicitDefEqProofs (maxSteps := 2000000) (disch := first | omega | (simp only [nx_new, nx_set, List.length_cons, List.length_nil, List.length_map, List.length_set, ne_eq, not_true_eq_false, not_false_eq_true, Nat.succ_ne_zero]; done) | (simp only [nx_new, nx_set, List.length_cons, List.length_nil, List.length_map, List.length_set, ne_eq, not_true_eq_false, not_false_eq_true, Nat.succ_ne_zero]; omega)) only [go_sem, reduceIte, reduceCtorEq, Nat.succ_ne_zero, not_false_eq_true, decide_true, decide_false, Nat.reduceAdd, Nat.reduceMul, Nat.reduceEqDiff, Nat.reduceLeDiff, h16]
          refine AWP_loop (σ := Nat × Hp × Option Addr) (fun s => [(71, .int .i64 s.1), (70, .int .i64 m), (69, .slice (some ⟨p, 0, none⟩) m m), (21, .slice s.2.2 s.1 s.1), (20, .int .i64 k), (66, .int .i64 k), (16, .pointer (some ⟨G2.next + 1, 0, none⟩)), (19, .pointer (some ⟨G7.next, 0, none⟩)), (12, .pointer (some ⟨H.next + 2, 0, none⟩))]) (fun s => s.2.1)
            (fun s => s.1 ≤ m ∧ KX G7.next M0 s.2.1 ∧ s.2.1.get G7.next = .row (pixR (pixV u Y) k) true 0 ∧ OwnSl (G7.next + 1) s.2.1 s.2.2 1 (((Y.take s.1).map fun i => (u.getD i cal0).pix k).map ic).flatten)
            (fun s => m - s.1) (0, G, none) ⟨Nat.zero_le _, hx, h19, OwnSl.none⟩ (Weak.sub ?_) ?_
          · (simp -implicitDefEqProofs (disch := omega) only [Abs.Sub, get_cons_eq, get_cons_ne, and_self, Option.some.injEq, Value.int.injEq, Value.slice.injEq, true_and, and_true, Int.natCast_zero, Int.natCast_add, Int.natCast_one, List.length_nil]; try omega)
          · rintro ⟨j, G8, o8⟩ ⟨hj, hx8, h198, ho8⟩
            simp only at hj hx8 h198 ho8 ⊢
            refine AWP_of_awp ?_
            have hx8n := hx8.1
            by_cases hjm : j < m
            · have hjY : j < Y.length := by omega
              have lY : aload G8 ⟨p, j * 9, none⟩ 9 = some (u.getD Y[j] cal0).cells := ld9 (E := fun i => u.getD i cal0) (by omega) ((hx8.2 _ (by omega) (by omega)).trans yp) (List.getElem?_eq_getElem hjY)
              have htk : (Y.take (j + 1)).map (fun i => (u.getD i cal0).pix k) = (Y.take j).map (fun i => (u.getD i cal0).pix k) ++ [(u.getD Y[j] cal0).pix k] := by
                rw [List.take_succ_eq_append_getElem hjY, List.map_append]; rfl
              have hvl : ((Y.take j).map (fun i => (u.getD i cal0).pix k)).length = j := by rw [List.length_map, List.length_take]; omega
              generalize (Y.take j).map (fun i => (u.getD i cal0).pix k) = vs at *
              have hpc := pix_cell (u.getD Y[j] cal0) hlt4
              generalize u.getD Y[j] cal0 = c at *
              have hpn : (5 + k) < c.cells.length := by simp only [Cal.cells, List.length_cons, List.length_nil]; omega
              obtain ⟨G9, happ, n9, g9, hold⟩ := append_own (P := Try.prog) u23 u23 ts3 tb3 tz3 rfl (by decide) (by decide) (G := (G8.new (.row c.cells true 0)).new (.row [.int .i64 (c.pix k)] true 1)) (lo := G7.next + 1) (n := j) (c := j) (m := 1) (c' := 1) (r := G8.next + 1) (ro := 0) (xs := [.int .i64 (c.pix k)]) ((ho8.keeps (Keeps.new _ _)).keeps (Keeps.new _ _))
                (by simp -implicitDefEqProofs (maxSteps := 2000000) (disch := first | omega | (simp only [nx_new, nx_set, List.length_cons, List.length_nil, List.length_map, List.length_set, ne_eq, not_true_eq_false, not_false_eq_true, Nat.succ_ne_zero]; done) | (simp only [nx_new, nx_set, List.length_cons, List.length_nil, List.length_map, List.length_set, ne_eq, not_true_eq_false, not_false_eq_true, Nat.succ_ne_zero]; omega)) only [go_sem, reduceIte, reduceCtorEq, Nat.succ_ne_zero, not_false_eq_true, decide_true, decide_false, Nat.reduceAdd, Nat.reduceMul, Nat.reduceEqDiff, Nat.reduceLeDiff]) rfl (by decide) (by rw [ic_flat, List.length_map, hvl, Nat.mul_one]) (by omega)
              have n9' : G9.next = G8.next + 1 + 1 + 1 := n9
              have g9' : G9.get (G8.next + 1 + 1) = .row ((vs.map ic).flatten ++ [.int .i64 (c.pix k)]) true 1 := g9
              have hold' : ∀ b, b < G7.next + 1 → G9.get b = G8.get b := fun b hb => by
                rw [hold b (by simp only [Hp.next_new]; omega) (ho8.lo_ne hb), Hp.get_new_ne _ _ _ (by simp only [Hp.next_new]; omega), Hp.get_new_ne _ _ _ (by omega)]
              simp only [Cal.cells] at lY hpc happ
              simp -implicitDefEqProofs (maxSteps := 2000000) (disch := first | omega | (simp only [nx_new, nx_set, List.length_cons, List.length_nil, List.length_map, List.length_set, ne_eq, not_true_eq_false, not_false_eq_true, Nat.succ_ne_zero]; done) | (simp only [nx_new, nx_set, List.length_cons, List.length_nil, List.length_map, List.length_set, ne_eq, not_true_eq_false, not_false_eq_true, Nat.succ_ne_zero]; omega)) only [go_sem, reduceIte, reduceCtorEq, Nat.succ_ne_zero, not_false_eq_true, decide_true, decide_false, Nat.reduceAdd, Nat.reduceMul, Nat.reduceEqDiff, Nat.reduceLeDiff, lY, hpc]
              rw [happ]
              simp -implicitDefEqProofs (maxSteps := 2000000) (disch := first | omega | (simp only [nx_new, nx_set, List.length_cons, List.length_nil, List.length_map, List.length_set, ne_eq, not_true_eq_false, not_false_eq_true, Nat.succ_ne_zero]; done) | (simp only [nx_new, nx_set, List.length_cons, List.length_nil, List.length_map, List.length_set, ne_eq, not_true_eq_false, not_false_eq_true, Nat.succ_ne_zero]; omega)) only [go_sem, reduceIte, reduceCtorEq, Nat.succ_ne_zero, not_false_eq_true, decide_true, decide_false, Nat.reduceAdd, Nat.reduceMul, Nat.reduceEqDiff, Nat.reduceLeDiff]
              refine ⟨(j + 1, G9, some ⟨G8.next + 1 + 1, 0, none⟩), ⟨hjm, ⟨by simp only; omega, fun b hb hq => ?_⟩, ?_, .inr ⟨G8.next + 1 + 1, rfl, by omega, by simp only; omega, ?_⟩⟩, by (first | omega | (simp only; omega)), Weak.sub (by (simp -implicitDefEqProofs (disch := omega) only [Abs.Sub, get_cons_eq, get_cons_ne, and_self, Option.some.injEq, Value.int.injEq, Value.slice.injEq, true_and, and_true, Int.natCast_zero, Int.natCast_add, Int.natCast_one, List.length_nil]; try omega))⟩
              · rw [hold' b (by omega)]; exact hx8.2 b hb hq
              · rw [hold' _ (by omega)]; exact h198
              · rw [g9', htk, List.map_append, List.flatten_append]; rfl
            · have hjm2 : j = m := by omega
              subst hjm2
              have hvl : ((Y.take j).map (fun i => (u.getD i cal0).pix k)).length = j := by rw [List.length_map, List.length_take]; omega
              have hY5 : Y.take j = Y.take 5 := by
                by_cases h5 : 5 ≤ Y.length
                · rw [show j = 5 by omega]
                · rw [List.take_of_length_le (by omega), List.take_of_length_le (by omega)]
              have hmv : medV ((Y.take j).map (fun i => (u.getD i cal0).pix k)) = pixV u Y k := by
                rw [medV, hvl, if_neg (by omega), if_neg (by omega), hY5]; rfl
              have md := median_spec G8 o8 ((Y.take j).map (fun i => (u.getD i cal0).pix k)) (by omega) (ho8.elems (ic_len _) (by decide))
              rw [hvl, hmv] at md
              have hps := pixR_set (pixV u Y) hlt4
              have hpl := pixR_len (pixV u Y) k
              simp -implicitDefEqProofs (maxSteps := 2000000) (disch := first | omega | (simp only [nx_new, nx_set, List.length_cons, List.length_nil, List.length_map, List.length_set, ne_eq, not_true_eq_false, not_false_eq_true, Nat.succ_ne_zero]; done) | (simp only [nx_new, nx_set, List.length_cons, List.length_nil, List.length_map, List.length_set, ne_eq, not_true_eq_false, not_false_eq_true, Nat.succ_ne_zero]; omega)) only [go_sem, reduceIte, reduceCtorEq, Nat.succ_ne_zero, not_false_eq_true, decide_true, decide_false, Nat.reduceAdd, Nat.reduceMul, Nat.reduceEqDiff, Nat.reduceLeDiff]
              refine md.mono ?_
              rintro _ G9 ⟨rfl, k9⟩
              have k9n := k9.next
              have h199 : G9.get G7.next = .row (pixR (pixV u Y) k) true 0 := (k9.get _ (by omega)).trans h198
              simp -implicitDefEqProofs (maxSteps := 2000000) (disch := first | omega | (simp only [nx_new, nx_set, List.length_cons, List.length_nil, List.length_map, List.length_set, ne_eq, not_true_eq_false, not_false_eq_true, Nat.succ_ne_zero]; done) | (simp only [nx_new, nx_set, List.length_cons, List.length_nil, List.length_map, List.length_set, ne_eq, not_true_eq_false, not_false_eq_true, Nat.succ_ne_zero]; omega)) only [go_sem, reduceIte, reduceCtorEq, Nat.succ_ne_zero, not_false_eq_true, decide_true, decide_false, Nat.reduceAdd, Nat.reduceMul, Nat.reduceEqDiff, Nat.reduceLeDiff, h199, hpl]
              rw [hps]
              exact ⟨(k + 1, G9.set G7.next (.row (pixR (pixV u Y) (k + 1)) true 0)), ⟨hlt4, (hx8.keeps k9).set _, Hp.get_set_same _ _ _ _ rfl⟩, by (first | omega | (simp only; omega)), Weak.sub (by (simp -implicitDefEqProofs (disch := omega) only [Abs.Sub, get_cons_eq, get_cons_ne, and_self, Option.some.injEq, Value.int.injEq, Value.slice.injEq, true_and, and_true, Int.natCast_zero, Int.natCast_add, Int.natCast_one, List.length_nil]; try omega))⟩
        · have hk44 : k = 4 := by omega
          subst hk44
          simp -implicitDefEqProofs (maxSteps := 2000000) (disch := first | omega | (simp only [nx_new, nx_set, List.length_cons, List.length_nil, List.length_map, List.length_set, ne_eq, not_true_eq_false, not_false_eq_true, Nat.succ_ne_zero]; done) | (simp only [nx_new, nx_set, List.length_cons, List.length_nil, List.length_map, List.length_set, ne_eq, not_true_eq_false, not_false_eq_true, Nat.succ_ne_zero]; omega)) only [go_sem, reduceIte, reduceCtorEq, Nat.succ_ne_zero, not_false_eq_true, decide_true, decide_false, Nat.reduceAdd, Nat.reduceMul, Nat.reduceEqDiff, Nat.reduceLeDiff]
          refine ⟨G, ⟨hx, h19⟩, Weak.sub (by (simp -implicitDefEqProofs (disch := omega) only [Abs.Sub, get_cons_eq, get_cons_ne, and_self, Option.some.injEq, Value.int.injEq, Value.slice.injEq, true_and, and_true, Int.natCast_zero, Int.natCast_add, Int.natCast_one, List.length_nil]; try omega))⟩
    · rintro G ⟨hx, h19⟩
      have l19 : aload G ⟨G7.next, 0, none⟩ 4 = some [.int .i64 (pixV u Y 0), .int .i64 (pixV u Y 1), .int .i64 (pixV u Y 2), .int .i64 (pixV u Y 3)] := (aload_row h19 (by simp [pixR])).trans rfl
      have h12 : G.get (H.next + 2) = _ := (hx.2 _ (by omega) (by omega)).trans y12
      refine AWP_of_awp ?_
      simp -implicitDefEqProofs (maxSteps := 2000000) (disch := first | omega | (simp only [nx_new, nx_set, List.length_cons, List.length_nil, List.length_map, List.length_set, ne_eq, not_true_eq_false, not_false_eq_true, Nat.succ_ne_zero]; done) | (simp only [nx_new, nx_set, List.length_cons, List.length_nil, List.length_map, List.length_set, ne_eq, not_true_eq_false, not_false_eq_true, Nat.succ_ne_zero]; omega)) only [go_sem, reduceIte, reduceCtorEq, Nat.succ_ne_zero, not_false_eq_true, decide_true, decide_false, Nat.reduceAdd, Nat.reduceMul, Nat.reduceEqDiff, Nat.reduceLeDiff, l19, h12]
      refine ret_r (v := .tuple #[pxs (pixV u Y 0) (pixV u Y 1) (pixV u Y 2) (pixV u Y 3), .int .i64 0]) (by rw [ares_cell_tmp ret11]; simp -implicitDefEqProofs (maxSteps := 2000000) (disch := first | omega | (simp only [nx_new, nx_set, List.length_cons, List.length_nil, List.length_map, List.length_set, ne_eq, not_true_eq_false, not_false_eq_true, Nat.succ_ne_zero]; done) | (simp only [nx_new, nx_set, List.length_cons, List.length_nil, List.length_map, List.length_set, ne_eq, not_true_eq_false, not_false_eq_true, Nat.succ_ne_zero]; omega)) only [go_sem, reduceIte, reduceCtorEq, Nat.succ_ne_zero, not_false_eq_true, decide_true, decide_false, Nat.reduceAdd, Nat.reduceMul, Nat.reduceEqDiff, Nat.reduceLeDiff]; rfl) ⟨hR _ (.inr ⟨hok, (fun h => hun (by rw [h]; rfl)), Y, ⟨hY1, hY2⟩, rfl⟩), Keeps.setR ⟨Nat.le_trans yk.next hx.1, fun b hb => by rw [hx.2 b (by omega) (by omega)]; exact yk.get b hb⟩ (by omega)⟩
end Go.Proofs.Ytejpfdhlpcgfkaa
