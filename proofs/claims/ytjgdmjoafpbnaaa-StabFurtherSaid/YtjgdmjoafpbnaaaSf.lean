/- stab.Plan. -/
import Derived.Test.YtjgdmjoafpbnaaaSd
import Derived.Test.YtjgdmjoafpbnaaaSe
set_option linter.unusedVariables false
set_option linter.unusedSimpArgs false
set_option linter.unusedSectionVars false
namespace Go.Proofs.Ytjgdmjoafpbnaaa
open Go.Abs Go.Sm
set_option maxHeartbeats 8000000
set_option maxRecDepth 100000

def at_ (l : List Sp) (i : Nat) : Sp := l.getD i (0, 0)
def till (l : List Sp) (i : Nat) : Int := (at_ l i).2
theorem at_get {l : List Sp} {i : Nat} (h : i < l.length) : at_ l i = l[i] := by
  rw [at_, List.getD_eq_getElem?_getD, List.getElem?_eq_getElem h]; rfl

theorem n20 : Try.f20.ntmps = 17 := rfl
theorem ret20 : Try.f20.results = #[.tmp 5] := rfl
theorem cmp20 {G0 : Hp} {a : Option Addr} {l : List Sp} {c : Nat} (hc : c < G0.next) (hg : G0.get c = .row [.slice a l.length l.length] true 0) (he : Elems G0 a 2 (l.map spc)) (hv : ∀ s, s ∈ l → -39399 ≤ s.1 ∧ s.2 ≤ 39399 ∧ s.1 ≤ s.2) : Cmp G0 c l.length (till l) := by
  intro H hk x y hx hy
  have he' := he.grows hk.grows
  have hgc : H.get c = .row [.slice a l.length l.length] true 0 := by rw [hk.get c hc]; exact hg
  refine ACalls_enter Try.func20 (by kernel_rfl) rfl (by kernel_rfl) (by simp [n20]) fun hw hr => AWP_of_awp ?_
  obtain ⟨b, o, rfl, hb, hl1⟩ := he' x (by simpa using hx)
  obtain ⟨b2, o2, hbo, hb2, hl2⟩ := he' y (by simpa using hy)
  simp only [Option.some.injEq, Addr.mk.injEq, and_true] at hbo
  obtain ⟨rfl, rfl⟩ := hbo
  simp only [List.getElem_map] at hl1 hl2
  have v1 := hv _ (List.getElem_mem hx)
  have v2 := hv _ (List.getElem_mem hy)
  rw [till, till, at_get hx, at_get hy]
  generalize l[x] = s at *
  generalize l[y] = t at *
  obtain ⟨f, u⟩ := s
  obtain ⟨g, w⟩ := t
  simp only [spc] at hl1 hl2 v1 v2
  have h1 : load1 H ⟨b, o + x * 2 + 1, none⟩ = some (.int .i64 u) := (load1_part (i := 1) hl1 (by simp)).trans rfl
  have h2 : load1 H ⟨b, o + y * 2 + 1, none⟩ = some (.int .i64 w) := (load1_part (i := 1) hl2 (by simp)).trans rfl
  have h3 : load1 H ⟨c, 0, none⟩ = some (.slice (some ⟨b, o, none⟩) l.length l.length) := (l1_row _ _ _ _ _ hgc).trans rfl
  simp -implicitDefEqProofs (maxSteps := 2000000) (disch := first | omega | (simp only [nx_new, nx_set, List.length_cons, List.length_nil, List.length_map, List.length_set, ne_eq, not_true_eq_false, not_false_eq_true, Nat.succ_ne_zero]; done) | (simp only [nx_new, nx_set, List.length_cons, List.length_nil, List.length_map, List.length_set, ne_eq, not_true_eq_false, not_false_eq_true, Nat.succ_ne_zero]; omega)) only [go_sem, reduceIte, reduceCtorEq, Nat.succ_ne_zero, not_false_eq_true, decide_true, decide_false, Nat.reduceAdd, Nat.reduceMul, Nat.reduceEqDiff, Nat.reduceLeDiff]
  refine AWP_draw_fast mo (by kernel_rfl) ?_
  simp -implicitDefEqProofs (maxSteps := 2000000) (disch := first | omega | (simp only [nx_new, nx_set, List.length_cons, List.length_nil, List.length_map, List.length_set, ne_eq, not_true_eq_false, not_false_eq_true, Nat.succ_ne_zero]; done) | (simp only [nx_new, nx_set, List.length_cons, List.length_nil, List.length_map, List.length_set, ne_eq, not_true_eq_false, not_false_eq_true, Nat.succ_ne_zero]; omega)) only [go_sem, reduceIte, reduceCtorEq, Nat.succ_ne_zero, not_false_eq_true, decide_true, decide_false, Nat.reduceAdd, Nat.reduceMul, Nat.reduceEqDiff, Nat.reduceLeDiff, h1, h2, h3]
  exact ret_r (v := .int .i64 (u - w)) (by rw [ares_tmp ret20]; rfl) ⟨rfl, rfl⟩

/-! ### a plan -/
theorem ic_len (out : List Int) : ∀ x, x ∈ out.map ic → x.length = 1 := by
  intro x hx
  obtain ⟨s, _, rfl⟩ := List.mem_map.1 hx
  rfl
theorem ic_flat (out : List Int) : (out.map ic).flatten = out.map (Value.int .i64) := flatten_single _ _
/-- The plan in block p: its points, its indices. -/
def PlanAt (H : Hp) (p : Nat) (pts aps : List Int) : Prop :=
  p < H.next ∧ ∃ a1 a2, H.get p = .row [.slice a1 pts.length pts.length, .slice a2 aps.length aps.length] true 0 ∧ OwnSl (p + 1) H a1 1 (pts.map (Value.int .i64)) ∧ OwnSl (p + 1) H a2 1 (aps.map (Value.int .i64)) ∧ (∀ q, a1 = some q → ∀ r, a2 = some r → q.block ≠ r.block)
def addP (pa : List Int × List Int) (i : Int) (s : Sp) : List Int × List Int :=
  match pa.1.getLast? with
  | some t => if s.1 ≤ t then pa else (pa.1 ++ [s.2], pa.2 ++ [i])
  | none => ([s.2], pa.2 ++ [i])
theorem addP_nil (aps : List Int) (i : Int) (s : Sp) : addP ([], aps) i s = ([s.2], aps ++ [i]) := rfl
theorem addP_last (init aps : List Int) (t i : Int) (s : Sp) : addP (init ++ [t], aps) i s = if s.1 ≤ t then (init ++ [t], aps) else (init ++ [t] ++ [s.2], aps ++ [i]) := by
  simp [addP]
theorem OwnSl.cut {lo k : Nat} {G : Hp} {a : Option Addr} {cs : List Value} (h : OwnSl lo G a k cs) {lo' : Nat} (hlo : lo' ≤ lo) : OwnSl lo' G a k cs := by
  rcases h with h | ⟨q, h1, h2, h3, h4⟩
  · exact .inl h
  · exact .inr ⟨q, h1, Nat.le_trans hlo h2, h3, h4⟩

theorem n21 : Try.f21.ntmps = 48 := rfl
theorem ret21 : Try.f21.results = #[] := rfl
theorem add_spec {H : Hp} {p : Nat} {pts aps : List Int} (i f u : Int) (hp : PlanAt H p pts aps) (hlen : pts.length ≤ 100000) (hlen2 : aps.length ≤ 100000) :
    ACalls Try.prog 21 [.pointer (some ⟨p, 0, none⟩), .int .i64 i, .agg #[.int .i64 f, .int .i64 u]] H (fun v H' => v = .tuple #[] ∧ PlanAt H' p (addP (pts, aps) i (f, u)).1 (addP (pts, aps) i (f, u)).2 ∧ H.next ≤ H'.next ∧ ∀ b, b < p → H'.get b = H.get b) := by
  obtain ⟨hpn, a1, a2, hpg, ho1, ho2, hne⟩ := hp
  refine ACalls_enter Try.func21 (by kernel_rfl) rfl (by kernel_rfl) (by simp [n21]) fun hw hr => AWP_step ?_
  have h0 : load1 H ⟨p, 0, none⟩ = some (.slice a1 pts.length pts.length) := (l1_row _ _ _ _ _ hpg).trans rfl
  simp -implicitDefEqProofs (maxSteps := 2000000) (disch := first | omega | (simp only [nx_new, nx_set, List.length_cons, List.length_nil, List.length_map, List.length_set, ne_eq, not_true_eq_false, not_false_eq_true, Nat.succ_ne_zero]; done) | (simp only [nx_new, nx_set, List.length_cons, List.length_nil, List.length_map, List.length_set, ne_eq, not_true_eq_false, not_false_eq_true, Nat.succ_ne_zero]; omega)) only [go_sem, reduceIte, reduceCtorEq, Nat.succ_ne_zero, not_false_eq_true, decide_true, decide_false, Nat.reduceAdd, Nat.reduceMul, Nat.reduceEqDiff, Nat.reduceLeDiff]
  refine AWP_join (σ := Unit) (fun _ => [(0, .pointer (some ⟨p, 0, none⟩)), (1, .int .i64 i), (5, .pointer (some ⟨H.next, 0, none⟩))]) (fun _ => H.new (.row [.int .i64 f, .int .i64 u] true 0)) (fun _ => addP (pts, aps) i (f, u) = (pts ++ [u], aps ++ [i])) ?_ ?_
  · simp -implicitDefEqProofs (maxSteps := 2000000) (disch := first | omega | (simp only [nx_new, nx_set, List.length_cons, List.length_nil, List.length_map, List.length_set, ne_eq, not_true_eq_false, not_false_eq_true, Nat.succ_ne_zero]; done) | (simp only [nx_new, nx_set, List.length_cons, List.length_nil, List.length_map, List.length_set, ne_eq, not_true_eq_false, not_false_eq_true, Nat.succ_ne_zero]; omega)) only [go_sem, reduceIte, reduceCtorEq, Nat.succ_ne_zero, not_false_eq_true, decide_true, decide_false, Nat.reduceAdd, Nat.reduceMul, Nat.reduceEqDiff, Nat.reduceLeDiff, h0]
    refine AWP_draw_fast mo (by kernel_rfl) ?_
    rcases List.eq_nil_or_concat pts with rfl | ⟨init, t, hpt⟩
    · simp only [List.length_nil]
      simp -implicitDefEqProofs (maxSteps := 2000000) (disch := first | omega | (simp only [nx_new, nx_set, List.length_cons, List.length_nil, List.length_map, List.length_set, ne_eq, not_true_eq_false, not_false_eq_true, Nat.succ_ne_zero]; done) | (simp only [nx_new, nx_set, List.length_cons, List.length_nil, List.length_map, List.length_set, ne_eq, not_true_eq_false, not_false_eq_true, Nat.succ_ne_zero]; omega)) only [go_sem, reduceIte, reduceCtorEq, Nat.succ_ne_zero, not_false_eq_true, decide_true, decide_false, Nat.reduceAdd, Nat.reduceMul, Nat.reduceEqDiff, Nat.reduceLeDiff]
      exact ⟨(), addP_nil _ _ _, Weak.sub (by simp -implicitDefEqProofs (disch := omega) only [Abs.Sub, get_cons_eq, get_cons_ne, and_self, Int.natCast_zero, Int.natCast_add, Int.natCast_one])⟩
    · rw [List.concat_eq_append] at hpt
      have hol : pts.length = init.length + 1 := by rw [hpt]; simp
      obtain ⟨q, rfl, hq1, hq2, hqg⟩ : ∃ q, a1 = some ⟨q, 0, none⟩ ∧ p + 1 ≤ q ∧ q < H.next ∧ H.get q = .row (pts.map (Value.int .i64)) true 1 := by
        rcases ho1 with ⟨_, h⟩ | h
        · rw [hpt] at h; simp at h
        · exact h
      have hl2 : load1 H ⟨q, init.length, none⟩ = some (.int .i64 t) := by
        rw [l1_row _ _ _ _ _ hqg, hpt]; simp
      have hidx : ((pts.length : Int) - 1).toNat = init.length := by omega
      have had := addP_last init aps t i (f, u)
      rw [← hpt] at had
      simp -implicitDefEqProofs (maxSteps := 2000000) (disch := first | omega | (simp only [nx_new, nx_set, List.length_cons, List.length_nil, List.length_map, List.length_set, ne_eq, not_true_eq_false, not_false_eq_true, Nat.succ_ne_zero]; done) | (simp only [nx_new, nx_set, List.length_cons, List.length_nil, List.length_map, List.length_set, ne_eq, not_true_eq_false, not_false_eq_true, Nat.succ_ne_zero]; omega)) only [go_sem, reduceIte, reduceCtorEq, Nat.succ_ne_zero, not_false_eq_true, decide_true, decide_false, Nat.reduceAdd, Nat.reduceMul, Nat.reduceEqDiff, Nat.reduceLeDiff, h0, hidx, hl2]
      refine condS_split (fun hd => ?_) (fun hd => ?_)
      · have hle := of_decide_eq_true hd
        simp -implicitDefEqProofs (maxSteps := 2000000) (disch := first | omega | (simp only [nx_new, nx_set, List.length_cons, List.length_nil, List.length_map, List.length_set, ne_eq, not_true_eq_false, not_false_eq_true, Nat.succ_ne_zero]; done) | (simp only [nx_new, nx_set, List.length_cons, List.length_nil, List.length_map, List.length_set, ne_eq, not_true_eq_false, not_false_eq_true, Nat.succ_ne_zero]; omega)) only [go_sem, reduceIte, reduceCtorEq, Nat.succ_ne_zero, not_false_eq_true, decide_true, decide_false, Nat.reduceAdd, Nat.reduceMul, Nat.reduceEqDiff, Nat.reduceLeDiff, hd]
        refine ret_same (G := H) (v := .tuple #[]) .ret (.inr rfl) hw (Nat.le_refl _) (ares0 ret21) rfl (fun b hb => by simp -implicitDefEqProofs (maxSteps := 2000000) (disch := first | omega | (simp only [nx_new, nx_set, List.length_cons, List.length_nil, List.length_map, List.length_set, ne_eq, not_true_eq_false, not_false_eq_true, Nat.succ_ne_zero]; done) | (simp only [nx_new, nx_set, List.length_cons, List.length_nil, List.length_map, List.length_set, ne_eq, not_true_eq_false, not_false_eq_true, Nat.succ_ne_zero]; omega)) only [go_sem, reduceIte, reduceCtorEq, Nat.succ_ne_zero, not_false_eq_true, decide_true, decide_false, Nat.reduceAdd, Nat.reduceMul, Nat.reduceEqDiff, Nat.reduceLeDiff]) ⟨rfl, ?_, Nat.le_refl _, fun _ _ => rfl⟩
        rw [had, if_pos hle]
        exact ⟨hpn, _, _, hpg, ho1, ho2, hne⟩
      · have hle := of_decide_eq_false hd
        simp -implicitDefEqProofs (maxSteps := 2000000) (disch := first | omega | (simp only [nx_new, nx_set, List.length_cons, List.length_nil, List.length_map, List.length_set, ne_eq, not_true_eq_false, not_false_eq_true, Nat.succ_ne_zero]; done) | (simp only [nx_new, nx_set, List.length_cons, List.length_nil, List.length_map, List.length_set, ne_eq, not_true_eq_false, not_false_eq_true, Nat.succ_ne_zero]; omega)) only [go_sem, reduceIte, reduceCtorEq, Nat.succ_ne_zero, not_false_eq_true, decide_true, decide_false, Nat.reduceAdd, Nat.reduceMul, Nat.reduceEqDiff, Nat.reduceLeDiff, hd]
        exact ⟨(), by rw [had, if_neg hle], Weak.sub (by simp -implicitDefEqProofs (disch := omega) only [Abs.Sub, get_cons_eq, get_cons_ne, and_self, Int.natCast_zero, Int.natCast_add, Int.natCast_one])⟩
  · rintro _ had
    rw [had]
    refine AWP_of_awp ?_
    simp -implicitDefEqProofs (maxSteps := 2000000) (disch := first | omega | (simp only [nx_new, nx_set, List.length_cons, List.length_nil, List.length_map, List.length_set, ne_eq, not_true_eq_false, not_false_eq_true, Nat.succ_ne_zero]; done) | (simp only [nx_new, nx_set, List.length_cons, List.length_nil, List.length_map, List.length_set, ne_eq, not_true_eq_false, not_false_eq_true, Nat.succ_ne_zero]; omega)) only [go_sem, reduceIte, reduceCtorEq, Nat.succ_ne_zero, not_false_eq_true, decide_true, decide_false, Nat.reduceAdd, Nat.reduceMul, Nat.reduceEqDiff, Nat.reduceLeDiff]
    refine AWP_draw_fast mo (by kernel_rfl) ?_
    have hb1 : (pts.map (Value.int .i64)).length = pts.length * 1 := by simp
    have hb2 : (aps.map (Value.int .i64)).length = aps.length * 1 := by simp
    have k1 : Keeps H ((H.new (.row [.int .i64 f, .int .i64 u] true 0)).new (.row [.int .i64 u] true 1)) := (Keeps.new _ _).trans (Keeps.new _ _)
    obtain ⟨G1, hap1, hn1, hg1, hold1⟩ := append_own (P := Try.prog) u23 u23 ts3 tb3 tz3 rfl (by decide) (by decide) (lo := p + 1) (n := pts.length) (c := pts.length) (m := 1) (c' := 1) (r := H.next + 1) (ro := 0) (xs := [.int .i64 u]) (ho1.keeps k1) (by simp -implicitDefEqProofs (maxSteps := 2000000) (disch := first | omega | (simp only [nx_new, nx_set, List.length_cons, List.length_nil, List.length_map, List.length_set, ne_eq, not_true_eq_false, not_false_eq_true, Nat.succ_ne_zero]; done) | (simp only [nx_new, nx_set, List.length_cons, List.length_nil, List.length_map, List.length_set, ne_eq, not_true_eq_false, not_false_eq_true, Nat.succ_ne_zero]; omega)) only [go_sem, reduceIte, reduceCtorEq, Nat.succ_ne_zero, not_false_eq_true, decide_true, decide_false, Nat.reduceAdd, Nat.reduceMul, Nat.reduceEqDiff, Nat.reduceLeDiff]) rfl (by decide) hb1 (by omega)
    have hG1p : G1.get p = H.get p := by
      rw [hold1 p (by simp only [Hp.next_new]; omega) (ho1.lo_ne (by omega))]
      exact k1.get p hpn
    have hp1 : load1 G1 ⟨p, 0, none⟩ = some (.slice a1 pts.length pts.length) := (l1_row _ _ _ _ _ (hG1p.trans hpg)).trans rfl
    simp -implicitDefEqProofs (maxSteps := 2000000) (disch := first | omega | (simp only [nx_new, nx_set, List.length_cons, List.length_nil, List.length_map, List.length_set, ne_eq, not_true_eq_false, not_false_eq_true, Nat.succ_ne_zero]; done) | (simp only [nx_new, nx_set, List.length_cons, List.length_nil, List.length_map, List.length_set, ne_eq, not_true_eq_false, not_false_eq_true, Nat.succ_ne_zero]; omega)) only [go_sem, reduceIte, reduceCtorEq, Nat.succ_ne_zero, not_false_eq_true, decide_true, decide_false, Nat.reduceAdd, Nat.reduceMul, Nat.reduceEqDiff, Nat.reduceLeDiff, h0]
    rw [hap1]
    simp -implicitDefEqProofs (maxSteps := 2000000) (disch := first | omega | (simp only [nx_new, nx_set, List.length_cons, List.length_nil, List.length_map, List.length_set, ne_eq, not_true_eq_false, not_false_eq_true, Nat.succ_ne_zero]; done) | (simp only [nx_new, nx_set, List.length_cons, List.length_nil, List.length_map, List.length_set, ne_eq, not_true_eq_false, not_false_eq_true, Nat.succ_ne_zero]; omega)) only [go_sem, reduceIte, reduceCtorEq, Nat.succ_ne_zero, not_false_eq_true, decide_true, decide_false, Nat.reduceAdd, Nat.reduceMul, Nat.reduceEqDiff, Nat.reduceLeDiff, hG1p, hpg]
    have o2 : OwnSl (p + 1) (G1.set p (.row [.slice (some ⟨H.next + 1 + 1, 0, none⟩) (pts.length + 1) (pts.length + 1), .slice a2 aps.length aps.length] true 0)) a2 1 (aps.map (Value.int .i64)) := by
      rcases ho2 with h | ⟨q, h1, h2, h3, h4⟩
      · exact .inl h
      · refine .inr ⟨q, h1, h2, by rw [Hp.next_set, hn1]; simp only [Hp.next_new]; omega, ?_⟩
        rw [Hp.get_set_ne _ _ _ _ (by omega), hold1 q (by simp only [Hp.next_new]; omega) (fun r hr => by have := hne r hr _ h1; simp only at this; omega)]
        rw [← h4]
        exact k1.get q h3
    generalize hX : G1.set p (.row [.slice (some ⟨H.next + 1 + 1, 0, none⟩) (pts.length + 1) (pts.length + 1), .slice a2 aps.length aps.length] true 0) = X at *
    have hXn : X.next = H.next + 1 + 1 + 1 := by rw [← hX, Hp.next_set, hn1]; rfl
    have hXp : X.get p = .row [.slice (some ⟨H.next + 1 + 1, 0, none⟩) (pts.length + 1) (pts.length + 1), .slice a2 aps.length aps.length] true 0 := by rw [← hX]; exact Hp.get_set_same _ _ _ _ rfl
    have hX1 : load1 X ⟨p, 1, none⟩ = some (.slice a2 aps.length aps.length) := (l1_row _ _ _ _ _ hXp).trans rfl
    have hGX : G1.next = X.next := by rw [hXn, hn1]; rfl
    have hXg : X.get (H.next + 1 + 1) = .row (pts.map (Value.int .i64) ++ [.int .i64 u]) true 1 := by rw [← hX, Hp.get_set_ne _ _ _ _ (by omega)]; exact hg1
    have hXo : ∀ b, b < p → X.get b = H.get b := fun b hb => by
      rw [← hX, Hp.get_set_ne _ _ _ _ (by omega), hold1 b (by simp only [Hp.next_new]; omega) (ho1.lo_ne (by omega))]
      exact k1.get b (by omega)
    obtain ⟨G2, hap2, hn2, hg2, hold2⟩ := append_own (P := Try.prog) u23 u23 ts3 tb3 tz3 rfl (by decide) (by decide) (lo := p + 1) (n := aps.length) (c := aps.length) (m := 1) (c' := 1) (r := X.next) (ro := 0) (xs := [.int .i64 i]) (o2.keeps (Keeps.new X (.row [.int .i64 i] true 1))) (by simp -implicitDefEqProofs (maxSteps := 2000000) (disch := first | omega | (simp only [nx_new, nx_set, List.length_cons, List.length_nil, List.length_map, List.length_set, ne_eq, not_true_eq_false, not_false_eq_true, Nat.succ_ne_zero]; done) | (simp only [nx_new, nx_set, List.length_cons, List.length_nil, List.length_map, List.length_set, ne_eq, not_true_eq_false, not_false_eq_true, Nat.succ_ne_zero]; omega)) only [go_sem, reduceIte, reduceCtorEq, Nat.succ_ne_zero, not_false_eq_true, decide_true, decide_false, Nat.reduceAdd, Nat.reduceMul, Nat.reduceEqDiff, Nat.reduceLeDiff]) rfl (by decide) hb2 (by omega)
    have hG2p : G2.get p = X.get p := by
      rw [hold2 p (by simp only [Hp.next_new]; omega) (o2.lo_ne (by omega)), Hp.get_new_ne _ _ _ (by omega)]
    rw [hGX, hap2]
    simp -implicitDefEqProofs (maxSteps := 2000000) (disch := first | omega | (simp only [nx_new, nx_set, List.length_cons, List.length_nil, List.length_map, List.length_set, ne_eq, not_true_eq_false, not_false_eq_true, Nat.succ_ne_zero]; done) | (simp only [nx_new, nx_set, List.length_cons, List.length_nil, List.length_map, List.length_set, ne_eq, not_true_eq_false, not_false_eq_true, Nat.succ_ne_zero]; omega)) only [go_sem, reduceIte, reduceCtorEq, Nat.succ_ne_zero, not_false_eq_true, decide_true, decide_false, Nat.reduceAdd, Nat.reduceMul, Nat.reduceEqDiff, Nat.reduceLeDiff, hG2p, hXp]
    have hq2 : ∀ q, a2 = some q → q.block < H.next := fun q hq => by
      rcases ho2 with ⟨h, _⟩ | ⟨q', h1, _, h3, _⟩
      · rw [h] at hq; cases hq
      · rw [h1] at hq; cases hq; exact h3
    refine ret_n (v := .tuple #[]) (ares0 ret21) ⟨rfl, ⟨?_, some ⟨H.next + 1 + 1, 0, none⟩, some ⟨X.next + 1, 0, none⟩, ?_, .inr ⟨H.next + 1 + 1, rfl, by omega, ?_, ?_⟩, .inr ⟨X.next + 1, rfl, by omega, ?_, ?_⟩, ?_⟩, ?_, fun b hb => ?_⟩
    · rw [Hp.next_set, hn2]; simp only [Hp.next_new]; omega
    · simp only [List.length_append, List.length_singleton]
      exact Hp.get_set_same _ _ _ _ rfl
    · rw [Hp.next_set, hn2]; simp only [Hp.next_new]; omega
    · rw [Hp.get_set_ne _ _ _ _ (by omega), hold2 _ (by simp only [Hp.next_new]; omega) (fun q hq => by have := hq2 q hq; omega), Hp.get_new_ne _ _ _ (by omega), hXg, List.map_append]
      rfl
    · rw [Hp.next_set, hn2]; simp only [Hp.next_new]; omega
    · rw [Hp.get_set_ne _ _ _ _ (by omega), List.map_append]
      exact hg2
    · intro q hq r hr
      cases hq; cases hr
      simp only
      omega
    · rw [Hp.next_set, hn2]; simp only [Hp.next_new]; omega
    · rw [Hp.get_set_ne _ _ _ _ (by omega), hold2 b (by simp only [Hp.next_new]; omega) (o2.lo_ne (by omega)), Hp.get_new_ne _ _ _ (by omega)]
      exact hXo b hb

/-! ### Plan -/
/-- The chosen spans: of those behind P the one that ends first (the first of them), and so on. -/
def Chain (l : List Sp) : Int → List Nat → Prop
  | P, [] => ∀ j, j < l.length → (at_ l j).1 ≤ P
  | P, i :: r => i < l.length ∧ P < (at_ l i).1 ∧ (∀ j, j < l.length → P < (at_ l j).1 → bf (till l) i j ∨ i = j) ∧ Chain l (till l i) r
theorem Chain.unique {l : List Sp} : ∀ {xs ys : List Nat} {P : Int}, Chain l P xs → Chain l P ys → xs = ys
  | [], [], _, _, _ => rfl
  | [], y :: ys, P, hx, hy => by have := hx y hy.1; have := hy.2.1; omega
  | x :: xs, [], P, hx, hy => by have := hy x hx.1; have := hx.2.1; omega
  | x :: xs, y :: ys, P, hx, hy => by
    have e : x = y := by
      rcases hx.2.2.1 y hy.1 hy.2.1 with h | h
      · rcases hy.2.2.1 x hx.1 hx.2.1 with h' | h'
        · exact absurd (h.trans h') (bef_irrefl _)
        · exact h'.symm
      · exact h
    subst e
    rw [Chain.unique hx.2.2.2 hy.2.2.2]
end Go.Proofs.Ytjgdmjoafpbnaaa
