/- DetectOrder, walked. -/
import Derived.Test.YtjdmndklnfhmjaaXk
set_option linter.unusedVariables false
set_option linter.unusedSimpArgs false
set_option linter.unusedSectionVars false
namespace Go.Proofs.Ytjdmndklnfhmjaa
open Go.Abs
set_option maxHeartbeats 8000000
set_option maxRecDepth 100000
def chg (v a : Int) (d : Det) : Det := ⟨d.t, d.c, d.f, v, a⟩
theorem chg_ok {v a : Int} {d : Det} (h : okD d = true) (h1 : 0 ≤ v) (h2 : v ≤ 1000000) (h3 : 0 ≤ a) (h4 : a ≤ 38399) : okD (chg v a d) = true := by
  have h0 := okD_pl h
  show (okP d.t d.c d.f && decide (0 ≤ v) && decide (v ≤ 1000000) && decide (0 ≤ a) && decide (a ≤ 38399)) = true
  have h0 : okP d.t d.c d.f = true := h0
  rw [h0, decide_eq_true h1, decide_eq_true h2, decide_eq_true h3, decide_eq_true h4]; rfl
theorem chg_pl (v a : Int) (l : List Det) : (l.map (chg v a)).map Det.pl = l.map Det.pl := by rw [List.map_map]; rfl
theorem rank_rev {l : List Pl} {L : List Pl} (h : Rank l.reverse L) : Rank l L := ⟨h.1, fun p => (h.2 p).trans (List.mem_reverse)⟩
theorem tal_rev (l : List Pl) : talOf l.reverse = talOf l := by
  funext p
  simp only [talOf, List.count_reverse]
theorem rank_len {ps L : List Pl} (h : Rank ps L) : L.length ≤ ps.length := by
  have hnd : (L.map Pl.ints).Nodup := List.pairwise_map.2 (h.1.imp fun {x y} hlt e => by
    rw [ints_inj e] at hlt; exact lt_irrefl _ hlt)
  have := nodup_len (t := ps.map Pl.ints) hnd (fun k hk => by
    obtain ⟨p, hp, rfl⟩ := List.mem_map.1 hk
    exact List.mem_map.2 ⟨p, (h.2 p).1 hp, rfl⟩)
  rw [List.length_map, List.length_map] at this
  exact this
theorem cv42 {x : Int} (h : 0 ≤ x ∧ x < 65536) : aconv Try.prog 42 3 (.int .u16 x) = some (.int .i64 x) := by
  have hw : IntKind.i64.wrap x = x := wrap_i64 (by omega) (by omega)
  simp only [aconv, u42, u3, hw]
/-- One element more, in a slice of one's own. -/
theorem app_step {P : Program} {t1 t2 e e2 : TypeId} {size bytes : Nat} {z : Value} (u1 : P.underlying t1 = some (.slice e)) (u2 : P.underlying t2 = some (.slice e2)) (hsz : tsz P e = some size) (hb : tbytes P e = some bytes) (hz : tzero P e = some z) (hzs : z.cells.size = size) (hb0 : bytes ≠ 0) (hs0 : size ≠ 0)
    {lo k : Nat} {G : Hp} {o : Option Addr} {cs xs : List Value} (ho : OwnSl lo G o size cs) (hlo : lo ≤ G.next) (hxl : xs.length = size) (hx1 : xs.all Abs.one = true) (hcs : cs.length = k * size) (hbd : (k + 1) * bytes ≤ 140737488355328) :
    ∃ G7, aappend P (G.new (.row xs true size)) [t1, t2] (.slice o k k) (.slice (some ⟨G.next, 0, none⟩) 1 1) = some (.slice (some ⟨G.next + 1, 0, none⟩) (k + 1) (k + 1), G7) ∧ G7.next = G.next + 2 ∧ OwnSl lo G7 (some ⟨G.next + 1, 0, none⟩) size (cs ++ xs) ∧
      (∀ B, Keeps B G → B.next ≤ lo → Keeps B G7) ∧ (∀ b, b < lo → G7.get b = G.get b) := by
  have hx : aload (G.new (.row xs true size)) ⟨G.next, 0, none⟩ (1 * size) = some xs := by
    rw [aload_row (Hp.get_new_same _ _ _ rfl) (by omega), List.drop_zero, List.take_of_length_le (by omega)]
  obtain ⟨G7, hap, h7n, h7g, hold, hob⟩ := append_own u1 u2 hsz hb hz hzs hb0 hs0 (ho.keeps (Keeps.new G (.row xs true size))) hx hx1 (by decide) hcs hbd (c := k) (c' := 1)
  simp only [Hp.next_new] at hap h7n h7g hold
  have hold' : ∀ b, b < lo → G7.get b = G.get b := fun b hb => by
    rw [hold b (by omega) (ho.lo_ne hb), Hp.get_new_ne _ _ _ (by omega)]
  exact ⟨G7, hap, h7n, .inr ⟨G.next + 1, rfl, by omega, by omega, h7g⟩, fun B hB hBl => ⟨by have := hB.next; omega, fun b hb => (hold' b (by omega)).trans (hB.get b hb), fun r y hy => by rw [hob]; exact hB.ob r y hy⟩, hold'⟩
theorem n5 : Try.f5.ntmps = 65 := rfl
theorem ret5 : Try.f5.results = #[.tmp 6] := rfl
theorem order_law (H : Hp) (a : Option Addr) (l : List Det) (v at_ : Int) (he : Elems H a 5 (l.map Det.cells)) (hvw : (Lit.int .u16 v).wf = true) (haw : (Lit.int .u16 at_).wf = true) :
    ACalls Try.prog 5 [.slice a l.length l.length, .int .u16 v, .int .u16 at_] H (fun x _ => x = .bool true) := by
  have hv : 0 ≤ v ∧ v < 65536 := by
    simp [Lit.wf, IntKind.min, IntKind.max, IntKind.signed, IntKind.bits] at hvw; omega
  have ha : 0 ≤ at_ ∧ at_ < 65536 := by
    simp [Lit.wf, IntKind.min, IntKind.max, IntKind.signed, IntKind.bits] at haw; omega
  refine ACalls_enter Try.func5 (by kernel_rfl) rfl (by kernel_rfl) (by simp [n5]) fun hw hr => AWP_of_awp ?_
  simp -implicitDefEqProofs (maxSteps := 2000000) (disch := first | omega | (simp only [nx_new, nx_set, List.length_cons, List.length_nil, List.length_map, List.length_set, ne_eq, not_true_eq_false, not_false_eq_true, Nat.succ_ne_zero]; done) | (simp only [nx_new, nx_set, List.length_cons, List.length_nil, List.length_map, List.length_set, ne_eq, not_true_eq_false, not_false_eq_true, Nat.succ_ne_zero]; omega)) only [go_sem, reduceIte, reduceCtorEq, Nat.succ_ne_zero, not_false_eq_true, decide_true, decide_false, Nat.reduceAdd, Nat.reduceMul, Nat.reduceEqDiff, Nat.reduceLeDiff]
  refine (head_spec H).mono ?_
  rintro _ G1 ⟨rfl, k1⟩
  have he1 := Elems.km he k1
  simp -implicitDefEqProofs (maxSteps := 2000000) (disch := first | omega | (simp only [nx_new, nx_set, List.length_cons, List.length_nil, List.length_map, List.length_set, ne_eq, not_true_eq_false, not_false_eq_true, Nat.succ_ne_zero]; done) | (simp only [nx_new, nx_set, List.length_cons, List.length_nil, List.length_map, List.length_set, ne_eq, not_true_eq_false, not_false_eq_true, Nat.succ_ne_zero]; omega)) only [go_sem, reduceIte, reduceCtorEq, Nat.succ_ne_zero, not_false_eq_true, decide_true, decide_false, Nat.reduceAdd, Nat.reduceMul, Nat.reduceEqDiff, Nat.reduceLeDiff]
  refine condS_split (fun hc => ?_) (fun hc => ?_)
  · simp -implicitDefEqProofs (maxSteps := 2000000) (disch := first | omega | (simp only [nx_new, nx_set, List.length_cons, List.length_nil, List.length_map, List.length_set, ne_eq, not_true_eq_false, not_false_eq_true, Nat.succ_ne_zero]; done) | (simp only [nx_new, nx_set, List.length_cons, List.length_nil, List.length_map, List.length_set, ne_eq, not_true_eq_false, not_false_eq_true, Nat.succ_ne_zero]; omega)) only [go_sem, reduceIte, reduceCtorEq, Nat.succ_ne_zero, not_false_eq_true, decide_true, decide_false, Nat.reduceAdd, Nat.reduceMul, Nat.reduceEqDiff, Nat.reduceLeDiff, hc]
    exact ret_r (v := .bool true) (by rw [ares_tmp ret5]; rfl) rfl
  have h40 : l.length ≤ 40 := by have := of_decide_eq_false hc; omega
  simp -implicitDefEqProofs (maxSteps := 2000000) (disch := first | omega | (simp only [nx_new, nx_set, List.length_cons, List.length_nil, List.length_map, List.length_set, ne_eq, not_true_eq_false, not_false_eq_true, Nat.succ_ne_zero]; done) | (simp only [nx_new, nx_set, List.length_cons, List.length_nil, List.length_map, List.length_set, ne_eq, not_true_eq_false, not_false_eq_true, Nat.succ_ne_zero]; omega)) only [go_sem, reduceIte, reduceCtorEq, Nat.succ_ne_zero, not_false_eq_true, decide_true, decide_false, Nat.reduceAdd, Nat.reduceMul, Nat.reduceEqDiff, Nat.reduceLeDiff, hc]
  refine (count_spec G1 a l (by omega) he1).mono ?_
  rintro _ G2 ⟨hc2, k2⟩
  rcases hc2 with ⟨h, _⟩ | ⟨_, _, rfl⟩ | ⟨_, hall, o2, L2, hR2, rfl, ho2⟩
  · omega
  · simp -implicitDefEqProofs (maxSteps := 2000000) (disch := first | omega | (simp only [nx_new, nx_set, List.length_cons, List.length_nil, List.length_map, List.length_set, ne_eq, not_true_eq_false, not_false_eq_true, Nat.succ_ne_zero]; done) | (simp only [nx_new, nx_set, List.length_cons, List.length_nil, List.length_map, List.length_set, ne_eq, not_true_eq_false, not_false_eq_true, Nat.succ_ne_zero]; omega)) only [go_sem, reduceIte, reduceCtorEq, Nat.succ_ne_zero, not_false_eq_true, decide_true, decide_false, Nat.reduceAdd, Nat.reduceMul, Nat.reduceEqDiff, Nat.reduceLeDiff]
    exact ret_r (v := .bool true) (by rw [ares_tmp ret5]; rfl) rfl
  have he2 := Elems.km he1 k2
  have hok : ∀ d, d ∈ l → okD d = true := List.all_eq_true.1 hall
  obtain ⟨w, hw2⟩ : ∃ w, w = at_ % 38400 := ⟨_, rfl⟩
  have hw3 : 0 ≤ w ∧ w ≤ 38399 := by omega
  have hmod : at_.tmod 38400 = w := by rw [hw2]; exact Int.tmod_eq_emod_of_nonneg ha.1
  simp -implicitDefEqProofs (maxSteps := 2000000) (disch := first | omega | (simp only [nx_new, nx_set, List.length_cons, List.length_nil, List.length_map, List.length_set, ne_eq, not_true_eq_false, not_false_eq_true, Nat.succ_ne_zero]; done) | (simp only [nx_new, nx_set, List.length_cons, List.length_nil, List.length_map, List.length_set, ne_eq, not_true_eq_false, not_false_eq_true, Nat.succ_ne_zero]; omega)) only [go_sem, reduceIte, reduceCtorEq, Nat.succ_ne_zero, not_false_eq_true, decide_true, decide_false, Nat.reduceAdd, Nat.reduceMul, Nat.reduceEqDiff, Nat.reduceLeDiff]
  have hbk : ∀ k, k ≤ l.length → ((l.reverse.take k).map (chg v w)).length = k := fun k hk => by rw [List.length_map, List.length_take, List.length_reverse]; omega
  refine AWP_loop (σ := Nat × Hp × Option Addr) (fun s => [(11, .int .i64 ((l.length : Int) - 1 - s.1)), (10, .slice s.2.2 s.1 s.1), (8, .slice o2 L2.length L2.length), (7, .bool true), (0, .slice a l.length l.length), (1, .int .u16 v), (2, .int .u16 at_)]) (fun s => s.2.1)
    (fun s => s.1 ≤ l.length ∧ Keeps G2 s.2.1 ∧ OwnSl G2.next s.2.1 s.2.2 5 (((l.reverse.take s.1).map (chg v w)).map Det.cells).flatten) (fun s => l.length - s.1) (0, G2, none) ⟨Nat.zero_le _, Keeps.refl _, OwnSl.none⟩ (Weak.sub ?_) ?_
  · (simp -implicitDefEqProofs (disch := omega) only [Abs.Sub, get_cons_eq, get_cons_ne, and_self, Option.some.injEq, Value.int.injEq, Value.slice.injEq, true_and, and_true, Int.natCast_zero, Int.natCast_add, Int.natCast_one, List.length_nil]; try omega)
  rintro ⟨k, G, o⟩ ⟨hk4, hk, ho⟩
  simp only at hk4 hk ho ⊢
  have hkn := hk.next
  refine AWP_of_awp ?_
  by_cases hlt : k < l.length
  · have hi : l.length - 1 - k < l.length := by omega
    obtain ⟨b, ob, rfl, hload⟩ := det_at (he2.grows hk.grows) (l.length - 1 - k) hi
    have hix : (l.length : Int) - 1 - k = ((l.length - 1 - k : Nat) : Int) := by omega
    have hrl : k < l.reverse.length := by rw [List.length_reverse]; exact hlt
    have htk : (l.reverse.take (k + 1)).map (chg v w) = (l.reverse.take k).map (chg v w) ++ [chg v w l[l.length - 1 - k]] := by
      rw [List.take_succ_eq_append_getElem hrl, List.map_append, List.getElem_reverse]; rfl
    have hfl : (((l.reverse.take k).map (chg v w)).map Det.cells).flatten.length = k * 5 := by rw [dets_flat, hbk k hk4]
    have hi2 : (l.length : Int) - 1 - k - 1 = (l.length : Int) - 1 - ((k + 1 : Nat) : Int) := by omega
    generalize l[l.length - 1 - k] = x at *
    have hxc : x.cells = [.int .i64 x.t, .int .i64 x.c, .int .i64 x.f, .int .i64 x.v, .int .i64 x.a] := rfl
    rw [hxc] at hload
    have hge : (0 : Int) ≤ (l.length : Int) - 1 - k := by omega
    have hwr1 : IntKind.i64.wrap v = v := wrap_i64 (by omega) (by omega)
    have hwr2 : IntKind.i64.wrap at_ = at_ := wrap_i64 (by omega) (by omega)
    have hwr3 : IntKind.i64.wrap w = w := wrap_i64 (by omega) (by omega)
    have cvr : abin Try.prog .rem 3 (.int .i64 at_) (.int .i64 38400) = some (.int .i64 w) := by simp -implicitDefEqProofs (maxSteps := 2000000) (disch := first | omega | (simp only [nx_new, nx_set, List.length_cons, List.length_nil, List.length_map, List.length_set, ne_eq, not_true_eq_false, not_false_eq_true, Nat.succ_ne_zero]; done) | (simp only [nx_new, nx_set, List.length_cons, List.length_nil, List.length_map, List.length_set, ne_eq, not_true_eq_false, not_false_eq_true, Nat.succ_ne_zero]; omega)) only [go_sem, reduceIte, reduceCtorEq, Nat.succ_ne_zero, not_false_eq_true, decide_true, decide_false, Nat.reduceAdd, Nat.reduceMul, Nat.reduceEqDiff, Nat.reduceLeDiff, hmod, hwr3]
    simp -implicitDefEqProofs (maxSteps := 2000000) (disch := first | omega | (simp only [nx_new, nx_set, List.length_cons, List.length_nil, List.length_map, List.length_set, ne_eq, not_true_eq_false, not_false_eq_true, Nat.succ_ne_zero]; done) | (simp only [nx_new, nx_set, List.length_cons, List.length_nil, List.length_map, List.length_set, ne_eq, not_true_eq_false, not_false_eq_true, Nat.succ_ne_zero]; omega)) only [go_sem, reduceIte, reduceCtorEq, Nat.succ_ne_zero, not_false_eq_true, decide_true, decide_false, Nat.reduceAdd, Nat.reduceMul, Nat.reduceEqDiff, Nat.reduceLeDiff, hix, hload, cv42 hv, cv42 ha, cvr]
    obtain ⟨M, eM⟩ : ∃ M, M = G.new (.row [.int .i64 x.t, .int .i64 x.c, .int .i64 x.f, .int .i64 v, .int .i64 w] true 0) := ⟨_, rfl⟩
    have nM : M.next = G.next + 1 := by rw [eM]; rfl
    rw [← eM, ← nM]
    have kM : Keeps G M := by rw [eM]; exact Keeps.new _ _
    clear eM
    obtain ⟨G7, hap, h7n, ho7, hk7, _⟩ := app_step (P := Try.prog) (t1 := 27) (t2 := 27) u27 u27 ts32 tb32 tz32 rfl (by decide) (by decide) (k := k) (xs := [.int .i64 x.t, .int .i64 x.c, .int .i64 x.f, .int .i64 v, .int .i64 w]) (ho.keeps kM) (by omega) rfl rfl hfl (by omega)
    rw [hap]
    refine ⟨(k + 1, G7, some ⟨M.next + 1, 0, none⟩), ⟨hlt, hk7 _ (hk.trans kM) (Nat.le_refl _), ?_⟩, by simp only; omega, Weak.sub (by rw [← hix, hi2]; (simp -implicitDefEqProofs (disch := omega) only [Abs.Sub, get_cons_eq, get_cons_ne, and_self, Option.some.injEq, Value.int.injEq, Value.slice.injEq, true_and, and_true, Int.natCast_zero, Int.natCast_add, Int.natCast_one, List.length_nil]; try omega))⟩
    rw [htk, List.map_append, List.flatten_append]
    exact ho7
  · obtain rfl : k = l.length := by omega
    rw [List.take_of_length_le (by rw [List.length_reverse]; exact Nat.le_refl _)] at ho
    have hex := ho.elems (dets_len _) (by decide)
    have hlen : (l.reverse.map (chg v w)).length = l.length := by rw [List.length_map, List.length_reverse]
    have hall' : (l.reverse.map (chg v w)).all okD = true := List.all_eq_true.2 fun d hd => by
      obtain ⟨y, hy, rfl⟩ := List.mem_map.1 hd
      exact chg_ok (hok y (List.mem_reverse.1 hy)) hv.1 (by omega) hw3.1 hw3.2
    have hpl : (l.reverse.map (chg v w)).map Det.pl = (l.map Det.pl).reverse := by rw [chg_pl, List.map_reverse]
    have hcs := count_spec G o (l.reverse.map (chg v w)) (by omega) hex
    rw [hlen] at hcs
    simp -implicitDefEqProofs (maxSteps := 2000000) (disch := first | omega | (simp only [nx_new, nx_set, List.length_cons, List.length_nil, List.length_map, List.length_set, ne_eq, not_true_eq_false, not_false_eq_true, Nat.succ_ne_zero]; done) | (simp only [nx_new, nx_set, List.length_cons, List.length_nil, List.length_map, List.length_set, ne_eq, not_true_eq_false, not_false_eq_true, Nat.succ_ne_zero]; omega)) only [go_sem, reduceIte, reduceCtorEq, Nat.succ_ne_zero, not_false_eq_true, decide_true, decide_false, Nat.reduceAdd, Nat.reduceMul, Nat.reduceEqDiff, Nat.reduceLeDiff]
    refine hcs.mono ?_
    rintro _ G4 ⟨hc4, k4⟩
    rcases hc4 with ⟨h, _⟩ | ⟨_, h, _⟩ | ⟨_, _, o4, L4, hR4, rfl, ho4⟩
    · omega
    · rw [hall'] at h; cases h
    rw [hpl] at hR4 ho4
    rw [tal_rev] at ho4
    obtain rfl := rank_unique (rank_rev hR4) hR2
    have hL4 := rank_len hR2
    rw [List.length_map] at hL4
    have hs := same_spec G4 o2 o4 L4.length L4.length (L4.map (talOf (l.map Det.pl))) (L4.map (talOf (l.map Det.pl))) (by rw [List.length_map]; omega) (by rw [List.length_map]; omega) (Elems.km (ho2.elems (tals_len _) (by decide)) ((KM.of hk).trans k4)) (ho4.elems (tals_len _) (by decide))
    rw [List.length_map] at hs
    simp -implicitDefEqProofs (maxSteps := 2000000) (disch := first | omega | (simp only [nx_new, nx_set, List.length_cons, List.length_nil, List.length_map, List.length_set, ne_eq, not_true_eq_false, not_false_eq_true, Nat.succ_ne_zero]; done) | (simp only [nx_new, nx_set, List.length_cons, List.length_nil, List.length_map, List.length_set, ne_eq, not_true_eq_false, not_false_eq_true, Nat.succ_ne_zero]; omega)) only [go_sem, reduceIte, reduceCtorEq, Nat.succ_ne_zero, not_false_eq_true, decide_true, decide_false, Nat.reduceAdd, Nat.reduceMul, Nat.reduceEqDiff, Nat.reduceLeDiff]
    refine ACalls.use_eq hs ?_
    simp -implicitDefEqProofs (maxSteps := 2000000) (disch := first | omega | (simp only [nx_new, nx_set, List.length_cons, List.length_nil, List.length_map, List.length_set, ne_eq, not_true_eq_false, not_false_eq_true, Nat.succ_ne_zero]; done) | (simp only [nx_new, nx_set, List.length_cons, List.length_nil, List.length_map, List.length_set, ne_eq, not_true_eq_false, not_false_eq_true, Nat.succ_ne_zero]; omega)) only [go_sem, reduceIte, reduceCtorEq, Nat.succ_ne_zero, not_false_eq_true, decide_true, decide_false, Nat.reduceAdd, Nat.reduceMul, Nat.reduceEqDiff, Nat.reduceLeDiff]
    exact ret_r (v := .bool true) (by rw [ares_tmp ret5]; rfl) rfl
end Go.Proofs.Ytjdmndklnfhmjaa
