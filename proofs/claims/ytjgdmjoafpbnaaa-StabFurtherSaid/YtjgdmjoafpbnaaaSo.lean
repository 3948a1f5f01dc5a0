/- StabMoves. -/
import Derived.Test.YtjgdmjoafpbnaaaSn
set_option linter.unusedVariables false
set_option linter.unusedSimpArgs false
set_option linter.unusedSectionVars false
namespace Go.Proofs.Ytjgdmjoafpbnaaa
open Go.Abs Go.Sm
set_option maxHeartbeats 8000000
set_option maxRecDepth 100000

theorem OwnSl_other {lo k : Nat} {G G' : Hp} {a : Option Addr} {cs : List Value} (h : OwnSl lo G a k cs) (hn : G.next ≤ G'.next) (hg : ∀ q, a = some q → G'.get q.block = G.get q.block) : OwnSl lo G' a k cs := by
  rcases h with h | ⟨q, h1, h2, h3, h4⟩
  · exact .inl h
  · exact .inr ⟨q, h1, h2, by omega, by rw [hg _ h1]; exact h4⟩
theorem OwnSl_lt {lo k : Nat} {G : Hp} {a : Option Addr} {cs : List Value} (h : OwnSl lo G a k cs) : ∀ q, a = some q → q.block < G.next := by
  intro q hq
  rcases h with ⟨h1, _⟩ | ⟨q', h1, _, h3, _⟩
  · rw [h1] at hq; cases hq
  · rw [h1] at hq; cases hq; exact h3
def mv (d : Int) (l : List Sp) : List Sp := l.map fun s => (s.1 + d, s.2 + d)
def tn (l : List Sp) : List Sp := l.map fun s => (-s.2, -s.1)
theorem mv_len (d : Int) (l : List Sp) : (mv d l).length = l.length := List.length_map _
theorem tn_len (l : List Sp) : (tn l).length = l.length := List.length_map _
theorem mv_succ {d : Int} {l : List Sp} {k : Nat} (hk : k < l.length) : mv d (l.take (k + 1)) = mv d (l.take k) ++ [(l[k].1 + d, l[k].2 + d)] := by
  rw [mv, List.take_succ_eq_append_getElem hk, List.map_append]; rfl
theorem tn_succ {l : List Sp} {k : Nat} (hk : k < l.length) : tn (l.take (k + 1)) = tn (l.take k) ++ [(-l[k].2, -l[k].1)] := by
  rw [tn, List.take_succ_eq_append_getElem hk, List.map_append]; rfl
theorem valid_mk {l : List Sp} (h : l.length ≤ 1000) (ha : ∀ s, s ∈ l → okS s = true) : validB l = true := by
  rw [validB, decide_eq_true h, Bool.true_and, List.all_eq_true]; exact ha
theorem tn_valid {l : List Sp} (h : validB l = true) : validB (tn l) = true := by
  have hl : l.length ≤ 1000 := by
    simp only [validB, Bool.and_eq_true, decide_eq_true_eq] at h; exact h.1
  refine valid_mk (by rw [tn_len]; exact hl) fun s hs => ?_
  obtain ⟨t, ht, rfl⟩ := List.mem_map.1 hs
  have := valid_in h t ht
  simp only [okS, Bool.and_eq_true, decide_eq_true_eq]
  omega
theorem moved_spec {G : Hp} {o : Option Addr} {l : List Sp} {d : Int} {c : List Nat} (hl : l.length ≤ 1000) (hv : validB l = true) (hch : Chain l (-40000) c) (he : Elems G o 2 ((mv d l).map spc)) :
    ACalls Try.prog 12 [.slice o l.length l.length] G (fun v H' => Keeps G H' ∧ ∃ (o1 o2 : Option Addr) (mp : List Int) (n2 : Nat) (cd : Int), v = .tuple #[.slice o1 mp.length mp.length, .slice o2 n2 n2, .int .i64 cd] ∧ Elems H' o1 1 (mp.map ic) ∧
      (∀ i (h1 : i < mp.length) (h2 : i < (ptsOf l c).length), mp[i] = (ptsOf l c)[i] + d) ∧ ((cd = 0 ∧ mp.length = c.length) ∨ (cd = 1 ∧ mp.length = 0))) := by
  have p := Plan_spec G o (mv d l) (by rw [mv_len]; omega) he
  rw [mv_len] at p
  refine p.mono ?_
  rintro v H' ⟨k, ⟨h1, rfl⟩ | ⟨h1, c2, o1, o2, hch2, rfl, e1, e2⟩⟩
  · exact ⟨k, none, none, [], 0, 1, rfl, Elems.nil, fun i h => absurd h (Nat.not_lt_zero i), .inr ⟨rfl, rfl⟩⟩
  · have hpc : PC (mv d l) (-40000) ((ptsOf l c).map (· + d)) := by
      refine PC.start (P := -40000 + d) (fun s hs => ?_) (fun s hs => ?_) hch.pc.move
      · obtain ⟨t, ht, rfl⟩ := List.mem_map.1 hs
        have := valid_in hv t ht
        simp only; omega
      · have := valid_in h1 s hs; omega
    have heq := hch2.pc.unique hpc
    have hlen : c2.length = c.length := by
      have := congrArg List.length heq
      rwa [ptsOf_len, List.length_map, ptsOf_len] at this
    have hl2 : (ptsOf (mv d l) c2).length = c2.length := ptsOf_len _ _
    refine ⟨k, o1, o2, ptsOf (mv d l) c2, c2.length, 0, by rw [hl2], e1, fun i h1 h2 => ?_, .inl ⟨rfl, by rw [hl2, hlen]⟩⟩
    simp only [heq, List.getElem_map]

theorem pts_in {l : List Sp} (hv : validB l = true) {c : List Nat} {P : Int} (h : Chain l P c) {i : Nat} (hi : i < (ptsOf l c).length) : -39399 ≤ (ptsOf l c)[i] ∧ (ptsOf l c)[i] ≤ 39399 := by
  have hi2 : i < c.length := by rwa [ptsOf_len] at hi
  have hm := (h.family (valid_in hv)).2 (at_ l c[i]) (List.mem_map.2 ⟨_, List.getElem_mem hi2, rfl⟩)
  have hv2 := valid_in hv _ hm
  have e : (ptsOf l c)[i] = (at_ l c[i]).2 := by simp [ptsOf, till]
  omega
theorem n8 : Try.f8.ntmps = 145 := rfl
theorem ret8 : Try.f8.results = #[.tmp 4] := rfl
theorem moves_law (H : Hp) (a : Option Addr) (l : List Sp) (d : Int) (he : Elems H a 2 (l.map spc)) (hd : (Lit.int .i16 d).wf = true) : ACalls Try.prog 8 [.slice a l.length l.length, .int .i16 d] H (fun v H' => v = .bool true) := by
  have hd2 : -32768 ≤ d ∧ d ≤ 32767 := by
    simp [Lit.wf, IntKind.min, IntKind.max, IntKind.signed, IntKind.bits] at hd; omega
  refine ACalls_enter Try.func8 (by kernel_rfl) rfl (by kernel_rfl) (by simp [n8]) fun hw hr => AWP_of_awp ?_
  simp -implicitDefEqProofs (maxSteps := 2000000) (disch := first | omega | (simp only [nx_new, nx_set, List.length_cons, List.length_nil, List.length_map, List.length_set, ne_eq, not_true_eq_false, not_false_eq_true, Nat.succ_ne_zero]; done) | (simp only [nx_new, nx_set, List.length_cons, List.length_nil, List.length_map, List.length_set, ne_eq, not_true_eq_false, not_false_eq_true, Nat.succ_ne_zero]; omega)) only [go_sem, reduceIte, reduceCtorEq, Nat.succ_ne_zero, not_false_eq_true, decide_true, decide_false, Nat.reduceAdd, Nat.reduceMul, Nat.reduceEqDiff, Nat.reduceLeDiff]
  refine (head_spec H).mono ?_
  rintro _ G0 ⟨rfl, k0⟩
  simp -implicitDefEqProofs (maxSteps := 2000000) (disch := first | omega | (simp only [nx_new, nx_set, List.length_cons, List.length_nil, List.length_map, List.length_set, ne_eq, not_true_eq_false, not_false_eq_true, Nat.succ_ne_zero]; done) | (simp only [nx_new, nx_set, List.length_cons, List.length_nil, List.length_map, List.length_set, ne_eq, not_true_eq_false, not_false_eq_true, Nat.succ_ne_zero]; omega)) only [go_sem, reduceIte, reduceCtorEq, Nat.succ_ne_zero, not_false_eq_true, decide_true, decide_false, Nat.reduceAdd, Nat.reduceMul, Nat.reduceEqDiff, Nat.reduceLeDiff]
  refine condS_split (fun hc => ?_) (fun hc => ?_)
  · simp -implicitDefEqProofs (maxSteps := 2000000) (disch := first | omega | (simp only [nx_new, nx_set, List.length_cons, List.length_nil, List.length_map, List.length_set, ne_eq, not_true_eq_false, not_false_eq_true, Nat.succ_ne_zero]; done) | (simp only [nx_new, nx_set, List.length_cons, List.length_nil, List.length_map, List.length_set, ne_eq, not_true_eq_false, not_false_eq_true, Nat.succ_ne_zero]; omega)) only [go_sem, reduceIte, reduceCtorEq, Nat.succ_ne_zero, not_false_eq_true, decide_true, decide_false, Nat.reduceAdd, Nat.reduceMul, Nat.reduceEqDiff, Nat.reduceLeDiff, hc]
    exact ret_r (v := .bool true) (by rw [ares_tmp ret8]; rfl) rfl
  · have hlen : l.length ≤ 30 := by have := of_decide_eq_false hc; omega
    simp -implicitDefEqProofs (maxSteps := 2000000) (disch := first | omega | (simp only [nx_new, nx_set, List.length_cons, List.length_nil, List.length_map, List.length_set, ne_eq, not_true_eq_false, not_false_eq_true, Nat.succ_ne_zero]; done) | (simp only [nx_new, nx_set, List.length_cons, List.length_nil, List.length_map, List.length_set, ne_eq, not_true_eq_false, not_false_eq_true, Nat.succ_ne_zero]; omega)) only [go_sem, reduceIte, reduceCtorEq, Nat.succ_ne_zero, not_false_eq_true, decide_true, decide_false, Nat.reduceAdd, Nat.reduceMul, Nat.reduceEqDiff, Nat.reduceLeDiff, hc]
    refine (Plan_spec G0 a l (by omega) (he.grows k0.grows)).mono ?_
    rintro _ G1 ⟨k1, ⟨hv, rfl⟩ | ⟨hv, c, o1, o2, hch, rfl, ep, ea⟩⟩
    · simp -implicitDefEqProofs (maxSteps := 2000000) (disch := first | omega | (simp only [nx_new, nx_set, List.length_cons, List.length_nil, List.length_map, List.length_set, ne_eq, not_true_eq_false, not_false_eq_true, Nat.succ_ne_zero]; done) | (simp only [nx_new, nx_set, List.length_cons, List.length_nil, List.length_map, List.length_set, ne_eq, not_true_eq_false, not_false_eq_true, Nat.succ_ne_zero]; omega)) only [go_sem, reduceIte, reduceCtorEq, Nat.succ_ne_zero, not_false_eq_true, decide_true, decide_false, Nat.reduceAdd, Nat.reduceMul, Nat.reduceEqDiff, Nat.reduceLeDiff]
      exact ret_r (v := .bool true) (by rw [ares_tmp ret8]; rfl) rfl
    · have hin := valid_in hv
      have hcl := chain_len hin hch
      simp -implicitDefEqProofs (maxSteps := 2000000) (disch := first | omega | (simp only [nx_new, nx_set, List.length_cons, List.length_nil, List.length_map, List.length_set, ne_eq, not_true_eq_false, not_false_eq_true, Nat.succ_ne_zero]; done) | (simp only [nx_new, nx_set, List.length_cons, List.length_nil, List.length_map, List.length_set, ne_eq, not_true_eq_false, not_false_eq_true, Nat.succ_ne_zero]; omega)) only [go_sem, reduceIte, reduceCtorEq, Nat.succ_ne_zero, not_false_eq_true, decide_true, decide_false, Nat.reduceAdd, Nat.reduceMul, Nat.reduceEqDiff, Nat.reduceLeDiff]
      refine AWP_loop (σ := Nat × Hp × Option Addr × Option Addr) (fun s => [(11, .int .i64 s.1), (10, .slice s.2.2.2 s.1 s.1), (9, .slice s.2.2.1 s.1 s.1), (6, .slice o1 c.length c.length), (5, .bool true), (0, .slice a l.length l.length), (1, .int .i16 d)])
        (fun s => s.2.1) (fun s => s.1 ≤ l.length ∧ Keeps G1 s.2.1 ∧ OwnSl G1.next s.2.1 s.2.2.1 2 ((mv d (l.take s.1)).map spc).flatten ∧ OwnSl G1.next s.2.1 s.2.2.2 2 ((tn (l.take s.1)).map spc).flatten ∧ ∀ q1 q2, s.2.2.1 = some q1 → s.2.2.2 = some q2 → q1.block ≠ q2.block)
        (fun s => l.length - s.1) (0, G1, none, none) ⟨Nat.zero_le _, Keeps.refl _, OwnSl.none, OwnSl.none, fun _ _ h => by cases h⟩ (Weak.sub ?_) ?_
      · (simp -implicitDefEqProofs (disch := omega) only [Abs.Sub, get_cons_eq, get_cons_ne, and_self, Option.some.injEq, Value.int.injEq, Value.slice.injEq, true_and, and_true, Int.natCast_zero, Int.natCast_add, Int.natCast_one, List.length_nil]; try omega)
      · rintro ⟨k, G, c1, c2⟩ ⟨hk, hkeep, hm, ht, hne⟩
        simp only at hk hkeep hm ht hne ⊢
        refine AWP_of_awp ?_
        have ml : (mv d (l.take k)).length = k := by rw [mv_len, List.length_take]; omega
        have tl : (tn (l.take k)).length = k := by rw [tn_len, List.length_take]; omega
        by_cases hlt : k < l.length
        · obtain ⟨b0, o, rfl, hb, hload⟩ := (((he.grows k0.grows).grows k1.grows).grows hkeep.grows) k (by rw [List.length_map]; omega)
          simp only [List.getElem_map] at hload
          have hb1 := hin l[k] (List.getElem_mem hlt)
          have hnx := mv_succ (d := d) hlt
          have htx := tn_succ hlt
          generalize l[k] = s at *
          obtain ⟨f, u⟩ := s
          simp only [spc] at hload hb1 hnx htx
          have w0 : IntKind.i64.wrap d = d := wrap_i64 (by omega) (by omega)
          have w1 : IntKind.i64.wrap (f + d) = f + d := wrap_i64 (by omega) (by omega)
          have w2 : IntKind.i64.wrap (u + d) = u + d := wrap_i64 (by omega) (by omega)
          have w3 : IntKind.i64.wrap (0 - f) = 0 - f := wrap_i64 (by omega) (by omega)
          have w4 : IntKind.i64.wrap (0 - u) = 0 - u := wrap_i64 (by omega) (by omega)
          have z3 : 0 - f = -f := by omega
          have z4 : 0 - u = -u := by omega
          have hld : ∀ X, Keeps G1 X → aload X ⟨b0, o + k * 2, none⟩ 2 = some [.int .i64 f, .int .i64 u] := fun X hX => by
            obtain ⟨b', o', e', _, h'⟩ := (((he.grows k0.grows).grows k1.grows).grows hX.grows) k (by rw [List.length_map]; omega)
            cases e'
            rw [h', ← hload]
            exact (((((he.grows k0.grows).grows k1.grows).grows hkeep.grows) k (by rw [List.length_map]; omega)).elim fun b2 ⟨o2, e2, _, h2⟩ => by cases e2; rw [h2])
          have q0 : load1 G ⟨b0, o + k * 2, none⟩ = some (.int .i64 f) := (load1_part hload (i := 0) (by decide)).trans rfl
          have q1 : load1 G ⟨b0, o + k * 2 + 1, none⟩ = some (.int .i64 u) := (load1_part hload (i := 1) (by decide)).trans rfl
          simp -implicitDefEqProofs (maxSteps := 2000000) (disch := first | omega | (simp only [nx_new, nx_set, List.length_cons, List.length_nil, List.length_map, List.length_set, ne_eq, not_true_eq_false, not_false_eq_true, Nat.succ_ne_zero]; done) | (simp only [nx_new, nx_set, List.length_cons, List.length_nil, List.length_map, List.length_set, ne_eq, not_true_eq_false, not_false_eq_true, Nat.succ_ne_zero]; omega)) only [go_sem, reduceIte, reduceCtorEq, Nat.succ_ne_zero, not_false_eq_true, decide_true, decide_false, Nat.reduceAdd, Nat.reduceMul, Nat.reduceEqDiff, Nat.reduceLeDiff]
          refine AWP_draw_fast mo (by kernel_rfl) ?_
          have cv : aconv Try.prog 36 3 (.int .i16 d) = some (.int .i64 d) := by simp [aconv, u36, u3, w0]
          simp -implicitDefEqProofs (maxSteps := 2000000) (disch := first | omega | (simp only [nx_new, nx_set, List.length_cons, List.length_nil, List.length_map, List.length_set, ne_eq, not_true_eq_false, not_false_eq_true, Nat.succ_ne_zero]; done) | (simp only [nx_new, nx_set, List.length_cons, List.length_nil, List.length_map, List.length_set, ne_eq, not_true_eq_false, not_false_eq_true, Nat.succ_ne_zero]; omega)) only [go_sem, reduceIte, reduceCtorEq, Nat.succ_ne_zero, not_false_eq_true, decide_true, decide_false, Nat.reduceAdd, Nat.reduceMul, Nat.reduceEqDiff, Nat.reduceLeDiff, q0, q1, cv, w1, w2]
          obtain ⟨G', hap, hn, hg, hold⟩ := append_own (P := Try.prog) u22 u22 ts34 tb34 tz34 rfl (by decide) (by decide) (G := G.new (.row [.int .i64 (f + d), .int .i64 (u + d)] true 2)) (lo := G1.next) (n := k) (c := k) (m := 1) (c' := 1) (r := G.next) (ro := 0) (xs := [.int .i64 (f + d), .int .i64 (u + d)]) (hm.keeps (Keeps.new _ _))
            (by simp -implicitDefEqProofs (maxSteps := 2000000) (disch := first | omega | (simp only [nx_new, nx_set, List.length_cons, List.length_nil, List.length_map, List.length_set, ne_eq, not_true_eq_false, not_false_eq_true, Nat.succ_ne_zero]; done) | (simp only [nx_new, nx_set, List.length_cons, List.length_nil, List.length_map, List.length_set, ne_eq, not_true_eq_false, not_false_eq_true, Nat.succ_ne_zero]; omega)) only [go_sem, reduceIte, reduceCtorEq, Nat.succ_ne_zero, not_false_eq_true, decide_true, decide_false, Nat.reduceAdd, Nat.reduceMul, Nat.reduceEqDiff, Nat.reduceLeDiff]) rfl (by decide) (by rw [spc_flat, ml]) (by omega)
          rw [hap]
          have hnx1 : G'.next = G.next + 1 + 1 := hn
          have hg1 : G'.get (G.next + 1) = .row (((mv d (l.take k)).map spc).flatten ++ [.int .i64 (f + d), .int .i64 (u + d)]) true 2 := hg
          have hG1 := hkeep.next
          have keep' : Keeps G1 G' := ⟨by omega, fun b hb => by
            rw [hold b (by simp only [Hp.next_new]; omega) (hm.lo_ne hb), Hp.get_new_ne _ _ _ (by omega)]
            exact hkeep.get b hb⟩
          have ht' : OwnSl G1.next G' c2 2 ((tn (l.take k)).map spc).flatten := OwnSl_other ht (by omega) fun q hq => by
            have := OwnSl_lt ht q hq
            rw [hold q.block (by simp only [Hp.next_new]; omega) (fun q1 h1 => (hne q1 q h1 hq).symm), Hp.get_new_ne _ _ _ (by omega)]
          have q2 : load1 G' ⟨b0, o + k * 2, none⟩ = some (.int .i64 f) := (load1_part (hld G' keep') (i := 0) (by decide)).trans rfl
          have q3 : load1 G' ⟨b0, o + k * 2 + 1, none⟩ = some (.int .i64 u) := (load1_part (hld G' keep') (i := 1) (by decide)).trans rfl
          simp -implicitDefEqProofs (maxSteps := 2000000) (disch := first | omega | (simp only [nx_new, nx_set, List.length_cons, List.length_nil, List.length_map, List.length_set, ne_eq, not_true_eq_false, not_false_eq_true, Nat.succ_ne_zero]; done) | (simp only [nx_new, nx_set, List.length_cons, List.length_nil, List.length_map, List.length_set, ne_eq, not_true_eq_false, not_false_eq_true, Nat.succ_ne_zero]; omega)) only [go_sem, reduceIte, reduceCtorEq, Nat.succ_ne_zero, not_false_eq_true, decide_true, decide_false, Nat.reduceAdd, Nat.reduceMul, Nat.reduceEqDiff, Nat.reduceLeDiff]
          refine AWP_draw_fast mo (by kernel_rfl) ?_
          simp -implicitDefEqProofs (maxSteps := 2000000) (disch := first | omega | (simp only [nx_new, nx_set, List.length_cons, List.length_nil, List.length_map, List.length_set, ne_eq, not_true_eq_false, not_false_eq_true, Nat.succ_ne_zero]; done) | (simp only [nx_new, nx_set, List.length_cons, List.length_nil, List.length_map, List.length_set, ne_eq, not_true_eq_false, not_false_eq_true, Nat.succ_ne_zero]; omega)) only [go_sem, reduceIte, reduceCtorEq, Nat.succ_ne_zero, not_false_eq_true, decide_true, decide_false, Nat.reduceAdd, Nat.reduceMul, Nat.reduceEqDiff, Nat.reduceLeDiff, q2, q3, w3, w4, z3, z4]
          obtain ⟨G'', hap2, hn2, hg2, hold2⟩ := append_own (P := Try.prog) u22 u22 ts34 tb34 tz34 rfl (by decide) (by decide) (G := G'.new (.row [.int .i64 (-u), .int .i64 (-f)] true 2)) (lo := G1.next) (n := k) (c := k) (m := 1) (c' := 1) (r := G'.next) (ro := 0) (xs := [.int .i64 (-u), .int .i64 (-f)]) (ht'.keeps (Keeps.new _ _))
            (by simp -implicitDefEqProofs (maxSteps := 2000000) (disch := first | omega | (simp only [nx_new, nx_set, List.length_cons, List.length_nil, List.length_map, List.length_set, ne_eq, not_true_eq_false, not_false_eq_true, Nat.succ_ne_zero]; done) | (simp only [nx_new, nx_set, List.length_cons, List.length_nil, List.length_map, List.length_set, ne_eq, not_true_eq_false, not_false_eq_true, Nat.succ_ne_zero]; omega)) only [go_sem, reduceIte, reduceCtorEq, Nat.succ_ne_zero, not_false_eq_true, decide_true, decide_false, Nat.reduceAdd, Nat.reduceMul, Nat.reduceEqDiff, Nat.reduceLeDiff]) rfl (by decide) (by rw [spc_flat, tl]) (by omega)
          rw [hap2]
          have hnx2 : G''.next = G'.next + 1 + 1 := hn2
          have hg3 : G''.get (G'.next + 1) = .row (((tn (l.take k)).map spc).flatten ++ [.int .i64 (-u), .int .i64 (-f)]) true 2 := hg2
          simp -implicitDefEqProofs (maxSteps := 2000000) (disch := first | omega | (simp only [nx_new, nx_set, List.length_cons, List.length_nil, List.length_map, List.length_set, ne_eq, not_true_eq_false, not_false_eq_true, Nat.succ_ne_zero]; done) | (simp only [nx_new, nx_set, List.length_cons, List.length_nil, List.length_map, List.length_set, ne_eq, not_true_eq_false, not_false_eq_true, Nat.succ_ne_zero]; omega)) only [go_sem, reduceIte, reduceCtorEq, Nat.succ_ne_zero, not_false_eq_true, decide_true, decide_false, Nat.reduceAdd, Nat.reduceMul, Nat.reduceEqDiff, Nat.reduceLeDiff]
          refine ⟨(k + 1, G'', some ⟨G.next + 1, 0, none⟩, some ⟨G'.next + 1, 0, none⟩), ⟨hlt, ⟨by (first | omega | (simp only; omega)), fun b hb => ?_⟩, .inr ⟨G.next + 1, rfl, by (first | omega | (simp only; omega)), by (first | omega | (simp only; omega)), ?_⟩, .inr ⟨G'.next + 1, rfl, by (first | omega | (simp only; omega)), by (first | omega | (simp only; omega)), ?_⟩, ?_⟩, by (first | omega | (simp only; omega)), Weak.sub ?_⟩
          · rw [hold2 b (by simp only [Hp.next_new]; omega) (ht'.lo_ne hb), Hp.get_new_ne _ _ _ (by omega)]
            exact keep'.get b hb
          · rw [hold2 (G.next + 1) (by simp only [Hp.next_new]; omega) (fun q hq => by have := OwnSl_lt ht q hq; omega), Hp.get_new_ne _ _ _ (by omega), hg1, hnx]
            simp [spc]
          · rw [hg3, htx]
            simp [spc]
          · intro q1 q2 h1 h2
            cases h1; cases h2; simp only; omega
          · simp -implicitDefEqProofs (disch := omega) only [Abs.Sub, get_cons_eq, get_cons_ne, and_self, Int.natCast_zero, Int.natCast_add, Int.natCast_one]
        · have hkl : k = l.length := by omega
          subst hkl
          rw [List.take_of_length_le (Nat.le_refl _)] at hm ht ml tl
          have hem := hm.elems (spc_len _) (by decide)
          have het := ht.elems (spc_len _) (by decide)
          simp -implicitDefEqProofs (maxSteps := 2000000) (disch := first | omega | (simp only [nx_new, nx_set, List.length_cons, List.length_nil, List.length_map, List.length_set, ne_eq, not_true_eq_false, not_false_eq_true, Nat.succ_ne_zero]; done) | (simp only [nx_new, nx_set, List.length_cons, List.length_nil, List.length_map, List.length_set, ne_eq, not_true_eq_false, not_false_eq_true, Nat.succ_ne_zero]; omega)) only [go_sem, reduceIte, reduceCtorEq, Nat.succ_ne_zero, not_false_eq_true, decide_true, decide_false, Nat.reduceAdd, Nat.reduceMul, Nat.reduceEqDiff, Nat.reduceLeDiff]
          refine (moved_spec (by omega) hv hch hem).mono ?_
          rintro _ G2 ⟨k2, o3, o4, mp, n2, cd, rfl, e3, hmp, hcd⟩
          simp -implicitDefEqProofs (maxSteps := 2000000) (disch := first | omega | (simp only [nx_new, nx_set, List.length_cons, List.length_nil, List.length_map, List.length_set, ne_eq, not_true_eq_false, not_false_eq_true, Nat.succ_ne_zero]; done) | (simp only [nx_new, nx_set, List.length_cons, List.length_nil, List.length_map, List.length_set, ne_eq, not_true_eq_false, not_false_eq_true, Nat.succ_ne_zero]; omega)) only [go_sem, reduceIte, reduceCtorEq, Nat.succ_ne_zero, not_false_eq_true, decide_true, decide_false, Nat.reduceAdd, Nat.reduceMul, Nat.reduceEqDiff, Nat.reduceLeDiff]
          have p3 := Plan_spec G2 c2 (tn l) (by rw [tn_len]; omega) (het.grows k2.grows)
          rw [tn_len] at p3
          refine p3.mono ?_
          rintro _ G3 ⟨k3, ⟨h1, _⟩ | ⟨hv3, c3, o5, o6, hch3, rfl, ep3, ea3⟩⟩
          · rw [tn_valid hv] at h1; cases h1
          · have hlt3 : c3.length = c.length := turned_len hin (valid_in hv3) hch hch3
            have hpl := ptsOf_len l c
            rw [hlt3]
            have ep' := (ep.grows hkeep.grows).grows (k2.grows.trans k3.grows)
            have e3' := e3.grows k3.grows
            clear p3
            have cv : aconv Try.prog 36 3 (.int .i16 d) = some (.int .i64 d) := by simp [aconv, u36, u3, wrap_i64 (show -9223372036854775808 ≤ d by omega) (show d ≤ 9223372036854775807 by omega)]
            rcases hcd with ⟨rfl, hml⟩ | ⟨rfl, hml⟩
            · rw [hml]
              simp -implicitDefEqProofs (maxSteps := 2000000) (disch := first | omega | (simp only [nx_new, nx_set, List.length_cons, List.length_nil, List.length_map, List.length_set, ne_eq, not_true_eq_false, not_false_eq_true, Nat.succ_ne_zero]; done) | (simp only [nx_new, nx_set, List.length_cons, List.length_nil, List.length_map, List.length_set, ne_eq, not_true_eq_false, not_false_eq_true, Nat.succ_ne_zero]; omega)) only [go_sem, reduceIte, reduceCtorEq, Nat.succ_ne_zero, not_false_eq_true, decide_true, decide_false, Nat.reduceAdd, Nat.reduceMul, Nat.reduceEqDiff, Nat.reduceLeDiff]
              refine AWP_loop (σ := Nat) (fun i => [(18, .int .i64 i), (14, .int .i64 0), (12, .slice o3 c.length c.length), (6, .slice o1 c.length c.length), (5, .bool true), (1, .int .i16 d)])
                (fun _ => G3) (fun i => i ≤ mp.length) (fun i => mp.length - i) 0 (Nat.zero_le _) (Weak.sub ?_) ?_
              · (simp -implicitDefEqProofs (disch := omega) only [Abs.Sub, get_cons_eq, get_cons_ne, and_self, Option.some.injEq, Value.int.injEq, Value.slice.injEq, true_and, and_true, Int.natCast_zero, Int.natCast_add, Int.natCast_one, List.length_nil]; try omega)
              · intro i hi
                refine AWP_of_awp ?_
                by_cases hlt : i < mp.length
                · have hic : i < c.length := by omega
                  obtain ⟨b1, s1, rfl, l1⟩ := elem1 e3' i hlt
                  obtain ⟨b2, s2, rfl, l2⟩ := elem1 ep' i (by omega)
                  have hb := pts_in hv hch (i := i) (by omega)
                  rw [hmp i hlt (by omega)] at l1
                  generalize (ptsOf l c)[i]'(by omega) = x at *
                  have w1 : IntKind.i64.wrap (x + d) = x + d := wrap_i64 (by omega) (by omega)
                  simp -implicitDefEqProofs (maxSteps := 2000000) (disch := first | omega | (simp only [nx_new, nx_set, List.length_cons, List.length_nil, List.length_map, List.length_set, ne_eq, not_true_eq_false, not_false_eq_true, Nat.succ_ne_zero]; done) | (simp only [nx_new, nx_set, List.length_cons, List.length_nil, List.length_map, List.length_set, ne_eq, not_true_eq_false, not_false_eq_true, Nat.succ_ne_zero]; omega)) only [go_sem, reduceIte, reduceCtorEq, Nat.succ_ne_zero, not_false_eq_true, decide_true, decide_false, Nat.reduceAdd, Nat.reduceMul, Nat.reduceEqDiff, Nat.reduceLeDiff]
                  refine AWP_draw_fast mo (by kernel_rfl) ?_
                  simp -implicitDefEqProofs (maxSteps := 2000000) (disch := first | omega | (simp only [nx_new, nx_set, List.length_cons, List.length_nil, List.length_map, List.length_set, ne_eq, not_true_eq_false, not_false_eq_true, Nat.succ_ne_zero]; done) | (simp only [nx_new, nx_set, List.length_cons, List.length_nil, List.length_map, List.length_set, ne_eq, not_true_eq_false, not_false_eq_true, Nat.succ_ne_zero]; omega)) only [go_sem, reduceIte, reduceCtorEq, Nat.succ_ne_zero, not_false_eq_true, decide_true, decide_false, Nat.reduceAdd, Nat.reduceMul, Nat.reduceEqDiff, Nat.reduceLeDiff, l1, l2, cv, w1]
                  skip
                  exact ⟨i + 1, hlt, by omega, Weak.sub (by simp -implicitDefEqProofs (disch := omega) only [Abs.Sub, get_cons_eq, get_cons_ne, and_self, Int.natCast_zero, Int.natCast_add, Int.natCast_one])⟩
                · have him : i = c.length := by omega
                  subst him
                  simp -implicitDefEqProofs (maxSteps := 2000000) (disch := first | omega | (simp only [nx_new, nx_set, List.length_cons, List.length_nil, List.length_map, List.length_set, ne_eq, not_true_eq_false, not_false_eq_true, Nat.succ_ne_zero]; done) | (simp only [nx_new, nx_set, List.length_cons, List.length_nil, List.length_map, List.length_set, ne_eq, not_true_eq_false, not_false_eq_true, Nat.succ_ne_zero]; omega)) only [go_sem, reduceIte, reduceCtorEq, Nat.succ_ne_zero, not_false_eq_true, decide_true, decide_false, Nat.reduceAdd, Nat.reduceMul, Nat.reduceEqDiff, Nat.reduceLeDiff]
                  skip
                  exact ret_r (v := .bool true) (by rw [ares_tmp ret8]; rfl) rfl
            · rw [hml]
              simp -implicitDefEqProofs (maxSteps := 2000000) (disch := first | omega | (simp only [nx_new, nx_set, List.length_cons, List.length_nil, List.length_map, List.length_set, ne_eq, not_true_eq_false, not_false_eq_true, Nat.succ_ne_zero]; done) | (simp only [nx_new, nx_set, List.length_cons, List.length_nil, List.length_map, List.length_set, ne_eq, not_true_eq_false, not_false_eq_true, Nat.succ_ne_zero]; omega)) only [go_sem, reduceIte, reduceCtorEq, Nat.succ_ne_zero, not_false_eq_true, decide_true, decide_false, Nat.reduceAdd, Nat.reduceMul, Nat.reduceEqDiff, Nat.reduceLeDiff]
              refine AWP_loop (σ := Nat) (fun i => [(18, .int .i64 i), (14, .int .i64 1), (12, .slice o3 0 0), (6, .slice o1 c.length c.length), (5, .bool true), (1, .int .i16 d)])
                (fun _ => G3) (fun i => i ≤ mp.length) (fun i => mp.length - i) 0 (Nat.zero_le _) (Weak.sub ?_) ?_
              · (simp -implicitDefEqProofs (disch := omega) only [Abs.Sub, get_cons_eq, get_cons_ne, and_self, Option.some.injEq, Value.int.injEq, Value.slice.injEq, true_and, and_true, Int.natCast_zero, Int.natCast_add, Int.natCast_one, List.length_nil]; try omega)
              · intro i hi
                refine AWP_of_awp ?_
                by_cases hlt : i < mp.length
                · exact absurd hlt (by omega)
                · have him : i = 0 := by omega
                  subst him
                  simp -implicitDefEqProofs (maxSteps := 2000000) (disch := first | omega | (simp only [nx_new, nx_set, List.length_cons, List.length_nil, List.length_map, List.length_set, ne_eq, not_true_eq_false, not_false_eq_true, Nat.succ_ne_zero]; done) | (simp only [nx_new, nx_set, List.length_cons, List.length_nil, List.length_map, List.length_set, ne_eq, not_true_eq_false, not_false_eq_true, Nat.succ_ne_zero]; omega)) only [go_sem, reduceIte, reduceCtorEq, Nat.succ_ne_zero, not_false_eq_true, decide_true, decide_false, Nat.reduceAdd, Nat.reduceMul, Nat.reduceEqDiff, Nat.reduceLeDiff]
                  skip
                  exact ret_r (v := .bool true) (by rw [ares_tmp ret8]; rfl) rfl
end Go.Proofs.Ytjgdmjoafpbnaaa
