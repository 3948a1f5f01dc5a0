/- DetectFrames, walked. -/
import Derived.Test.YtjdmndklnfhmjaaXl
set_option linter.unusedVariables false
set_option linter.unusedSimpArgs false
set_option linter.unusedSectionVars false
namespace Go.Proofs.Ytjdmndklnfhmjaa
open Go.Abs
set_option maxHeartbeats 8000000
set_option maxRecDepth 100000
theorem sel_pre (x : Fr) (i : Nat) : ∀ d, ∃ r, x.sel (i + d) = x.sel i ++ r
  | 0 => ⟨[], by simp⟩
  | d + 1 => by
    obtain ⟨r, hr⟩ := sel_pre x i d
    exact ⟨r ++ if x.m (i + d) then [i + d] else [], by rw [← Nat.add_assoc, sel_succ, hr, List.append_assoc]⟩
theorem dets_at {x : Fr} {i : Nat} (hi : i < 4) (hm : x.m i = true) : (x.dets 4)[(x.sel i).length]? = some (x.det i) := by
  obtain ⟨r, hr⟩ := sel_pre x (i + 1) (4 - (i + 1))
  have e : i + 1 + (4 - (i + 1)) = 4 := by omega
  rw [e, sel_succ x i, hm, if_pos rfl, List.append_assoc] at hr
  rw [Fr.dets, List.getElem?_map, hr, List.getElem?_append_right (Nat.le_refl _), Nat.sub_self]
  rfl
theorem dets_rank (x : Fr) : Rank ((x.dets 4).map Det.pl) ((x.dets 4).map Det.pl) := by
  refine ⟨?_, fun p => Iff.rfl⟩
  rw [Fr.dets, List.map_map, List.pairwise_map]
  have h : (x.sel 4).Pairwise (· < ·) := List.Pairwise.filter _ List.pairwise_lt_range
  exact h.imp fun {a b} hab => .inr ⟨rfl, .inl (by show (a : Int) < b; omega)⟩
theorem count_one {p : Pl} : ∀ {l : List Pl}, l.Nodup → p ∈ l → l.count p = 1
  | [], _, h => by cases h
  | x :: l, hn, h => by
    rw [List.nodup_cons] at hn
    by_cases e : x = p
    · subst e
      rw [List.count_cons_self, List.count_eq_zero.2 hn.1]
    · rw [List.count_cons_of_ne e]
      exact count_one hn.2 ((List.mem_cons.1 h).resolve_left fun e' => e e'.symm)
theorem dets_tal {x : Fr} {p : Pl} (hp : p ∈ (x.dets 4).map Det.pl) : talOf ((x.dets 4).map Det.pl) p = ⟨p.t, p.c, p.f, 1⟩ := by
  have hnd : ((x.dets 4).map Det.pl).Nodup := (dets_rank x).1.imp fun {a b} h e => by subst e; exact lt_irrefl _ h
  rw [talOf, count_one hnd hp]; rfl
theorem dets_all {x : Fr} (h : x.ok = true) : (x.dets 4).all okD = true := List.all_eq_true.2 fun d hd => by
  obtain ⟨i, hi, rfl⟩ := List.mem_map.1 hd
  exact List.all_eq_true.1 h i (List.mem_filter.1 hi).1
theorem n3 : Try.f3.ntmps = 109 := rfl
theorem ret3 : Try.f3.results = #[.tmp 10] := rfl
theorem frames_law (H : Hp) (t f a : Int) (m : Nat → Bool) (v : Nat → Int) :
    ACalls Try.prog 3 [.int .i64 t, .int .i64 f, .int .i64 a, .agg #[.bool (m 0), .bool (m 1), .bool (m 2), .bool (m 3)], .agg #[.int .i64 (v 0), .int .i64 (v 1), .int .i64 (v 2), .int .i64 (v 3)]] H (fun x _ => x = .bool true) := by
  obtain ⟨x, hx⟩ : ∃ x : Fr, x = ⟨t, f, a, m, v⟩ := ⟨_, rfl⟩
  have xt : t = x.t := by rw [hx]
  have xf : f = x.f := by rw [hx]
  have xa : a = x.a := by rw [hx]
  have xm : m = x.m := by rw [hx]
  have xv : v = x.v := by rw [hx]
  subst xt xf xa xm xv
  clear hx
  refine ACalls_enter Try.func3 (by kernel_rfl) rfl (by kernel_rfl) (by simp [n3]) fun hw hr => AWP_of_awp ?_
  simp -implicitDefEqProofs (maxSteps := 2000000) (disch := first | omega | (simp only [nx_new, nx_set, List.length_cons, List.length_nil, List.length_map, List.length_set, ne_eq, not_true_eq_false, not_false_eq_true, Nat.succ_ne_zero]; done) | (simp only [nx_new, nx_set, List.length_cons, List.length_nil, List.length_map, List.length_set, ne_eq, not_true_eq_false, not_false_eq_true, Nat.succ_ne_zero]; omega)) only [go_sem, reduceIte, reduceCtorEq, Nat.succ_ne_zero, not_false_eq_true, decide_true, decide_false, Nat.reduceAdd, Nat.reduceMul, Nat.reduceEqDiff, Nat.reduceLeDiff]
  obtain ⟨M, eM⟩ : ∃ M, M = (H.new (.row [.bool (x.m 0), .bool (x.m 1), .bool (x.m 2), .bool (x.m 3)] true 0)).new (.row [.int .i64 (x.v 0), .int .i64 (x.v 1), .int .i64 (x.v 2), .int .i64 (x.v 3)] true 0) := ⟨_, rfl⟩
  rw [← eM]
  have nM : M.next = H.next + 2 := by rw [eM]; rfl
  have gM : M.get H.next = .row [.bool (x.m 0), .bool (x.m 1), .bool (x.m 2), .bool (x.m 3)] true 0 := by
    rw [eM, Hp.get_new_ne _ _ _ (by simp only [Hp.next_new]; omega)]; exact Hp.get_new_same _ _ _ rfl
  have gV : M.get (H.next + 1) = .row [.int .i64 (x.v 0), .int .i64 (x.v 1), .int .i64 (x.v 2), .int .i64 (x.v 3)] true 0 := by rw [eM]; exact Hp.get_new_same _ _ _ rfl
  clear eM
  refine (head_spec M).mono ?_
  rintro _ G1 ⟨rfl, k1⟩
  have n1 := k1.next
  have gM1 : G1.get H.next = _ := (k1.get _ (by omega)).trans gM
  have gV1 : G1.get (H.next + 1) = _ := (k1.get _ (by omega)).trans gV
  have lm1 : aload G1 ⟨H.next, 0, none⟩ 4 = some [.bool (x.m 0), .bool (x.m 1), .bool (x.m 2), .bool (x.m 3)] := aload_row gM1 (Nat.le_refl 4)
  have lv1 : aload G1 ⟨H.next + 1, 0, none⟩ 4 = some [.int .i64 (x.v 0), .int .i64 (x.v 1), .int .i64 (x.v 2), .int .i64 (x.v 3)] := aload_row gV1 (Nat.le_refl 4)
  have hls := list_spec G1 x
  simp only [Fr.ma, Fr.va] at hls
  simp -implicitDefEqProofs (maxSteps := 2000000) (disch := first | omega | (simp only [nx_new, nx_set, List.length_cons, List.length_nil, List.length_map, List.length_set, ne_eq, not_true_eq_false, not_false_eq_true, Nat.succ_ne_zero]; done) | (simp only [nx_new, nx_set, List.length_cons, List.length_nil, List.length_map, List.length_set, ne_eq, not_true_eq_false, not_false_eq_true, Nat.succ_ne_zero]; omega)) only [go_sem, reduceIte, reduceCtorEq, Nat.succ_ne_zero, not_false_eq_true, decide_true, decide_false, Nat.reduceAdd, Nat.reduceMul, Nat.reduceEqDiff, Nat.reduceLeDiff, lm1, lv1]
  refine hls.mono ?_
  rintro _ G2 ⟨hl, k2⟩
  rcases hl with ⟨_, rfl⟩ | ⟨hok, o, rfl, ho⟩
  · simp -implicitDefEqProofs (maxSteps := 2000000) (disch := first | omega | (simp only [nx_new, nx_set, List.length_cons, List.length_nil, List.length_map, List.length_set, ne_eq, not_true_eq_false, not_false_eq_true, Nat.succ_ne_zero]; done) | (simp only [nx_new, nx_set, List.length_cons, List.length_nil, List.length_map, List.length_set, ne_eq, not_true_eq_false, not_false_eq_true, Nat.succ_ne_zero]; omega)) only [go_sem, reduceIte, reduceCtorEq, Nat.succ_ne_zero, not_false_eq_true, decide_true, decide_false, Nat.reduceAdd, Nat.reduceMul, Nat.reduceEqDiff, Nat.reduceLeDiff]
    exact ret_r (v := .bool true) (by rw [ares_tmp ret3]; rfl) rfl
  have hall := dets_all hok
  have hel := ho.elems (dets_len _) (by decide)
  have hlen : (x.dets 4).length = (x.sel 4).length := List.length_map _
  have hl4 := sel_len x 4
  have n2 := k2.next
  have gM2 : G2.get H.next = .row [.bool (x.m 0), .bool (x.m 1), .bool (x.m 2), .bool (x.m 3)] true 0 := (k2.get _ (by omega)).trans gM1
  have gV2 : G2.get (H.next + 1) = .row [.int .i64 (x.v 0), .int .i64 (x.v 1), .int .i64 (x.v 2), .int .i64 (x.v 3)] true 0 := (k2.get _ (by omega)).trans gV1
  rw [hlen]
  simp -implicitDefEqProofs (maxSteps := 2000000) (disch := first | omega | (simp only [nx_new, nx_set, List.length_cons, List.length_nil, List.length_map, List.length_set, ne_eq, not_true_eq_false, not_false_eq_true, Nat.succ_ne_zero]; done) | (simp only [nx_new, nx_set, List.length_cons, List.length_nil, List.length_map, List.length_set, ne_eq, not_true_eq_false, not_false_eq_true, Nat.succ_ne_zero]; omega)) only [go_sem, reduceIte, reduceCtorEq, Nat.succ_ne_zero, not_false_eq_true, decide_true, decide_false, Nat.reduceAdd, Nat.reduceMul, Nat.reduceEqDiff, Nat.reduceLeDiff]
  refine AWP_loop (σ := Nat) (fun s => [(15, .int .i64 s), (14, .int .i64 (x.sel s).length), (12, .slice o (x.sel 4).length (x.sel 4).length), (11, .bool true), (8, .pointer (some ⟨H.next, 0, none⟩)), (9, .pointer (some ⟨H.next + 1, 0, none⟩)), (0, .int .i64 x.t), (1, .int .i64 x.f), (2, .int .i64 x.a)]) (fun _ => G2)
    (fun s => s ≤ 4) (fun s => 4 - s) 0 (Nat.zero_le _) (Weak.sub ?_) ?_
  · have h0 : (x.sel 0).length = 0 := rfl
    simp only [h0]
    (simp -implicitDefEqProofs (disch := omega) only [Abs.Sub, get_cons_eq, get_cons_ne, and_self, Option.some.injEq, Value.int.injEq, Value.slice.injEq, true_and, and_true, Int.natCast_zero, Int.natCast_add, Int.natCast_one, List.length_nil]; try omega)
  rintro i hi4
  refine AWP_of_awp ?_
  by_cases hlt : i < 4
  · have lm : load1 G2 ⟨H.next, i, none⟩ = some (.bool (x.m i)) := by
      rw [l1_row _ _ _ _ _ gM2]
      match i, hlt with
      | 0, _ => rfl
      | 1, _ => rfl
      | 2, _ => rfl
      | 3, _ => rfl
    have lv : load1 G2 ⟨H.next + 1, i, none⟩ = some (.int .i64 (x.v i)) := by
      rw [l1_row _ _ _ _ _ gV2]
      match i, hlt with
      | 0, _ => rfl
      | 1, _ => rfl
      | 2, _ => rfl
      | 3, _ => rfl
    have hsc := sel_succ x i
    cases hm : x.m i with
    | false =>
      rw [hm] at lm hsc
      simp only [Bool.false_eq_true, if_false, List.append_nil] at hsc
      simp -implicitDefEqProofs (maxSteps := 2000000) (disch := first | omega | (simp only [nx_new, nx_set, List.length_cons, List.length_nil, List.length_map, List.length_set, ne_eq, not_true_eq_false, not_false_eq_true, Nat.succ_ne_zero]; done) | (simp only [nx_new, nx_set, List.length_cons, List.length_nil, List.length_map, List.length_set, ne_eq, not_true_eq_false, not_false_eq_true, Nat.succ_ne_zero]; omega)) only [go_sem, reduceIte, reduceCtorEq, Nat.succ_ne_zero, not_false_eq_true, decide_true, decide_false, Nat.reduceAdd, Nat.reduceMul, Nat.reduceEqDiff, Nat.reduceLeDiff, lm]
      exact ⟨i + 1, hlt, by omega, Weak.sub (by simp only [hsc]; (simp -implicitDefEqProofs (disch := omega) only [Abs.Sub, get_cons_eq, get_cons_ne, and_self, Option.some.injEq, Value.int.injEq, Value.slice.injEq, true_and, and_true, Int.natCast_zero, Int.natCast_add, Int.natCast_one, List.length_nil]; try omega))⟩
    | true =>
      have hat := dets_at hlt hm
      rw [hm] at lm hsc
      simp only [if_true] at hsc
      have hlt2 : (x.sel i).length < (x.dets 4).length := (List.getElem?_eq_some_iff.1 hat).1
      obtain ⟨b, ob, rfl, hload⟩ := det_at hel (x.sel i).length hlt2
      rw [(List.getElem?_eq_some_iff.1 hat).2] at hload
      have hdc : (x.det i).cells = [.int .i64 x.t, .int .i64 i, .int .i64 x.f, .int .i64 (x.v i), .int .i64 x.a] := rfl
      rw [hdc] at hload
      rw [hlen] at hlt2
      simp -implicitDefEqProofs (maxSteps := 2000000) (disch := first | omega | (simp only [nx_new, nx_set, List.length_cons, List.length_nil, List.length_map, List.length_set, ne_eq, not_true_eq_false, not_false_eq_true, Nat.succ_ne_zero]; done) | (simp only [nx_new, nx_set, List.length_cons, List.length_nil, List.length_map, List.length_set, ne_eq, not_true_eq_false, not_false_eq_true, Nat.succ_ne_zero]; omega)) only [go_sem, reduceIte, reduceCtorEq, Nat.succ_ne_zero, not_false_eq_true, decide_true, decide_false, Nat.reduceAdd, Nat.reduceMul, Nat.reduceEqDiff, Nat.reduceLeDiff, lm]
      refine AWP_draw_fast mo (by kernel_rfl) ?_
      simp -implicitDefEqProofs (maxSteps := 2000000) (disch := first | omega | (simp only [nx_new, nx_set, List.length_cons, List.length_nil, List.length_map, List.length_set, ne_eq, not_true_eq_false, not_false_eq_true, Nat.succ_ne_zero]; done) | (simp only [nx_new, nx_set, List.length_cons, List.length_nil, List.length_map, List.length_set, ne_eq, not_true_eq_false, not_false_eq_true, Nat.succ_ne_zero]; omega)) only [go_sem, reduceIte, reduceCtorEq, Nat.succ_ne_zero, not_false_eq_true, decide_true, decide_false, Nat.reduceAdd, Nat.reduceMul, Nat.reduceEqDiff, Nat.reduceLeDiff, hload, lv, beq_self_eq_true]
      exact ⟨i + 1, hlt, by omega, Weak.sub (by simp only [hsc, List.length_append, List.length_singleton]; (simp -implicitDefEqProofs (disch := omega) only [Abs.Sub, get_cons_eq, get_cons_ne, and_self, Option.some.injEq, Value.int.injEq, Value.slice.injEq, true_and, and_true, Int.natCast_zero, Int.natCast_add, Int.natCast_one, List.length_nil]; try omega))⟩
  · obtain rfl : i = 4 := by omega
    have hcs := count_spec G2 o (x.dets 4) (by omega) hel
    rw [hlen] at hcs
    simp -implicitDefEqProofs (maxSteps := 2000000) (disch := first | omega | (simp only [nx_new, nx_set, List.length_cons, List.length_nil, List.length_map, List.length_set, ne_eq, not_true_eq_false, not_false_eq_true, Nat.succ_ne_zero]; done) | (simp only [nx_new, nx_set, List.length_cons, List.length_nil, List.length_map, List.length_set, ne_eq, not_true_eq_false, not_false_eq_true, Nat.succ_ne_zero]; omega)) only [go_sem, reduceIte, reduceCtorEq, Nat.succ_ne_zero, not_false_eq_true, decide_true, decide_false, Nat.reduceAdd, Nat.reduceMul, Nat.reduceEqDiff, Nat.reduceLeDiff]
    refine hcs.mono ?_
    rintro _ G4 ⟨hc4, k4⟩
    rcases hc4 with ⟨h, _⟩ | ⟨_, h, _⟩ | ⟨_, _, o4, L4, hR4, rfl, ho4⟩
    · omega
    · rw [hall] at h; cases h
    obtain rfl := rank_unique hR4 (dets_rank x)
    have he4 := ho4.elems (tals_len _) (by decide)
    have hel4 := Elems.km hel k4
    have hl2 : ((x.dets 4).map Det.pl).length = (x.sel 4).length := by rw [List.length_map, hlen]
    rw [hl2]
    simp -implicitDefEqProofs (maxSteps := 2000000) (disch := first | omega | (simp only [nx_new, nx_set, List.length_cons, List.length_nil, List.length_map, List.length_set, ne_eq, not_true_eq_false, not_false_eq_true, Nat.succ_ne_zero]; done) | (simp only [nx_new, nx_set, List.length_cons, List.length_nil, List.length_map, List.length_set, ne_eq, not_true_eq_false, not_false_eq_true, Nat.succ_ne_zero]; omega)) only [go_sem, reduceIte, reduceCtorEq, Nat.succ_ne_zero, not_false_eq_true, decide_true, decide_false, Nat.reduceAdd, Nat.reduceMul, Nat.reduceEqDiff, Nat.reduceLeDiff]
    refine AWP_loop (σ := Nat) (fun s => [(18, .int .i64 s), (16, .slice o4 (x.sel 4).length (x.sel 4).length), (12, .slice o (x.sel 4).length (x.sel 4).length), (11, .bool true), (0, .int .i64 x.t), (1, .int .i64 x.f)]) (fun _ => G4)
      (fun s => s ≤ (x.sel 4).length) (fun s => (x.sel 4).length - s) 0 (Nat.zero_le _) (Weak.sub ?_) ?_
    · (simp -implicitDefEqProofs (disch := omega) only [Abs.Sub, get_cons_eq, get_cons_ne, and_self, Option.some.injEq, Value.int.injEq, Value.slice.injEq, true_and, and_true, Int.natCast_zero, Int.natCast_add, Int.natCast_one, List.length_nil]; try omega)
    rintro j hj
    refine AWP_of_awp ?_
    by_cases hltj : j < (x.sel 4).length
    · have hjd : j < (x.dets 4).length := by omega
      have hjp : j < ((x.dets 4).map Det.pl).length := by omega
      obtain ⟨b, ob, rfl, hload⟩ := det_at hel4 j hjd
      obtain ⟨b', ob', rfl, hload'⟩ := tal_at he4 j (by rw [List.length_map]; exact hjp)
      rw [List.getElem_map, dets_tal (List.getElem_mem hjp), List.getElem_map] at hload'
      have hxd : (x.dets 4)[j].t = x.t ∧ (x.dets 4)[j].f = x.f := by
        obtain ⟨i, _, hi⟩ := List.mem_map.1 (List.getElem_mem hjd)
        rw [← hi]; exact ⟨rfl, rfl⟩
      generalize (x.dets 4)[j] = d at *
      have hc1 : (⟨d.pl.t, d.pl.c, d.pl.f, 1⟩ : Tal).cells = [.int .i64 x.t, .int .i64 d.c, .int .i64 x.f, .int .i64 1] := by rw [← hxd.1, ← hxd.2]; rfl
      have hd1 : load1 G4 ⟨b, ob + j * 5 + 1, none⟩ = some (.int .i64 d.c) := load1_part hload (i := 1) (by decide)
      rw [hc1] at hload'
      simp -implicitDefEqProofs (maxSteps := 2000000) (disch := first | omega | (simp only [nx_new, nx_set, List.length_cons, List.length_nil, List.length_map, List.length_set, ne_eq, not_true_eq_false, not_false_eq_true, Nat.succ_ne_zero]; done) | (simp only [nx_new, nx_set, List.length_cons, List.length_nil, List.length_map, List.length_set, ne_eq, not_true_eq_false, not_false_eq_true, Nat.succ_ne_zero]; omega)) only [go_sem, reduceIte, reduceCtorEq, Nat.succ_ne_zero, not_false_eq_true, decide_true, decide_false, Nat.reduceAdd, Nat.reduceMul, Nat.reduceEqDiff, Nat.reduceLeDiff]
      refine AWP_draw_fast mo (by kernel_rfl) ?_
      simp -implicitDefEqProofs (maxSteps := 2000000) (disch := first | omega | (simp only [nx_new, nx_set, List.length_cons, List.length_nil, List.length_map, List.length_set, ne_eq, not_true_eq_false, not_false_eq_true, Nat.succ_ne_zero]; done) | (simp only [nx_new, nx_set, List.length_cons, List.length_nil, List.length_map, List.length_set, ne_eq, not_true_eq_false, not_false_eq_true, Nat.succ_ne_zero]; omega)) only [go_sem, reduceIte, reduceCtorEq, Nat.succ_ne_zero, not_false_eq_true, decide_true, decide_false, Nat.reduceAdd, Nat.reduceMul, Nat.reduceEqDiff, Nat.reduceLeDiff, hd1, hload', beq_self_eq_true]
      exact ⟨j + 1, hltj, by omega, Weak.sub (by (simp -implicitDefEqProofs (disch := omega) only [Abs.Sub, get_cons_eq, get_cons_ne, and_self, Option.some.injEq, Value.int.injEq, Value.slice.injEq, true_and, and_true, Int.natCast_zero, Int.natCast_add, Int.natCast_one, List.length_nil]; try omega))⟩
    · obtain rfl : j = (x.sel 4).length := by omega
      simp -implicitDefEqProofs (maxSteps := 2000000) (disch := first | omega | (simp only [nx_new, nx_set, List.length_cons, List.length_nil, List.length_map, List.length_set, ne_eq, not_true_eq_false, not_false_eq_true, Nat.succ_ne_zero]; done) | (simp only [nx_new, nx_set, List.length_cons, List.length_nil, List.length_map, List.length_set, ne_eq, not_true_eq_false, not_false_eq_true, Nat.succ_ne_zero]; omega)) only [go_sem, reduceIte, reduceCtorEq, Nat.succ_ne_zero, not_false_eq_true, decide_true, decide_false, Nat.reduceAdd, Nat.reduceMul, Nat.reduceEqDiff, Nat.reduceLeDiff]
      exact ret_r (v := .bool true) (by rw [ares_tmp ret3]; rfl) rfl
end Go.Proofs.Ytjdmndklnfhmjaa
