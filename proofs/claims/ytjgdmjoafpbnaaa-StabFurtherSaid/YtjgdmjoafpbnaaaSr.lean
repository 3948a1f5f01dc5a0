/- StabFurther. -/
import Derived.Test.YtjgdmjoafpbnaaaSq
import Derived.Test.YtjgdmjoafpbnaaaAbsU
import Derived.Test.YtjgdmjoafpbnaaaAbsW
set_option linter.unusedVariables false
set_option linter.unusedSimpArgs false
set_option linter.unusedSectionVars false
namespace Go.Proofs.Ytjgdmjoafpbnaaa
open Go.Abs Go.Sm
set_option maxHeartbeats 8000000
set_option maxRecDepth 100000
theorem app22 (G : Hp) (q n c : Nat) (a : Option Addr) (m c' : Nat) : aappend Try.prog G [22, 22] (.slice (some ⟨q, 0, none⟩) n c) (.slice a m c') = appB Try.prog 22 22 2 16 G q (G.get q) n (asource G 2 (.slice a m c')) :=
  app_eq ⟨34, 34, _, u22, u22, ts34, tb34, tz34, rfl, by decide, by decide⟩ q n c a m c'
theorem splice_spc : ∀ {l : List Sp} {k : Nat} (_ : k < l.length) (s : Sp), splice ((l.map spc).flatten) (k * 2) [.int .i64 s.1, .int .i64 s.2] = ((l.set k s).map spc).flatten
  | x :: l, 0, _, s => by simp [splice, spc]
  | x :: l, k + 1, hk, s => by
    have ih := splice_spc (l := l) (k := k) (by simpa using hk) s
    have e1 : (k + 1) * 2 = k * 2 + 1 + 1 := by omega
    have e2 : k * 2 + 1 + 1 + 2 = k * 2 + 2 + 1 + 1 := by omega
    simp only [splice, List.length_cons, List.length_nil, Nat.zero_add, Nat.reduceAdd] at ih ⊢
    rw [e1, e2]
    simp only [List.map_cons, List.flatten_cons, List.set_cons_succ, spc, List.cons_append, List.nil_append, List.take_succ_cons, List.drop_succ_cons]
    rw [← ih]
theorem n7 : Try.f7.ntmps = 127 := rfl
theorem ret7 : Try.f7.results = #[.tmp 10] := rfl
theorem further_law (H : Hp) (a : Option Addr) (l : List Sp) (f u : Int) (wh lf rt : Int) (he : Elems H a 2 (l.map spc)) (hwh : (Lit.int .u8 wh).wf = true) (hlf : (Lit.int .u8 lf).wf = true) (hrt : (Lit.int .u8 rt).wf = true) :
    ACalls Try.prog 7 [.slice a l.length l.length, .agg #[.int .i64 f, .int .i64 u], .int .u8 wh, .int .u8 lf, .int .u8 rt] H (fun v H' => v = .bool true) := by
  have hw2 : 0 ≤ wh ∧ wh ≤ 255 := by
    simp [Lit.wf, IntKind.min, IntKind.max, IntKind.signed, IntKind.bits] at hwh; omega
  have hl2 : 0 ≤ lf ∧ lf ≤ 255 := by
    simp [Lit.wf, IntKind.min, IntKind.max, IntKind.signed, IntKind.bits] at hlf; omega
  have hr2 : 0 ≤ rt ∧ rt ≤ 255 := by
    simp [Lit.wf, IntKind.min, IntKind.max, IntKind.signed, IntKind.bits] at hrt; omega
  refine ACalls_enter Try.func7 (by kernel_rfl) rfl (by kernel_rfl) (by simp [n7]) fun hw hr => AWP_step ?_
  simp -implicitDefEqProofs (maxSteps := 2000000) (disch := first | omega | (simp only [nx_new, nx_set, List.length_cons, List.length_nil, List.length_map, List.length_set, ne_eq, not_true_eq_false, not_false_eq_true, Nat.succ_ne_zero]; done) | (simp only [nx_new, nx_set, List.length_cons, List.length_nil, List.length_map, List.length_set, ne_eq, not_true_eq_false, not_false_eq_true, Nat.succ_ne_zero]; omega)) only [go_sem, reduceIte, reduceCtorEq, Nat.succ_ne_zero, not_false_eq_true, decide_true, decide_false, Nat.reduceAdd, Nat.reduceMul, Nat.reduceEqDiff, Nat.reduceLeDiff]
  refine AWP_step ?_
  simp -implicitDefEqProofs (maxSteps := 2000000) (disch := first | omega | (simp only [nx_new, nx_set, List.length_cons, List.length_nil, List.length_map, List.length_set, ne_eq, not_true_eq_false, not_false_eq_true, Nat.succ_ne_zero]; done) | (simp only [nx_new, nx_set, List.length_cons, List.length_nil, List.length_map, List.length_set, ne_eq, not_true_eq_false, not_false_eq_true, Nat.succ_ne_zero]; omega)) only [go_sem, reduceIte, reduceCtorEq, Nat.succ_ne_zero, not_false_eq_true, decide_true, decide_false, Nat.reduceAdd, Nat.reduceMul, Nat.reduceEqDiff, Nat.reduceLeDiff]
  refine (head_spec _).mono ?_
  rintro _ G0 ⟨rfl, k0⟩
  simp -implicitDefEqProofs (maxSteps := 2000000) (disch := first | omega | (simp only [nx_new, nx_set, List.length_cons, List.length_nil, List.length_map, List.length_set, ne_eq, not_true_eq_false, not_false_eq_true, Nat.succ_ne_zero]; done) | (simp only [nx_new, nx_set, List.length_cons, List.length_nil, List.length_map, List.length_set, ne_eq, not_true_eq_false, not_false_eq_true, Nat.succ_ne_zero]; omega)) only [go_sem, reduceIte, reduceCtorEq, Nat.succ_ne_zero, not_false_eq_true, decide_true, decide_false, Nat.reduceAdd, Nat.reduceMul, Nat.reduceEqDiff, Nat.reduceLeDiff]
  refine AWP_step ?_
  simp -implicitDefEqProofs (maxSteps := 2000000) (disch := first | omega | (simp only [nx_new, nx_set, List.length_cons, List.length_nil, List.length_map, List.length_set, ne_eq, not_true_eq_false, not_false_eq_true, Nat.succ_ne_zero]; done) | (simp only [nx_new, nx_set, List.length_cons, List.length_nil, List.length_map, List.length_set, ne_eq, not_true_eq_false, not_false_eq_true, Nat.succ_ne_zero]; omega)) only [go_sem, reduceIte, reduceCtorEq, Nat.succ_ne_zero, not_false_eq_true, decide_true, decide_false, Nat.reduceAdd, Nat.reduceMul, Nat.reduceEqDiff, Nat.reduceLeDiff]
  refine condS_split (fun hc => ?_) (fun hc => ?_)
  · simp -implicitDefEqProofs (maxSteps := 2000000) (disch := first | omega | (simp only [nx_new, nx_set, List.length_cons, List.length_nil, List.length_map, List.length_set, ne_eq, not_true_eq_false, not_false_eq_true, Nat.succ_ne_zero]; done) | (simp only [nx_new, nx_set, List.length_cons, List.length_nil, List.length_map, List.length_set, ne_eq, not_true_eq_false, not_false_eq_true, Nat.succ_ne_zero]; omega)) only [go_sem, reduceIte, reduceCtorEq, Nat.succ_ne_zero, not_false_eq_true, decide_true, decide_false, Nat.reduceAdd, Nat.reduceMul, Nat.reduceEqDiff, Nat.reduceLeDiff, hc]
    exact ret_r (v := .bool true) (by rw [ares_tmp ret7]; rfl) rfl
  · have hlen : l.length ≤ 30 := by have := of_decide_eq_false hc; omega
    simp -implicitDefEqProofs (maxSteps := 2000000) (disch := first | omega | (simp only [nx_new, nx_set, List.length_cons, List.length_nil, List.length_map, List.length_set, ne_eq, not_true_eq_false, not_false_eq_true, Nat.succ_ne_zero]; done) | (simp only [nx_new, nx_set, List.length_cons, List.length_nil, List.length_map, List.length_set, ne_eq, not_true_eq_false, not_false_eq_true, Nat.succ_ne_zero]; omega)) only [go_sem, reduceIte, reduceCtorEq, Nat.succ_ne_zero, not_false_eq_true, decide_true, decide_false, Nat.reduceAdd, Nat.reduceMul, Nat.reduceEqDiff, Nat.reduceLeDiff, hc]
    refine AWP_step ?_
    simp -implicitDefEqProofs (maxSteps := 2000000) (disch := first | omega | (simp only [nx_new, nx_set, List.length_cons, List.length_nil, List.length_map, List.length_set, ne_eq, not_true_eq_false, not_false_eq_true, Nat.succ_ne_zero]; done) | (simp only [nx_new, nx_set, List.length_cons, List.length_nil, List.length_map, List.length_set, ne_eq, not_true_eq_false, not_false_eq_true, Nat.succ_ne_zero]; omega)) only [go_sem, reduceIte, reduceCtorEq, Nat.succ_ne_zero, not_false_eq_true, decide_true, decide_false, Nat.reduceAdd, Nat.reduceMul, Nat.reduceEqDiff, Nat.reduceLeDiff]
    refine (Plan_spec G0 a l (by omega) ((he.grows (Grows.new _ _)).grows k0.grows)).mono ?_
    rintro _ G1 ⟨k1, ⟨hv, rfl⟩ | ⟨hv, c, o1, o2, hch, rfl, ep, ea⟩⟩
    · simp -implicitDefEqProofs (maxSteps := 2000000) (disch := first | omega | (simp only [nx_new, nx_set, List.length_cons, List.length_nil, List.length_map, List.length_set, ne_eq, not_true_eq_false, not_false_eq_true, Nat.succ_ne_zero]; done) | (simp only [nx_new, nx_set, List.length_cons, List.length_nil, List.length_map, List.length_set, ne_eq, not_true_eq_false, not_false_eq_true, Nat.succ_ne_zero]; omega)) only [go_sem, reduceIte, reduceCtorEq, Nat.succ_ne_zero, not_false_eq_true, decide_true, decide_false, Nat.reduceAdd, Nat.reduceMul, Nat.reduceEqDiff, Nat.reduceLeDiff]
      refine AWP_step ?_
      simp -implicitDefEqProofs (maxSteps := 2000000) (disch := first | omega | (simp only [nx_new, nx_set, List.length_cons, List.length_nil, List.length_map, List.length_set, ne_eq, not_true_eq_false, not_false_eq_true, Nat.succ_ne_zero]; done) | (simp only [nx_new, nx_set, List.length_cons, List.length_nil, List.length_map, List.length_set, ne_eq, not_true_eq_false, not_false_eq_true, Nat.succ_ne_zero]; omega)) only [go_sem, reduceIte, reduceCtorEq, Nat.succ_ne_zero, not_false_eq_true, decide_true, decide_false, Nat.reduceAdd, Nat.reduceMul, Nat.reduceEqDiff, Nat.reduceLeDiff]
      exact ret_r (v := .bool true) (by rw [ares_tmp ret7]; rfl) rfl
    · have hin := valid_in hv
      have hcl := chain_len hin hch
      simp -implicitDefEqProofs (maxSteps := 2000000) (disch := first | omega | (simp only [nx_new, nx_set, List.length_cons, List.length_nil, List.length_map, List.length_set, ne_eq, not_true_eq_false, not_false_eq_true, Nat.succ_ne_zero]; done) | (simp only [nx_new, nx_set, List.length_cons, List.length_nil, List.length_map, List.length_set, ne_eq, not_true_eq_false, not_false_eq_true, Nat.succ_ne_zero]; omega)) only [go_sem, reduceIte, reduceCtorEq, Nat.succ_ne_zero, not_false_eq_true, decide_true, decide_false, Nat.reduceAdd, Nat.reduceMul, Nat.reduceEqDiff, Nat.reduceLeDiff]
      refine AWP_step ?_
      simp -implicitDefEqProofs (maxSteps := 2000000) (disch := first | omega | (simp only [nx_new, nx_set, List.length_cons, List.length_nil, List.length_map, List.length_set, ne_eq, not_true_eq_false, not_false_eq_true, Nat.succ_ne_zero]; done) | (simp only [nx_new, nx_set, List.length_cons, List.length_nil, List.length_map, List.length_set, ne_eq, not_true_eq_false, not_false_eq_true, Nat.succ_ne_zero]; omega)) only [go_sem, reduceIte, reduceCtorEq, Nat.succ_ne_zero, not_false_eq_true, decide_true, decide_false, Nat.reduceAdd, Nat.reduceMul, Nat.reduceEqDiff, Nat.reduceLeDiff]
      have hn1 := k0.next
      have hn2 := k1.next
      have hHn : (H.new (.row [.int .i64 f, .int .i64 u] true 0)).next = H.next + 1 := rfl
      have he1 : Elems G1 a 2 (l.map spc) := ((he.grows (Grows.new H (.row [.int .i64 f, .int .i64 u] true 0))).grows k0.grows).grows k1.grows
      have hld0 : aload G1 ⟨H.next, 0, none⟩ 2 = some [.int .i64 f, .int .i64 u] := by
        rw [k1.ld _ _ _ (by omega), k0.ld _ _ _ (by omega)]
        simp -implicitDefEqProofs (maxSteps := 2000000) (disch := first | omega | (simp only [nx_new, nx_set, List.length_cons, List.length_nil, List.length_map, List.length_set, ne_eq, not_true_eq_false, not_false_eq_true, Nat.succ_ne_zero]; done) | (simp only [nx_new, nx_set, List.length_cons, List.length_nil, List.length_map, List.length_set, ne_eq, not_true_eq_false, not_false_eq_true, Nat.succ_ne_zero]; omega)) only [go_sem, reduceIte, reduceCtorEq, Nat.succ_ne_zero, not_false_eq_true, decide_true, decide_false, Nat.reduceAdd, Nat.reduceMul, Nat.reduceEqDiff, Nat.reduceLeDiff]
      refine AWP_cut (σ := Option Addr × Nat × Int) (fun s => [(17, .int .i64 s.2.2), (15, .slice s.1 s.2.1 s.2.1), (12, .slice o1 c.length c.length), (11, .bool true), (0, .slice a l.length l.length), (2, .int .u8 wh), (3, .int .u8 lf), (4, .int .u8 rt)])
        (fun s G => Keeps G1 G ∧ ((s.2.2 = 0 ∧ (s.2.1 = c.length ∨ s.2.1 = c.length + 1)) ∨ (s.2.2 = 1 ∧ s.2.1 = 0))) ?_ ?_
      · simp -implicitDefEqProofs (maxSteps := 2000000) (disch := first | omega | (simp only [nx_new, nx_set, List.length_cons, List.length_nil, List.length_map, List.length_set, ne_eq, not_true_eq_false, not_false_eq_true, Nat.succ_ne_zero]; done) | (simp only [nx_new, nx_set, List.length_cons, List.length_nil, List.length_map, List.length_set, ne_eq, not_true_eq_false, not_false_eq_true, Nat.succ_ne_zero]; omega)) only [go_sem, reduceIte, reduceCtorEq, Nat.succ_ne_zero, not_false_eq_true, decide_true, decide_false, Nat.reduceAdd, Nat.reduceMul, Nat.reduceEqDiff, Nat.reduceLeDiff]
        have hsrc : ∀ G', Keeps G1 G' → asource G' 2 (.slice a l.length l.length) = some (l.length, (l.map spc).flatten) := fun G' hk => by
          have := asource_elems (c := l.length) (he1.grows hk.grows) (spc_len l)
          rwa [List.length_map] at this
        have hld : ∀ G', Keeps G1 G' → aload G' ⟨H.next, 0, none⟩ 2 = some [.int .i64 f, .int .i64 u] := fun G' hk => by
          rw [hk.ld _ _ _ (by omega)]
          exact hld0
        have hfl : ((l.map spc).flatten).length = l.length * 2 := spc_flat l
        have hall := spc_one l
        have happ : (l.map spc).flatten ++ [.int .i64 f, .int .i64 u] = ((l ++ [(f, u)]).map spc).flatten := by simp [spc]
        generalize hL : (l.map spc).flatten = L at *
        have hcall : ∀ (G : Hp) (q : Nat), q < G.next → G.get q = .row (L ++ [.int .i64 f, .int .i64 u]) true 2 →
            ACalls Try.prog 12 [.slice (some ⟨q, 0, none⟩) (l.length + 1) (l.length + 1)] G (fun v H' => Keeps G H' ∧ ∃ (o3 o4 : Option Addr) (n n2 : Nat) (cd : Int), v = .tuple #[.slice o3 n n, .slice o4 n2 n2, .int .i64 cd] ∧ ((cd = 0 ∧ (n = c.length ∨ n = c.length + 1)) ∨ (cd = 1 ∧ n = 0))) := fun G q hq hg => by
          have e := Plan_spec G (some ⟨q, 0, none⟩) (l ++ [(f, u)]) (by simp; omega) (Elems.row hq (by rw [hg, happ]) (spc_len _))
          rw [List.length_append, List.length_singleton] at e
          refine e.mono ?_
          rintro v H' ⟨k, ⟨h1, rfl⟩ | ⟨h1, c2, o3, o4, hch2, rfl, _, _⟩⟩
          · exact ⟨k, none, none, 0, 0, 1, rfl, .inr ⟨rfl, rfl⟩⟩
          · exact ⟨k, o3, o4, c2.length, c2.length, 0, rfl, .inl ⟨rfl, further_len hin (valid_in h1) hch hch2⟩⟩
        refine AWP_draw_tree (.list 1 (.fork (.cons 0 (.fork (.cons 2 (.list 3 (.list 4 (.list 5 (.list 6 (.list 7 (.list 8 (.list 9 (.list 10 (.list 11 (.list 12 (.list 13 .done))))))))))) (.cons 3 (.fork (.cons 2 (.list 4 (.list 5 (.list 6 (.list 7 (.list 8 (.list 9 (.list 10 (.list 11 (.list 12 (.list 13 .done)))))))))) (.cons 4 (.list 2 (.list 5 (.list 6 (.list 7 (.list 8 (.list 9 (.list 10 (.list 11 (.list 12 (.list 13 .done)))))))))) .nil))) .nil))) (.cons 3 (.fork (.cons 0 (.fork (.cons 2 (.list 4 (.list 5 (.list 6 (.list 7 (.list 8 (.list 9 (.list 10 (.list 11 (.list 12 (.list 13 .done)))))))))) (.cons 4 (.list 2 (.list 5 (.list 6 (.list 7 (.list 8 (.list 9 (.list 10 (.list 11 (.list 12 (.list 13 .done)))))))))) .nil))) (.cons 4 (.list 0 (.list 2 (.list 5 (.list 6 (.list 7 (.list 8 (.list 9 (.list 10 (.list 11 (.list 12 (.list 13 .done))))))))))) .nil))) .nil)))) mo (by kernel_rfl) ?_
        simp -implicitDefEqProofs (maxSteps := 4000000) (disch := first | omega | assumption | (simp only [nx_new, nx_set, List.length_cons, List.length_nil, List.length_map, List.length_set, ne_eq, not_true_eq_false, not_false_eq_true, Nat.succ_ne_zero, List.length_append, List.all_cons, List.all_nil, one_int, one_bool, Bool.and_self, Bool.and_true]; done) | (simp only [nx_new, nx_set, List.length_cons, List.length_nil, List.length_map, List.length_set, ne_eq, not_true_eq_false, not_false_eq_true, Nat.succ_ne_zero, List.length_append]; omega) | (repeat (first | exact Keeps.refl _ | assumption | refine Keeps.newR ?_ | refine Keeps.setR ?_ (by (simp only [Hp.next_new, Hp.next_set]; omega))))) only [go_sem, reduceIte, reduceCtorEq, Nat.succ_ne_zero, not_false_eq_true, decide_true, decide_false, Nat.reduceAdd, Nat.reduceMul, Nat.reduceEqDiff, Nat.reduceLeDiff, app22, appB_row, asource_pos, hsrc, hld]
        repeat' (with_reducible refine And.intro ?_ ?_)
        all_goals (refine (hcall _ _ (by (simp only [Hp.next_new, Hp.next_set]; omega)) (by simp -implicitDefEqProofs (maxSteps := 4000000) (disch := first | omega | assumption | (simp only [nx_new, nx_set, List.length_cons, List.length_nil, List.length_map, List.length_set, ne_eq, not_true_eq_false, not_false_eq_true, Nat.succ_ne_zero, List.length_append, List.all_cons, List.all_nil, one_int, one_bool, Bool.and_self, Bool.and_true]; done) | (simp only [nx_new, nx_set, List.length_cons, List.length_nil, List.length_map, List.length_set, ne_eq, not_true_eq_false, not_false_eq_true, Nat.succ_ne_zero, List.length_append]; omega) | (repeat (first | exact Keeps.refl _ | assumption | refine Keeps.newR ?_ | refine Keeps.setR ?_ (by (simp only [Hp.next_new, Hp.next_set]; omega))))) only [go_sem, reduceIte, reduceCtorEq, Nat.succ_ne_zero, not_false_eq_true, decide_true, decide_false, Nat.reduceAdd, Nat.reduceMul, Nat.reduceEqDiff, Nat.reduceLeDiff])).mono ?_; rintro _ G2 ⟨k2, o3, o4, n, n2, cd, rfl, hcd⟩; have kg := k2.grows; simp -implicitDefEqProofs (maxSteps := 4000000) (disch := first | omega | assumption | (simp only [nx_new, nx_set, List.length_cons, List.length_nil, List.length_map, List.length_set, ne_eq, not_true_eq_false, not_false_eq_true, Nat.succ_ne_zero, List.length_append, List.all_cons, List.all_nil, one_int, one_bool, Bool.and_self, Bool.and_true]; done) | (simp only [nx_new, nx_set, List.length_cons, List.length_nil, List.length_map, List.length_set, ne_eq, not_true_eq_false, not_false_eq_true, Nat.succ_ne_zero, List.length_append]; omega) | (repeat (first | exact Keeps.refl _ | assumption | refine Keeps.newR ?_ | refine Keeps.setR ?_ (by (simp only [Hp.next_new, Hp.next_set]; omega))))) only [go_sem, reduceIte, reduceCtorEq, Nat.succ_ne_zero, not_false_eq_true, decide_true, decide_false, Nat.reduceAdd, Nat.reduceMul, Nat.reduceEqDiff, Nat.reduceLeDiff, kg]; refine ⟨(o3, n, cd), ⟨?_, hcd⟩, ?_⟩; (focus (refine Keeps.trans ?_ k2; (repeat (first | exact Keeps.refl _ | refine Keeps.newR ?_ | refine Keeps.setR ?_ (by (simp only [Hp.next_new, Hp.next_set]; omega)))))); (focus simp -implicitDefEqProofs (disch := omega) only [Abs.Sub, get_cons_eq, get_cons_ne, and_self, Int.natCast_zero, Int.natCast_add, Int.natCast_one]))
      · rintro ⟨o3, n, cd⟩ G ⟨hk, hcd⟩
        simp only at hcd ⊢
        have hGn := hk.next
        have heG := he1.grows hk.grows
        have hbad : ∀ n : Nat, n = c.length ∨ n = c.length + 1 → ((n : Int) != c.length) = false ∨ (((n : Int) != c.length) = true ∧ ((n : Int) != (c.length : Int) + 1) = false) := fun n h => by
          rcases h with rfl | rfl
          · left; simp
          · right; refine ⟨?_, ?_⟩
            · simp; omega
            · simp
        refine AWP_join (σ := Unit) (fun _ => [(17, .int .i64 cd), (12, .slice o1 c.length c.length), (11, .bool true), (0, .slice a l.length l.length), (2, .int .u8 wh), (3, .int .u8 lf), (4, .int .u8 rt)]) (fun _ => G) (fun _ => True) ?_ ?_
        · rcases hcd with ⟨rfl, hn⟩ | ⟨rfl, rfl⟩
          · have hr1 : IntKind.i64.wrap ((c.length : Int) + 1) = (c.length : Int) + 1 := wrap_i64 (by omega) (by omega)
            rcases hbad n hn with h1 | ⟨h1, h2⟩
            · simp -implicitDefEqProofs (maxSteps := 2000000) (disch := first | omega | (simp only [nx_new, nx_set, List.length_cons, List.length_nil, List.length_map, List.length_set, ne_eq, not_true_eq_false, not_false_eq_true, Nat.succ_ne_zero]; done) | (simp only [nx_new, nx_set, List.length_cons, List.length_nil, List.length_map, List.length_set, ne_eq, not_true_eq_false, not_false_eq_true, Nat.succ_ne_zero]; omega)) only [go_sem, reduceIte, reduceCtorEq, Nat.succ_ne_zero, not_false_eq_true, decide_true, decide_false, Nat.reduceAdd, Nat.reduceMul, Nat.reduceEqDiff, Nat.reduceLeDiff, h1]
              exact ⟨(), Weak.sub (by simp -implicitDefEqProofs (disch := omega) only [Abs.Sub, get_cons_eq, get_cons_ne, and_self, Int.natCast_zero, Int.natCast_add, Int.natCast_one])⟩
            · simp -implicitDefEqProofs (maxSteps := 2000000) (disch := first | omega | (simp only [nx_new, nx_set, List.length_cons, List.length_nil, List.length_map, List.length_set, ne_eq, not_true_eq_false, not_false_eq_true, Nat.succ_ne_zero]; done) | (simp only [nx_new, nx_set, List.length_cons, List.length_nil, List.length_map, List.length_set, ne_eq, not_true_eq_false, not_false_eq_true, Nat.succ_ne_zero]; omega)) only [go_sem, reduceIte, reduceCtorEq, Nat.succ_ne_zero, not_false_eq_true, decide_true, decide_false, Nat.reduceAdd, Nat.reduceMul, Nat.reduceEqDiff, Nat.reduceLeDiff, h1, h2, hr1]
              exact ⟨(), Weak.sub (by simp -implicitDefEqProofs (disch := omega) only [Abs.Sub, get_cons_eq, get_cons_ne, and_self, Int.natCast_zero, Int.natCast_add, Int.natCast_one])⟩
          · simp -implicitDefEqProofs (maxSteps := 2000000) (disch := first | omega | (simp only [nx_new, nx_set, List.length_cons, List.length_nil, List.length_map, List.length_set, ne_eq, not_true_eq_false, not_false_eq_true, Nat.succ_ne_zero]; done) | (simp only [nx_new, nx_set, List.length_cons, List.length_nil, List.length_map, List.length_set, ne_eq, not_true_eq_false, not_false_eq_true, Nat.succ_ne_zero]; omega)) only [go_sem, reduceIte, reduceCtorEq, Nat.succ_ne_zero, not_false_eq_true, decide_true, decide_false, Nat.reduceAdd, Nat.reduceMul, Nat.reduceEqDiff, Nat.reduceLeDiff]
            exact ⟨(), Weak.sub (by simp -implicitDefEqProofs (disch := omega) only [Abs.Sub, get_cons_eq, get_cons_ne, and_self, Int.natCast_zero, Int.natCast_add, Int.natCast_one])⟩
        · rintro _ _
          refine AWP_step ?_
          simp -implicitDefEqProofs (maxSteps := 2000000) (disch := first | omega | (simp only [nx_new, nx_set, List.length_cons, List.length_nil, List.length_map, List.length_set, ne_eq, not_true_eq_false, not_false_eq_true, Nat.succ_ne_zero]; done) | (simp only [nx_new, nx_set, List.length_cons, List.length_nil, List.length_map, List.length_set, ne_eq, not_true_eq_false, not_false_eq_true, Nat.succ_ne_zero]; omega)) only [go_sem, reduceIte, reduceCtorEq, Nat.succ_ne_zero, not_false_eq_true, decide_true, decide_false, Nat.reduceAdd, Nat.reduceMul, Nat.reduceEqDiff, Nat.reduceLeDiff]
          refine condS_split (fun hz => ?_) (fun hz => ?_)
          · simp -implicitDefEqProofs (maxSteps := 2000000) (disch := first | omega | (simp only [nx_new, nx_set, List.length_cons, List.length_nil, List.length_map, List.length_set, ne_eq, not_true_eq_false, not_false_eq_true, Nat.succ_ne_zero]; done) | (simp only [nx_new, nx_set, List.length_cons, List.length_nil, List.length_map, List.length_set, ne_eq, not_true_eq_false, not_false_eq_true, Nat.succ_ne_zero]; omega)) only [go_sem, reduceIte, reduceCtorEq, Nat.succ_ne_zero, not_false_eq_true, decide_true, decide_false, Nat.reduceAdd, Nat.reduceMul, Nat.reduceEqDiff, Nat.reduceLeDiff, hz]
            exact ret_r (v := .bool true) (by rw [ares_tmp ret7]; rfl) rfl
          · have hz0 : (l.length : Int) ≠ 0 := by simpa using hz
            simp -implicitDefEqProofs (maxSteps := 2000000) (disch := first | omega | (simp only [nx_new, nx_set, List.length_cons, List.length_nil, List.length_map, List.length_set, ne_eq, not_true_eq_false, not_false_eq_true, Nat.succ_ne_zero]; done) | (simp only [nx_new, nx_set, List.length_cons, List.length_nil, List.length_map, List.length_set, ne_eq, not_true_eq_false, not_false_eq_true, Nat.succ_ne_zero]; omega)) only [go_sem, reduceIte, reduceCtorEq, Nat.succ_ne_zero, not_false_eq_true, decide_true, decide_false, Nat.reduceAdd, Nat.reduceMul, Nat.reduceEqDiff, Nat.reduceLeDiff, hz]
            refine AWP_step ?_
            have cv1 : aconv Try.prog 5 3 (.int .u8 wh) = some (.int .i64 wh) := by simp [aconv, u5, u3, wrap_i64 (show -9223372036854775808 ≤ wh by omega) (show wh ≤ 9223372036854775807 by omega)]
            have cv2 : aconv Try.prog 5 3 (.int .u8 lf) = some (.int .i64 lf) := by simp [aconv, u5, u3, wrap_i64 (show -9223372036854775808 ≤ lf by omega) (show lf ≤ 9223372036854775807 by omega)]
            have cv3 : aconv Try.prog 5 3 (.int .u8 rt) = some (.int .i64 rt) := by simp [aconv, u5, u3, wrap_i64 (show -9223372036854775808 ≤ rt by omega) (show rt ≤ 9223372036854775807 by omega)]
            obtain ⟨k, hkl, hk0⟩ : ∃ k : Nat, k < l.length ∧ wh.tmod l.length = (k : Int) := by
              have h1 := Int.tmod_nonneg (l.length : Int) hw2.1
              have h2 := Int.tmod_lt_of_pos wh (show (0 : Int) < l.length by omega)
              exact ⟨(wh.tmod l.length).toNat, by omega, by omega⟩
            simp -implicitDefEqProofs (maxSteps := 2000000) (disch := first | omega | (simp only [nx_new, nx_set, List.length_cons, List.length_nil, List.length_map, List.length_set, ne_eq, not_true_eq_false, not_false_eq_true, Nat.succ_ne_zero]; done) | (simp only [nx_new, nx_set, List.length_cons, List.length_nil, List.length_map, List.length_set, ne_eq, not_true_eq_false, not_false_eq_true, Nat.succ_ne_zero]; omega)) only [go_sem, reduceIte, reduceCtorEq, Nat.succ_ne_zero, not_false_eq_true, decide_true, decide_false, Nat.reduceAdd, Nat.reduceMul, Nat.reduceEqDiff, Nat.reduceLeDiff, cv1, hk0]
            refine AWP_step ?_
            simp -implicitDefEqProofs (maxSteps := 2000000) (disch := first | omega | (simp only [nx_new, nx_set, List.length_cons, List.length_nil, List.length_map, List.length_set, ne_eq, not_true_eq_false, not_false_eq_true, Nat.succ_ne_zero]; done) | (simp only [nx_new, nx_set, List.length_cons, List.length_nil, List.length_map, List.length_set, ne_eq, not_true_eq_false, not_false_eq_true, Nat.succ_ne_zero]; omega)) only [go_sem, reduceIte, reduceCtorEq, Nat.succ_ne_zero, not_false_eq_true, decide_true, decide_false, Nat.reduceAdd, Nat.reduceMul, Nat.reduceEqDiff, Nat.reduceLeDiff]
            obtain ⟨Gb, hap, hbn, kb, hbg⟩ := copy_spans heG (show l.length ≤ 1000 by omega)
            rw [hap]
            simp -implicitDefEqProofs (maxSteps := 2000000) (disch := first | omega | (simp only [nx_new, nx_set, List.length_cons, List.length_nil, List.length_map, List.length_set, ne_eq, not_true_eq_false, not_false_eq_true, Nat.succ_ne_zero]; done) | (simp only [nx_new, nx_set, List.length_cons, List.length_nil, List.length_map, List.length_set, ne_eq, not_true_eq_false, not_false_eq_true, Nat.succ_ne_zero]; omega)) only [go_sem, reduceIte, reduceCtorEq, Nat.succ_ne_zero, not_false_eq_true, decide_true, decide_false, Nat.reduceAdd, Nat.reduceMul, Nat.reduceEqDiff, Nat.reduceLeDiff]
            refine AWP_step ?_
            simp -implicitDefEqProofs (maxSteps := 2000000) (disch := first | omega | (simp only [nx_new, nx_set, List.length_cons, List.length_nil, List.length_map, List.length_set, ne_eq, not_true_eq_false, not_false_eq_true, Nat.succ_ne_zero]; done) | (simp only [nx_new, nx_set, List.length_cons, List.length_nil, List.length_map, List.length_set, ne_eq, not_true_eq_false, not_false_eq_true, Nat.succ_ne_zero]; omega)) only [go_sem, reduceIte, reduceCtorEq, Nat.succ_ne_zero, not_false_eq_true, decide_true, decide_false, Nat.reduceAdd, Nat.reduceMul, Nat.reduceEqDiff, Nat.reduceLeDiff]
            refine AWP_draw_fast mo (by kernel_rfl) ?_
            obtain ⟨b1, s1, rfl, hb1, hl1⟩ := (heG.grows kb.grows) k (by rw [List.length_map]; omega)
            simp only [List.getElem_map] at hl1
            have q0 : load1 Gb ⟨b1, s1 + k * 2, none⟩ = some (.int .i64 l[k].1) := (load1_part hl1 (i := 0) (by decide)).trans rfl
            have q1 : load1 Gb ⟨b1, s1 + k * 2 + 1, none⟩ = some (.int .i64 l[k].2) := (load1_part hl1 (i := 1) (by decide)).trans rfl
            have hlk := hin l[k] (List.getElem_mem hkl)
            have hat := at_get hkl
            have wl := fun (c' : List Nat) hw' h' => wide_len (left := lf) (right := rt) hkl hl2.1 hr2.1 hin hw' hch (c' := c') h'
            rw [hat] at wl
            generalize l[k] = t at *
            obtain ⟨f0, u0⟩ := t
            simp only at q0 q1 hlk wl
            have w1 : IntKind.i64.wrap (f0 - lf) = f0 - lf := wrap_i64 (by omega) (by omega)
            have w2 : IntKind.i64.wrap (u0 + rt) = u0 + rt := wrap_i64 (by omega) (by omega)
            have hfl := spc_flat l
            simp -implicitDefEqProofs (maxSteps := 2000000) (disch := first | omega | (simp only [nx_new, nx_set, List.length_cons, List.length_nil, List.length_map, List.length_set, ne_eq, not_true_eq_false, not_false_eq_true, Nat.succ_ne_zero]; done) | (simp only [nx_new, nx_set, List.length_cons, List.length_nil, List.length_map, List.length_set, ne_eq, not_true_eq_false, not_false_eq_true, Nat.succ_ne_zero]; omega)) only [go_sem, reduceIte, reduceCtorEq, Nat.succ_ne_zero, not_false_eq_true, decide_true, decide_false, Nat.reduceAdd, Nat.reduceMul, Nat.reduceEqDiff, Nat.reduceLeDiff, q0, q1, cv2, cv3, w1, w2, hbg]
            rw [splice_spc hkl (f0 - lf, u0 + rt)]
            have hew : Elems (Gb.set (G.next + 1) (.row ((l.set k (f0 - lf, u0 + rt)).map spc).flatten true 2)) (some ⟨G.next + 1, 0, none⟩) 2 ((l.set k (f0 - lf, u0 + rt)).map spc) := Elems.row (by rw [Hp.next_set]; omega) (Hp.get_set_same _ _ _ _ rfl) (spc_len _)
            generalize Gb.set (G.next + 1) (.row ((l.set k (f0 - lf, u0 + rt)).map spc).flatten true 2) = Gc at *
            have p4 := Plan_spec Gc _ _ (by rw [List.length_set]; omega) hew
            rw [List.length_set] at p4
            refine AWP_step ?_
            simp -implicitDefEqProofs (maxSteps := 2000000) (disch := first | omega | (simp only [nx_new, nx_set, List.length_cons, List.length_nil, List.length_map, List.length_set, ne_eq, not_true_eq_false, not_false_eq_true, Nat.succ_ne_zero]; done) | (simp only [nx_new, nx_set, List.length_cons, List.length_nil, List.length_map, List.length_set, ne_eq, not_true_eq_false, not_false_eq_true, Nat.succ_ne_zero]; omega)) only [go_sem, reduceIte, reduceCtorEq, Nat.succ_ne_zero, not_false_eq_true, decide_true, decide_false, Nat.reduceAdd, Nat.reduceMul, Nat.reduceEqDiff, Nat.reduceLeDiff]
            refine p4.mono ?_
            have hcd' : cd = 0 ∨ cd = 1 := by omega
            rintro _ G5 ⟨_, ⟨_, rfl⟩ | ⟨h5, c5, o5, o6, hch5, rfl, _, _⟩⟩
            · rcases hcd' with rfl | rfl
              · simp -implicitDefEqProofs (maxSteps := 2000000) (disch := first | omega | (simp only [nx_new, nx_set, List.length_cons, List.length_nil, List.length_map, List.length_set, ne_eq, not_true_eq_false, not_false_eq_true, Nat.succ_ne_zero]; done) | (simp only [nx_new, nx_set, List.length_cons, List.length_nil, List.length_map, List.length_set, ne_eq, not_true_eq_false, not_false_eq_true, Nat.succ_ne_zero]; omega)) only [go_sem, reduceIte, reduceCtorEq, Nat.succ_ne_zero, not_false_eq_true, decide_true, decide_false, Nat.reduceAdd, Nat.reduceMul, Nat.reduceEqDiff, Nat.reduceLeDiff]
                refine AWP_of_awp ?_
                simp -implicitDefEqProofs (maxSteps := 2000000) (disch := first | omega | (simp only [nx_new, nx_set, List.length_cons, List.length_nil, List.length_map, List.length_set, ne_eq, not_true_eq_false, not_false_eq_true, Nat.succ_ne_zero]; done) | (simp only [nx_new, nx_set, List.length_cons, List.length_nil, List.length_map, List.length_set, ne_eq, not_true_eq_false, not_false_eq_true, Nat.succ_ne_zero]; omega)) only [go_sem, reduceIte, reduceCtorEq, Nat.succ_ne_zero, not_false_eq_true, decide_true, decide_false, Nat.reduceAdd, Nat.reduceMul, Nat.reduceEqDiff, Nat.reduceLeDiff]
                exact ret_r (v := .bool true) (by rw [ares_tmp ret7]; rfl) rfl
              · simp -implicitDefEqProofs (maxSteps := 2000000) (disch := first | omega | (simp only [nx_new, nx_set, List.length_cons, List.length_nil, List.length_map, List.length_set, ne_eq, not_true_eq_false, not_false_eq_true, Nat.succ_ne_zero]; done) | (simp only [nx_new, nx_set, List.length_cons, List.length_nil, List.length_map, List.length_set, ne_eq, not_true_eq_false, not_false_eq_true, Nat.succ_ne_zero]; omega)) only [go_sem, reduceIte, reduceCtorEq, Nat.succ_ne_zero, not_false_eq_true, decide_true, decide_false, Nat.reduceAdd, Nat.reduceMul, Nat.reduceEqDiff, Nat.reduceLeDiff]
                refine AWP_of_awp ?_
                simp -implicitDefEqProofs (maxSteps := 2000000) (disch := first | omega | (simp only [nx_new, nx_set, List.length_cons, List.length_nil, List.length_map, List.length_set, ne_eq, not_true_eq_false, not_false_eq_true, Nat.succ_ne_zero]; done) | (simp only [nx_new, nx_set, List.length_cons, List.length_nil, List.length_map, List.length_set, ne_eq, not_true_eq_false, not_false_eq_true, Nat.succ_ne_zero]; omega)) only [go_sem, reduceIte, reduceCtorEq, Nat.succ_ne_zero, not_false_eq_true, decide_true, decide_false, Nat.reduceAdd, Nat.reduceMul, Nat.reduceEqDiff, Nat.reduceLeDiff]
                exact ret_r (v := .bool true) (by rw [ares_tmp ret7]; rfl) rfl
            · have hle := wl c5 (valid_in h5) hch5
              rcases hcd' with rfl | rfl
              · simp -implicitDefEqProofs (maxSteps := 2000000) (disch := first | omega | (simp only [nx_new, nx_set, List.length_cons, List.length_nil, List.length_map, List.length_set, ne_eq, not_true_eq_false, not_false_eq_true, Nat.succ_ne_zero]; done) | (simp only [nx_new, nx_set, List.length_cons, List.length_nil, List.length_map, List.length_set, ne_eq, not_true_eq_false, not_false_eq_true, Nat.succ_ne_zero]; omega)) only [go_sem, reduceIte, reduceCtorEq, Nat.succ_ne_zero, not_false_eq_true, decide_true, decide_false, Nat.reduceAdd, Nat.reduceMul, Nat.reduceEqDiff, Nat.reduceLeDiff]
                refine AWP_of_awp ?_
                simp -implicitDefEqProofs (maxSteps := 2000000) (disch := first | omega | (simp only [nx_new, nx_set, List.length_cons, List.length_nil, List.length_map, List.length_set, ne_eq, not_true_eq_false, not_false_eq_true, Nat.succ_ne_zero]; done) | (simp only [nx_new, nx_set, List.length_cons, List.length_nil, List.length_map, List.length_set, ne_eq, not_true_eq_false, not_false_eq_true, Nat.succ_ne_zero]; omega)) only [go_sem, reduceIte, reduceCtorEq, Nat.succ_ne_zero, not_false_eq_true, decide_true, decide_false, Nat.reduceAdd, Nat.reduceMul, Nat.reduceEqDiff, Nat.reduceLeDiff]
                exact ret_r (v := .bool true) (by rw [ares_tmp ret7]; rfl) rfl
              · simp -implicitDefEqProofs (maxSteps := 2000000) (disch := first | omega | (simp only [nx_new, nx_set, List.length_cons, List.length_nil, List.length_map, List.length_set, ne_eq, not_true_eq_false, not_false_eq_true, Nat.succ_ne_zero]; done) | (simp only [nx_new, nx_set, List.length_cons, List.length_nil, List.length_map, List.length_set, ne_eq, not_true_eq_false, not_false_eq_true, Nat.succ_ne_zero]; omega)) only [go_sem, reduceIte, reduceCtorEq, Nat.succ_ne_zero, not_false_eq_true, decide_true, decide_false, Nat.reduceAdd, Nat.reduceMul, Nat.reduceEqDiff, Nat.reduceLeDiff]
                refine AWP_of_awp ?_
                simp -implicitDefEqProofs (maxSteps := 2000000) (disch := first | omega | (simp only [nx_new, nx_set, List.length_cons, List.length_nil, List.length_map, List.length_set, ne_eq, not_true_eq_false, not_false_eq_true, Nat.succ_ne_zero]; done) | (simp only [nx_new, nx_set, List.length_cons, List.length_nil, List.length_map, List.length_set, ne_eq, not_true_eq_false, not_false_eq_true, Nat.succ_ne_zero]; omega)) only [go_sem, reduceIte, reduceCtorEq, Nat.succ_ne_zero, not_false_eq_true, decide_true, decide_false, Nat.reduceAdd, Nat.reduceMul, Nat.reduceEqDiff, Nat.reduceLeDiff]
                exact ret_r (v := .bool true) (by rw [ares_tmp ret7]; rfl) rfl
end Go.Proofs.Ytjgdmjoafpbnaaa
