/- Count, walked. -/
import Derived.Test.YtjdmndklnfhmjaaAbsU
import Derived.Test.YtjdmndklnfhmjaaXe
set_option linter.unusedVariables false
set_option linter.unusedSimpArgs false
set_option linter.unusedSectionVars false
namespace Go.Proofs.Ytjdmndklnfhmjaa
open Go.Abs
set_option maxHeartbeats 8000000
set_option maxRecDepth 100000
theorem Elems.km {H H' : Hp} {a : Option Addr} {s : Nat} {xs : List (List Value)} (he : Elems H a s xs) (hk : KM H H') : Elems H' a s xs :=
  Elems.grows (H := ⟨H.next, H.get, fun _ => none⟩) (H' := H') ⟨hk.next, fun b cs own k hb hg => (hk.get b hb).trans hg, fun r o h => by cases h⟩ he
theorem OwnSl.km {lo k : Nat} {G G' : Hp} {a : Option Addr} {cs : List Value} (h : OwnSl lo G a k cs) (hk : KM G G') : OwnSl lo G' a k cs := by
  rcases h with h | ⟨q, h1, h2, h3, h4⟩
  · exact .inl h
  · exact .inr ⟨q, h1, h2, Nat.lt_of_lt_of_le h3 hk.next, by rw [hk.get q h3]; exact h4⟩
def talOf (ps : List Pl) (p : Pl) : Tal := ⟨p.t, p.c, p.f, ps.count p⟩
/-- What Count answers. -/
def CountR (l : List Det) (lo : Nat) (v : Value) (G : Hp) : Prop :=
  (1000 < l.length ∧ v = .tuple #[.slice none 0 0, .int .i64 2]) ∨ (l.length ≤ 1000 ∧ l.all okD = false ∧ v = .tuple #[.slice none 0 0, .int .i64 1]) ∨
    (l.length ≤ 1000 ∧ l.all okD = true ∧ ∃ (o : Option Addr) (L : List Pl), Rank (l.map Det.pl) L ∧ v = .tuple #[.slice o L.length L.length, .int .i64 0] ∧ OwnSl lo G o 4 ((L.map (talOf (l.map Det.pl))).map Tal.cells).flatten)
theorem det_at {H : Hp} {a : Option Addr} {l : List Det} (he : Elems H a 5 (l.map Det.cells)) (i : Nat) (hi : i < l.length) : ∃ b o, a = some ⟨b, o, none⟩ ∧ aload H ⟨b, o + i * 5, none⟩ 5 = some l[i].cells := by
  obtain ⟨b, o, h1, _, h2⟩ := he i (by rw [List.length_map]; exact hi)
  rw [List.getElem_map] at h2
  exact ⟨b, o, h1, h2⟩
theorem okD_pl {d : Det} (h : okD d = true) : PlOk d.pl := by
  simp only [okD, Bool.and_eq_true] at h
  exact h.1.1.1.1
theorem mapOf_len {ps : List Pl} {es : List (List Int × Value)} (h : MapOf ps es) : es.length ≤ ps.length := by
  have := nodup_len (s := es.map (·.1)) (t := ps.map Pl.ints) h.nodup fun k hk => by
    obtain ⟨e, he, rfl⟩ := List.mem_map.1 hk
    obtain ⟨p, hp, rfl⟩ := h.each e he
    exact List.mem_map.2 ⟨p, hp, rfl⟩
  simpa using this
theorem KM.setOb {H G : Hp} {r : Nat} {o : MObj} (h : KM H G) (hr : H.ob r = none) : KM H (G.setOb r o) := ⟨h.next, h.get, fun x es hx => by
  rw [Hp.ob_setOb_ne _ _ _ _ (fun e => by subst e; rw [hr] at hx; cases hx)]; exact h.mp x es hx⟩
theorem KM.new {H G : Hp} (h : KM H G) (b : Blk) : KM H (G.new b) := h.trans (KM.of (Keeps.new _ _))
theorem pls_flat (L : List Pl) : (L.map Pl.cells).flatten.length = L.length * 3 := by rw [flat_len (pls_len L), List.length_map]
theorem tals_flat (L : List Tal) : (L.map Tal.cells).flatten.length = L.length * 4 := by rw [flat_len (tals_len L), List.length_map]
theorem n11 : Try.f11.ntmps = 54 := rfl
theorem ret11 : Try.f11.results = #[.tmp 2, .tmp 3] := rfl
theorem count_spec (H : Hp) (a : Option Addr) (l : List Det) (hl : l.length ≤ 1000000) (he : Elems H a 5 (l.map Det.cells)) :
    ACalls Try.prog 11 [.slice a l.length l.length] H (fun v H' => CountR l H.next v H' ∧ KM H H') := by
  refine ACalls_enter Try.func11 (by kernel_rfl) rfl (by kernel_rfl) (by simp [n11]) fun hw hr => AWP_of_awp ?_
  simp -implicitDefEqProofs (maxSteps := 2000000) (disch := first | omega | (simp only [nx_new, nx_set, List.length_cons, List.length_nil, List.length_map, List.length_set, ne_eq, not_true_eq_false, not_false_eq_true, Nat.succ_ne_zero]; done) | (simp only [nx_new, nx_set, List.length_cons, List.length_nil, List.length_map, List.length_set, ne_eq, not_true_eq_false, not_false_eq_true, Nat.succ_ne_zero]; omega)) only [go_sem, reduceIte, reduceCtorEq, Nat.succ_ne_zero, not_false_eq_true, decide_true, decide_false, Nat.reduceAdd, Nat.reduceMul, Nat.reduceEqDiff, Nat.reduceLeDiff]
  refine condS_split (fun hc => ?_) (fun hc => ?_)
  · have h1 : 1000 < l.length := by have := of_decide_eq_true hc; omega
    simp -implicitDefEqProofs (maxSteps := 2000000) (disch := first | omega | (simp only [nx_new, nx_set, List.length_cons, List.length_nil, List.length_map, List.length_set, ne_eq, not_true_eq_false, not_false_eq_true, Nat.succ_ne_zero]; done) | (simp only [nx_new, nx_set, List.length_cons, List.length_nil, List.length_map, List.length_set, ne_eq, not_true_eq_false, not_false_eq_true, Nat.succ_ne_zero]; omega)) only [go_sem, reduceIte, reduceCtorEq, Nat.succ_ne_zero, not_false_eq_true, decide_true, decide_false, Nat.reduceAdd, Nat.reduceMul, Nat.reduceEqDiff, Nat.reduceLeDiff, hc]
    exact ret_r (v := .tuple #[.slice none 0 0, .int .i64 2]) (by rw [ares_tmp_tmp ret11]; rfl) ⟨.inl ⟨h1, rfl⟩, KM.refl _⟩
  have h1 : l.length ≤ 1000 := by have := of_decide_eq_false hc; omega
  simp -implicitDefEqProofs (maxSteps := 2000000) (disch := first | omega | (simp only [nx_new, nx_set, List.length_cons, List.length_nil, List.length_map, List.length_set, ne_eq, not_true_eq_false, not_false_eq_true, Nat.succ_ne_zero]; done) | (simp only [nx_new, nx_set, List.length_cons, List.length_nil, List.length_map, List.length_set, ne_eq, not_true_eq_false, not_false_eq_true, Nat.succ_ne_zero]; omega)) only [go_sem, reduceIte, reduceCtorEq, Nat.succ_ne_zero, not_false_eq_true, decide_true, decide_false, Nat.reduceAdd, Nat.reduceMul, Nat.reduceEqDiff, Nat.reduceLeDiff, hc]
  rw [o_makeMap]
  intro r hr0
  simp -implicitDefEqProofs (maxSteps := 2000000) (disch := first | omega | (simp only [nx_new, nx_set, List.length_cons, List.length_nil, List.length_map, List.length_set, ne_eq, not_true_eq_false, not_false_eq_true, Nat.succ_ne_zero]; done) | (simp only [nx_new, nx_set, List.length_cons, List.length_nil, List.length_map, List.length_set, ne_eq, not_true_eq_false, not_false_eq_true, Nat.succ_ne_zero]; omega)) only [go_sem, reduceIte, reduceCtorEq, Nat.succ_ne_zero, not_false_eq_true, decide_true, decide_false, Nat.reduceAdd, Nat.reduceMul, Nat.reduceEqDiff, Nat.reduceLeDiff]
  have kb : KM H (H.setOb r (.mp [])) := (KM.refl H).setOb hr0
  refine AWP_loop (σ := Nat × Hp) (fun s => [(16, .int .i64 s.1), (15, .int .i64 l.length), (14, .slice a l.length l.length), (4, .map (some r)), (2, .slice none 0 0), (3, .int .i64 0)]) (fun s => s.2)
    (fun s => s.1 ≤ l.length ∧ KM H s.2 ∧ (∀ d, d ∈ l.take s.1 → okD d = true) ∧ ∃ es, s.2.ob r = some (.mp es) ∧ MapOf ((l.take s.1).map Det.pl) es) (fun s => l.length - s.1) (0, H.setOb r (.mp [])) ⟨Nat.zero_le _, kb, (fun d hd => by cases hd), [], Hp.ob_setOb_same _ _ _, mapOf_nil⟩ (Weak.sub ?_) ?_
  · (simp -implicitDefEqProofs (disch := omega) only [Abs.Sub, get_cons_eq, get_cons_ne, and_self, Option.some.injEq, Value.int.injEq, Value.slice.injEq, true_and, and_true, Int.natCast_zero, Int.natCast_add, Int.natCast_one, List.length_nil]; try omega)
  rintro ⟨i, G⟩ ⟨hi, hk, hok, es, hob, hM⟩
  simp only at hi hk hok hob hM ⊢
  have hkn := hk.next
  refine AWP_of_awp ?_
  by_cases hlt : i < l.length
  · obtain ⟨b, o, rfl, hload⟩ := det_at (Elems.km he hk) i hlt
    have htk : l.take (i + 1) = l.take i ++ [l[i]] := List.take_succ_eq_append_getElem hlt
    have hmem : l[i] ∈ l := List.getElem_mem hlt
    generalize l[i] = d at *
    have hval := fun G => valid_spec G d
    have hof := fun G => of_spec G d.t d.c d.f d.v d.a
    simp only [Det.cells] at hload hval
    simp -implicitDefEqProofs (maxSteps := 2000000) (disch := first | omega | (simp only [nx_new, nx_set, List.length_cons, List.length_nil, List.length_map, List.length_set, ne_eq, not_true_eq_false, not_false_eq_true, Nat.succ_ne_zero]; done) | (simp only [nx_new, nx_set, List.length_cons, List.length_nil, List.length_map, List.length_set, ne_eq, not_true_eq_false, not_false_eq_true, Nat.succ_ne_zero]; omega)) only [go_sem, reduceIte, reduceCtorEq, Nat.succ_ne_zero, not_false_eq_true, decide_true, decide_false, Nat.reduceAdd, Nat.reduceMul, Nat.reduceEqDiff, Nat.reduceLeDiff, hload]
    refine (hval _).mono ?_
    rintro _ G2 ⟨rfl, k2⟩
    have gd : G2.get G.next = .row [.int .i64 d.t, .int .i64 d.c, .int .i64 d.f, .int .i64 d.v, .int .i64 d.a] true 0 := (k2.get _ (Nat.lt_succ_self _)).trans (Hp.get_new_same _ _ _ rfl)
    have hk2 : KM H G2 := (hk.new _).trans (KM.of k2)
    have hob2 : G2.ob r = some (.mp es) := k2.ob r _ hob
    have hn2 : G.next < G2.next := Nat.lt_of_lt_of_le (Nat.lt_succ_self _) k2.next
    cases hb : okD d with
    | false =>
      simp -implicitDefEqProofs (maxSteps := 2000000) (disch := first | omega | (simp only [nx_new, nx_set, List.length_cons, List.length_nil, List.length_map, List.length_set, ne_eq, not_true_eq_false, not_false_eq_true, Nat.succ_ne_zero]; done) | (simp only [nx_new, nx_set, List.length_cons, List.length_nil, List.length_map, List.length_set, ne_eq, not_true_eq_false, not_false_eq_true, Nat.succ_ne_zero]; omega)) only [go_sem, reduceIte, reduceCtorEq, Nat.succ_ne_zero, not_false_eq_true, decide_true, decide_false, Nat.reduceAdd, Nat.reduceMul, Nat.reduceEqDiff, Nat.reduceLeDiff]
      refine ret_r (v := .tuple #[.slice none 0 0, .int .i64 1]) (by rw [ares_tmp_tmp ret11]; rfl) ⟨.inr (.inl ⟨h1, ?_, rfl⟩), hk2⟩
      rw [List.all_eq_false]
      exact ⟨d, hmem, by rw [hb]; decide⟩
    | true =>
      have lk : aload G2 ⟨G.next, 0, none⟩ 5 = some [.int .i64 d.t, .int .i64 d.c, .int .i64 d.f, .int .i64 d.v, .int .i64 d.a] := aload_row gd (Nat.le_refl 5)
      have hps : ∀ p, p ∈ (l.take i).map Det.pl → PlOk p := fun p hp => by
        obtain ⟨x, hx, rfl⟩ := List.mem_map.1 hp
        exact okD_pl (hok x hx)
      simp -implicitDefEqProofs (maxSteps := 2000000) (disch := first | omega | (simp only [nx_new, nx_set, List.length_cons, List.length_nil, List.length_map, List.length_set, ne_eq, not_true_eq_false, not_false_eq_true, Nat.succ_ne_zero]; done) | (simp only [nx_new, nx_set, List.length_cons, List.length_nil, List.length_map, List.length_set, ne_eq, not_true_eq_false, not_false_eq_true, Nat.succ_ne_zero]; omega)) only [go_sem, reduceIte, reduceCtorEq, Nat.succ_ne_zero, not_false_eq_true, decide_true, decide_false, Nat.reduceAdd, Nat.reduceMul, Nat.reduceEqDiff, Nat.reduceLeDiff, lk]
      refine AWP_draw_tree (.list 0 (.list 1 (.list 2 (.fork (.cons 3 (.list 4 (.list 5 (.list 6 (.list 7 .done)))) (.cons 5 (.list 3 (.list 4 (.list 6 (.list 7 .done)))) .nil)))))) mo (by kernel_rfl) ?_
      simp -implicitDefEqProofs (maxSteps := 2000000) (disch := first | omega | (simp only [nx_new, nx_set, List.length_cons, List.length_nil, List.length_map, List.length_set, ne_eq, not_true_eq_false, not_false_eq_true, Nat.succ_ne_zero]; done) | (simp only [nx_new, nx_set, List.length_cons, List.length_nil, List.length_map, List.length_set, ne_eq, not_true_eq_false, not_false_eq_true, Nat.succ_ne_zero]; omega)) only [go_sem, reduceIte, reduceCtorEq, Nat.succ_ne_zero, not_false_eq_true, decide_true, decide_false, Nat.reduceAdd, Nat.reduceMul, Nat.reduceEqDiff, Nat.reduceLeDiff, lk]
      refine (hof _).mono ?_
      rintro _ G3 ⟨rfl, k3⟩
      have hob3 : G3.ob r = some (.mp es) := k3.ob r _ hob2
      have hlk := lookup_fact hob3 hM hps (p := d.pl) (okD_pl hb)
      obtain ⟨z, m, G4, es2, hen, hst, hM2, hlk4⟩ := entry_fact hob3 hM hps (p := d.pl) (okD_pl hb)
      simp only [Det.pl] at hlk hen hst hlk4
      have kg := k3.grows
      have hcl : ((l.take i).map Det.pl).count ⟨d.t, d.c, d.f⟩ ≤ i := by
        have := List.count_le_length (a := (⟨d.t, d.c, d.f⟩ : Pl)) (l := (l.take i).map Det.pl)
        rw [List.length_map, List.length_take] at this; omega
      have hwr : IntKind.i64.wrap ((((l.take i).map Det.pl).count ⟨d.t, d.c, d.f⟩ : Int) + 1) = (((l.take i).map Det.pl).count ⟨d.t, d.c, d.f⟩ : Int) + 1 := wrap_i64 (by omega) (by omega)
      simp -implicitDefEqProofs (maxSteps := 2000000) (disch := first | omega | (simp only [nx_new, nx_set, List.length_cons, List.length_nil, List.length_map, List.length_set, ne_eq, not_true_eq_false, not_false_eq_true, Nat.succ_ne_zero]; done) | (simp only [nx_new, nx_set, List.length_cons, List.length_nil, List.length_map, List.length_set, ne_eq, not_true_eq_false, not_false_eq_true, Nat.succ_ne_zero]; omega)) only [go_sem, reduceIte, reduceCtorEq, Nat.succ_ne_zero, not_false_eq_true, decide_true, decide_false, Nat.reduceAdd, Nat.reduceMul, Nat.reduceEqDiff, Nat.reduceLeDiff, kg, hlk, hen, hst, hlk4, hwr]
      have hcon : i + 1 ≤ l.length ∧ KM H (G3.setOb r (.mp es2)) ∧ (∀ d, d ∈ l.take (i + 1) → okD d = true) ∧ ∃ es, (G3.setOb r (.mp es2)).ob r = some (.mp es) ∧ MapOf ((l.take (i + 1)).map Det.pl) es := by
        refine ⟨hlt, (hk2.trans (KM.of k3)).setOb hr0, fun x hx => ?_, es2, Hp.ob_setOb_same _ _ _, ?_⟩
        · rw [htk] at hx
          rcases List.mem_append.1 hx with hx | hx
          · exact hok x hx
          · rw [List.mem_singleton] at hx; subst hx; exact hb
        · rw [htk, List.map_append]; exact hM2
      refine ⟨?_, ?_⟩
      · exact ⟨(i + 1, G3.setOb r (.mp es2)), hcon, by simp only; omega, Weak.sub (by (simp -implicitDefEqProofs (disch := omega) only [Abs.Sub, get_cons_eq, get_cons_ne, and_self, Option.some.injEq, Value.int.injEq, Value.slice.injEq, true_and, and_true, Int.natCast_zero, Int.natCast_add, Int.natCast_one, List.length_nil]; try omega))⟩
      · exact ⟨(i + 1, G3.setOb r (.mp es2)), hcon, by simp only; omega, Weak.sub (by (simp -implicitDefEqProofs (disch := omega) only [Abs.Sub, get_cons_eq, get_cons_ne, and_self, Option.some.injEq, Value.int.injEq, Value.slice.injEq, true_and, and_true, Int.natCast_zero, Int.natCast_add, Int.natCast_one, List.length_nil]; try omega))⟩
  · obtain rfl : i = l.length := by omega
    rw [List.take_of_length_le (Nat.le_refl _)] at hM hok
    have hall : l.all okD = true := List.all_eq_true.2 hok
    have hps : ∀ p, p ∈ l.map Det.pl → PlOk p := fun p hp => by
      obtain ⟨x, hx, rfl⟩ := List.mem_map.1 hp
      exact okD_pl (hok x hx)
    have hel := mapOf_len hM
    rw [List.length_map] at hel
    have hcl : ∀ p, (l.map Det.pl).count p ≤ l.length := fun p => by
      have := List.count_le_length (a := p) (l := l.map Det.pl)
      rwa [List.length_map] at this
    simp -implicitDefEqProofs (maxSteps := 2000000) (disch := first | omega | (simp only [nx_new, nx_set, List.length_cons, List.length_nil, List.length_map, List.length_set, ne_eq, not_true_eq_false, not_false_eq_true, Nat.succ_ne_zero]; done) | (simp only [nx_new, nx_set, List.length_cons, List.length_nil, List.length_map, List.length_set, ne_eq, not_true_eq_false, not_false_eq_true, Nat.succ_ne_zero]; omega)) only [go_sem, reduceIte, reduceCtorEq, Nat.succ_ne_zero, not_false_eq_true, decide_true, decide_false, Nat.reduceAdd, Nat.reduceMul, Nat.reduceEqDiff, Nat.reduceLeDiff]
    refine ACalls.use_eq (keys_spec G r) ?_
    simp -implicitDefEqProofs (maxSteps := 2000000) (disch := first | omega | (simp only [nx_new, nx_set, List.length_cons, List.length_nil, List.length_map, List.length_set, ne_eq, not_true_eq_false, not_false_eq_true, Nat.succ_ne_zero]; done) | (simp only [nx_new, nx_set, List.length_cons, List.length_nil, List.length_map, List.length_set, ne_eq, not_true_eq_false, not_false_eq_true, Nat.succ_ne_zero]; omega)) only [go_sem, reduceIte, reduceCtorEq, Nat.succ_ne_zero, not_false_eq_true, decide_true, decide_false, Nat.reduceAdd, Nat.reduceMul, Nat.reduceEqDiff, Nat.reduceLeDiff]
    refine (sorted_spec hps hM (by omega) (Nat.lt_succ_self _) (Hp.get_new_same _ _ _ rfl) hob).mono ?_
    rintro _ G2 ⟨hk2, o, L, hRk, hL1, rfl, ho⟩
    have hkm : KM H G2 := (hk.new _).trans hk2
    have hob2 : G2.ob r = some (.mp es) := hk2.mp _ _ hob
    have hn2 := hk2.next
    rw [Hp.next_new] at hn2 ho
    have hpel := ho.elems (pls_len L) (by decide)
    have hRm : ∀ p, p ∈ L → p ∈ l.map Det.pl := fun p hp => (hRk.2 p).1 hp
    simp -implicitDefEqProofs (maxSteps := 2000000) (disch := first | omega | (simp only [nx_new, nx_set, List.length_cons, List.length_nil, List.length_map, List.length_set, ne_eq, not_true_eq_false, not_false_eq_true, Nat.succ_ne_zero]; done) | (simp only [nx_new, nx_set, List.length_cons, List.length_nil, List.length_map, List.length_set, ne_eq, not_true_eq_false, not_false_eq_true, Nat.succ_ne_zero]; omega)) only [go_sem, reduceIte, reduceCtorEq, Nat.succ_ne_zero, not_false_eq_true, decide_true, decide_false, Nat.reduceAdd, Nat.reduceMul, Nat.reduceEqDiff, Nat.reduceLeDiff]
    have ho0 : OwnSl G2.next G2 none 4 (((L.take 0).map (talOf (l.map Det.pl))).map Tal.cells).flatten := OwnSl.none
    refine AWP_loop (σ := Nat × Hp × Option Addr) (fun s => [(35, .int .i64 s.1), (34, .int .i64 L.length), (33, .slice o L.length L.length), (7, .slice s.2.2 s.1 s.1), (4, .map (some r))]) (fun s => s.2.1)
      (fun s => s.1 ≤ L.length ∧ KM G2 s.2.1 ∧ OwnSl G2.next s.2.1 s.2.2 4 (((L.take s.1).map (talOf (l.map Det.pl))).map Tal.cells).flatten) (fun s => L.length - s.1) (0, G2, none) ⟨Nat.zero_le _, KM.refl _, ho0⟩ (Weak.sub ?_) ?_
    · (simp -implicitDefEqProofs (disch := omega) only [Abs.Sub, get_cons_eq, get_cons_ne, and_self, Option.some.injEq, Value.int.injEq, Value.slice.injEq, true_and, and_true, Int.natCast_zero, Int.natCast_add, Int.natCast_one, List.length_nil]; try omega)
    rintro ⟨k, G5, o5⟩ ⟨hk5, hkk, ho5⟩
    simp only at hk5 hkk ho5 ⊢
    have hn5 := hkk.next
    refine AWP_of_awp ?_
    by_cases hltk : k < L.length
    · obtain ⟨b, ob, rfl, _, hload⟩ := Elems.km hpel hkk k (by rw [List.length_map]; exact hltk)
      rw [List.getElem_map] at hload
      have htk : L.take (k + 1) = L.take k ++ [L[k]] := List.take_succ_eq_append_getElem hltk
      have hmem : L[k] ∈ L := List.getElem_mem hltk
      generalize L[k] = p at *
      have hob5 : G5.ob r = some (.mp es) := hkk.mp _ _ hob2
      have hlk := fun G6 (h : Hp.ob G6 r = some (.mp es)) => lookup_fact h hM hps (hps p (hRm p hmem))
      simp only [Pl.cells] at hload
      simp -implicitDefEqProofs (maxSteps := 2000000) (disch := first | omega | (simp only [nx_new, nx_set, List.length_cons, List.length_nil, List.length_map, List.length_set, ne_eq, not_true_eq_false, not_false_eq_true, Nat.succ_ne_zero]; done) | (simp only [nx_new, nx_set, List.length_cons, List.length_nil, List.length_map, List.length_set, ne_eq, not_true_eq_false, not_false_eq_true, Nat.succ_ne_zero]; omega)) only [go_sem, reduceIte, reduceCtorEq, Nat.succ_ne_zero, not_false_eq_true, decide_true, decide_false, Nat.reduceAdd, Nat.reduceMul, Nat.reduceEqDiff, Nat.reduceLeDiff, hload]
      obtain ⟨M, eM⟩ : ∃ M, M = G5.new (.row [.int .i64 p.t, .int .i64 p.c, .int .i64 p.f] true 0) := ⟨_, rfl⟩
      rw [← eM]
      have kM : Keeps G5 M := by rw [eM]; exact Keeps.new _ _
      have nM : M.next = G5.next + 1 := by rw [eM]; rfl
      have gM : M.get G5.next = .row [.int .i64 p.t, .int .i64 p.c, .int .i64 p.f] true 0 := by rw [eM]; exact Hp.get_new_same _ _ _ rfl
      have hobM : M.ob r = some (.mp es) := kM.ob r _ hob5
      have hlk := hlk M hobM
      clear eM
      have a0 : load1 M ⟨G5.next, 0, none⟩ = some (.int .i64 p.t) := (l1_row _ _ _ _ _ gM).trans rfl
      have a1 : load1 M ⟨G5.next, 1, none⟩ = some (.int .i64 p.c) := (l1_row _ _ _ _ _ gM).trans rfl
      have a2 : load1 M ⟨G5.next, 2, none⟩ = some (.int .i64 p.f) := (l1_row _ _ _ _ _ gM).trans rfl
      have a3 : aload M ⟨G5.next, 0, none⟩ 3 = some [.int .i64 p.t, .int .i64 p.c, .int .i64 p.f] := aload_row gM (Nat.le_refl 3)
      refine AWP_draw_fast mo (by kernel_rfl) ?_
      simp -implicitDefEqProofs (maxSteps := 2000000) (disch := first | omega | (simp only [nx_new, nx_set, List.length_cons, List.length_nil, List.length_map, List.length_set, ne_eq, not_true_eq_false, not_false_eq_true, Nat.succ_ne_zero]; done) | (simp only [nx_new, nx_set, List.length_cons, List.length_nil, List.length_map, List.length_set, ne_eq, not_true_eq_false, not_false_eq_true, Nat.succ_ne_zero]; omega)) only [go_sem, reduceIte, reduceCtorEq, Nat.succ_ne_zero, not_false_eq_true, decide_true, decide_false, Nat.reduceAdd, Nat.reduceMul, Nat.reduceEqDiff, Nat.reduceLeDiff, a0, a1, a2, a3, hlk]
      have hfl : (((L.take k).map (talOf (l.map Det.pl))).map Tal.cells).flatten.length = k * 4 := by
        rw [tals_flat, List.length_map, List.length_take]; omega
      have km5 : KM G2 M := hkk.trans (KM.of kM)
      have ho6 := ho5.keeps kM
      have hn6 : G2.next ≤ M.next := by omega
      obtain ⟨G7, hap, h7n, h7g, hold, hob7⟩ := append_own (P := Try.prog) u33 u33 ts37 tb37 tz37 rfl (by decide) (by decide) (G := M.new (.row [.int .i64 p.t, .int .i64 p.c, .int .i64 p.f, .int .i64 ((l.map Det.pl).count p)] true 4)) (lo := G2.next) (n := k) (c := k) (m := 1) (c' := 1) (r := M.next) (ro := 0) (xs := [.int .i64 p.t, .int .i64 p.c, .int .i64 p.f, .int .i64 ((l.map Det.pl).count p)])
        (ho6.keeps (Keeps.new _ _)) (by simp -implicitDefEqProofs (maxSteps := 2000000) (disch := first | omega | (simp only [nx_new, nx_set, List.length_cons, List.length_nil, List.length_map, List.length_set, ne_eq, not_true_eq_false, not_false_eq_true, Nat.succ_ne_zero]; done) | (simp only [nx_new, nx_set, List.length_cons, List.length_nil, List.length_map, List.length_set, ne_eq, not_true_eq_false, not_false_eq_true, Nat.succ_ne_zero]; omega)) only [go_sem, reduceIte, reduceCtorEq, Nat.succ_ne_zero, not_false_eq_true, decide_true, decide_false, Nat.reduceAdd, Nat.reduceMul, Nat.reduceEqDiff, Nat.reduceLeDiff]) rfl (by decide) hfl (by omega)
      simp only [Hp.next_new] at hap
      rw [hap]
      have hnx : G7.next = M.next + 1 + 1 := h7n
      have hg7 : G7.get (M.next + 1) = .row ((((L.take k).map (talOf (l.map Det.pl))).map Tal.cells).flatten ++ [.int .i64 p.t, .int .i64 p.c, .int .i64 p.f, .int .i64 ((l.map Det.pl).count p)]) true 4 := h7g
      have hob8 : G7.ob = M.ob := hob7
      have hold' : ∀ b, b < G2.next → G7.get b = M.get b := fun b hb => by
        rw [hold b (by simp only [Hp.next_new]; omega) (ho6.lo_ne hb), Hp.get_new_ne _ _ _ (by omega)]
      refine ⟨(k + 1, G7, some ⟨M.next + 1, 0, none⟩), ⟨hltk, ⟨(by show G2.next ≤ G7.next; omega), fun b hb => (hold' b hb).trans (km5.get b hb), fun x y hx => by rw [hob8]; exact km5.mp _ _ hx⟩, .inr ⟨M.next + 1, rfl, by omega, (by show M.next + 1 < G7.next; omega), ?_⟩⟩, by simp only; omega, Weak.sub (by (simp -implicitDefEqProofs (disch := omega) only [Abs.Sub, get_cons_eq, get_cons_ne, and_self, Option.some.injEq, Value.int.injEq, Value.slice.injEq, true_and, and_true, Int.natCast_zero, Int.natCast_add, Int.natCast_one, List.length_nil]; try omega))⟩
      rw [htk, List.map_append, List.map_append, List.flatten_append]
      exact hg7
    · obtain rfl : k = L.length := by omega
      rw [List.take_of_length_le (Nat.le_refl _)] at ho5
      simp -implicitDefEqProofs (maxSteps := 2000000) (disch := first | omega | (simp only [nx_new, nx_set, List.length_cons, List.length_nil, List.length_map, List.length_set, ne_eq, not_true_eq_false, not_false_eq_true, Nat.succ_ne_zero]; done) | (simp only [nx_new, nx_set, List.length_cons, List.length_nil, List.length_map, List.length_set, ne_eq, not_true_eq_false, not_false_eq_true, Nat.succ_ne_zero]; omega)) only [go_sem, reduceIte, reduceCtorEq, Nat.succ_ne_zero, not_false_eq_true, decide_true, decide_false, Nat.reduceAdd, Nat.reduceMul, Nat.reduceEqDiff, Nat.reduceLeDiff]
      refine ret_r (v := .tuple #[.slice o5 L.length L.length, .int .i64 0]) (by rw [ares_tmp_tmp ret11]; rfl) ⟨.inr (.inr ⟨h1, hall, o5, L, hRk, rfl, ?_⟩), hkm.trans hkk⟩
      rcases ho5 with h | ⟨q, e1, e2, e3, e4⟩
      · exact .inl h
      · exact .inr ⟨q, e1, by omega, e3, e4⟩
end Go.Proofs.Ytjdmndklnfhmjaa
