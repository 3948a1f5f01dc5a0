/- SortedFunc over the keys of a map. -/
import Derived.Test.YtjdmndklnfhmjaaXn
import Derived.Test.YtjdmndklnfhmjaaXd
set_option linter.unusedVariables false
set_option linter.unusedSimpArgs false
set_option linter.unusedSectionVars false
namespace Go.Proofs.Ytjdmndklnfhmjaa
open Go.Abs
set_option maxHeartbeats 8000000
set_option maxRecDepth 100000
theorem n40 : Try.f40.ntmps = 5 := rfl
theorem ret40 : Try.f40.results = #[.tmp 2] := rfl
theorem collect_spec {G : Hp} {q r : Nat} {es : List (List Int × Value)} (hn : es.length ≤ 1000000) (hnd : (es.map (·.1)).Nodup) (h3 : ∀ e, e ∈ es → e.1.length = 3) (hqn : q < G.next) (hq : G.get q = .row [.map (some r)] true 0) (hr : G.ob r = some (.mp es)) :
    ACalls Try.prog 40 [.func (.func 42) #[] #[.pointer (some ⟨q, 0, none⟩)]] G (fun v H' => KM G H' ∧ ∃ (o : Option Addr) (s : List (List Int)), s.Perm (es.map (·.1)) ∧ v = .slice o s.length s.length ∧ OwnSl G.next H' o 3 (s.map pl3).flatten) := by
  refine ACalls_enter Try.func40 (by kernel_rfl) rfl (by kernel_rfl) (by simp [n40]) fun hw hr => AWP_of_awp ?_
  simp -implicitDefEqProofs (maxSteps := 2000000) (disch := first | omega | (simp only [nx_new, nx_set, List.length_cons, List.length_nil, List.length_map, List.length_set, ne_eq, not_true_eq_false, not_false_eq_true, Nat.succ_ne_zero]; done) | (simp only [nx_new, nx_set, List.length_cons, List.length_nil, List.length_map, List.length_set, ne_eq, not_true_eq_false, not_false_eq_true, Nat.succ_ne_zero]; omega)) only [go_sem, reduceIte, reduceCtorEq, Nat.succ_ne_zero, not_false_eq_true, decide_true, decide_false, Nat.reduceAdd, Nat.reduceMul, Nat.reduceEqDiff, Nat.reduceLeDiff]
  refine (appendSeq_spec hn hnd h3 hqn hq ‹_›).mono ?_
  rintro _ G' ⟨hk, o, s, hp, rfl, ho⟩
  simp -implicitDefEqProofs (maxSteps := 2000000) (disch := first | omega | (simp only [nx_new, nx_set, List.length_cons, List.length_nil, List.length_map, List.length_set, ne_eq, not_true_eq_false, not_false_eq_true, Nat.succ_ne_zero]; done) | (simp only [nx_new, nx_set, List.length_cons, List.length_nil, List.length_map, List.length_set, ne_eq, not_true_eq_false, not_false_eq_true, Nat.succ_ne_zero]; omega)) only [go_sem, reduceIte, reduceCtorEq, Nat.succ_ne_zero, not_false_eq_true, decide_true, decide_false, Nat.reduceAdd, Nat.reduceMul, Nat.reduceEqDiff, Nat.reduceLeDiff]
  exact ret_r (v := .slice o s.length s.length) (by rw [ares_tmp ret40]; rfl) ⟨hk, o, s, hp, rfl, ho⟩
theorem perm_pull {ps : List Pl} {es : List (List Int × Value)} (hM : MapOf ps es) {s : List (List Int)} (hp : s.Perm (es.map (·.1))) : ∃ L : List Pl, s = L.map Pl.ints ∧ L.Nodup ∧ (∀ p, p ∈ L ↔ p ∈ ps) := by
  have h : ∀ t : List (List Int), (∀ k, k ∈ t → ∃ p, p ∈ ps ∧ k = p.ints) → ∃ L : List Pl, t = L.map Pl.ints := by
    intro t
    induction t with
    | nil => exact fun _ => ⟨[], rfl⟩
    | cons k t ih =>
      intro h
      obtain ⟨L, hL⟩ := ih fun k hk => h k (List.mem_cons_of_mem _ hk)
      obtain ⟨p, _, hp⟩ := h k (List.mem_cons_self ..)
      exact ⟨p :: L, by rw [hL, hp]; rfl⟩
  obtain ⟨L, rfl⟩ := h s fun k hk => by
    obtain ⟨e, he, rfl⟩ := List.mem_map.1 (hp.mem_iff.1 hk)
    obtain ⟨p, h1, rfl⟩ := hM.each e he
    exact ⟨p, h1, rfl⟩
  refine ⟨L, rfl, ?_, fun p => ?_⟩
  · have := hp.nodup_iff.2 hM.nodup
    exact (List.pairwise_map.1 this).imp fun h e => h (by rw [e])
  · constructor
    · intro h1
      have h2 := hp.mem_iff.1 (List.mem_map.2 ⟨p, h1, rfl⟩)
      obtain ⟨e, he, hk⟩ := List.mem_map.1 h2
      obtain ⟨q, h3, rfl⟩ := hM.each e he
      exact ints_inj hk ▸ h3
    · intro h1
      have h2 := hp.mem_iff.2 (hM.all p h1)
      obtain ⟨q, h3, h4⟩ := List.mem_map.1 h2
      exact ints_inj h4 ▸ h3
theorem pl3_ints (p : Pl) : pl3 p.ints = p.cells := rfl
theorem n25 : Try.f25.ntmps = 12 := rfl
theorem ret25 : Try.f25.results = #[.tmp 4] := rfl
/-- Places in order, each once. -/
def Rank (ps L : List Pl) : Prop := L.Pairwise Pl.lt ∧ ∀ p, p ∈ L ↔ p ∈ ps
theorem sorted_spec {G : Hp} {q r : Nat} {ps : List Pl} {es : List (List Int × Value)} (hok : ∀ p, p ∈ ps → PlOk p) (hM : MapOf ps es) (hn : es.length ≤ 1000000) (hqn : q < G.next) (hq : G.get q = .row [.map (some r)] true 0) (hr : G.ob r = some (.mp es)) :
    ACalls Try.prog 25 [.func (.func 42) #[] #[.pointer (some ⟨q, 0, none⟩)], .func (.func 27) #[] #[]] G (fun v H' => KM G H' ∧ ∃ (o : Option Addr) (L : List Pl), Rank ps L ∧ L.length ≤ 1000000 ∧ v = .slice o L.length L.length ∧ OwnSl G.next H' o 3 (L.map Pl.cells).flatten) := by
  refine ACalls_enter Try.func25 (by kernel_rfl) rfl (by kernel_rfl) (by simp [n25]) fun hw hr0 => AWP_of_awp ?_
  simp -implicitDefEqProofs (maxSteps := 2000000) (disch := first | omega | (simp only [nx_new, nx_set, List.length_cons, List.length_nil, List.length_map, List.length_set, ne_eq, not_true_eq_false, not_false_eq_true, Nat.succ_ne_zero]; done) | (simp only [nx_new, nx_set, List.length_cons, List.length_nil, List.length_map, List.length_set, ne_eq, not_true_eq_false, not_false_eq_true, Nat.succ_ne_zero]; omega)) only [go_sem, reduceIte, reduceCtorEq, Nat.succ_ne_zero, not_false_eq_true, decide_true, decide_false, Nat.reduceAdd, Nat.reduceMul, Nat.reduceEqDiff, Nat.reduceLeDiff]
  have h3 : ∀ e, e ∈ es → e.1.length = 3 := fun e he => by
    obtain ⟨p, _, rfl⟩ := hM.each e he; rfl
  refine (collect_spec hn hM.nodup h3 hqn hq hr).mono ?_
  rintro _ G' ⟨hk, o, s, hp, rfl, ho⟩
  obtain ⟨L, rfl, hnd, hmem⟩ := perm_pull hM hp
  have hln : L.length ≤ 1000000 := by have := hp.length_eq; rw [List.length_map, List.length_map] at this; omega
  have hpl : (L.map Pl.ints).map pl3 = L.map Pl.cells := by rw [List.map_map]; rfl
  rw [hpl] at ho
  rw [List.length_map]
  by_cases hL : L.length = 0
  · have hL : L = [] := List.eq_nil_of_length_eq_zero hL
    subst hL
    simp -implicitDefEqProofs (maxSteps := 2000000) (disch := first | omega | (simp only [nx_new, nx_set, List.length_cons, List.length_nil, List.length_map, List.length_set, ne_eq, not_true_eq_false, not_false_eq_true, Nat.succ_ne_zero]; done) | (simp only [nx_new, nx_set, List.length_cons, List.length_nil, List.length_map, List.length_set, ne_eq, not_true_eq_false, not_false_eq_true, Nat.succ_ne_zero]; omega)) only [go_sem, reduceIte, reduceCtorEq, Nat.succ_ne_zero, not_false_eq_true, decide_true, decide_false, Nat.reduceAdd, Nat.reduceMul, Nat.reduceEqDiff, Nat.reduceLeDiff]
    refine ACalls.use_eq (sort_none G' o 0) ?_
    simp -implicitDefEqProofs (maxSteps := 2000000) (disch := first | omega | (simp only [nx_new, nx_set, List.length_cons, List.length_nil, List.length_map, List.length_set, ne_eq, not_true_eq_false, not_false_eq_true, Nat.succ_ne_zero]; done) | (simp only [nx_new, nx_set, List.length_cons, List.length_nil, List.length_map, List.length_set, ne_eq, not_true_eq_false, not_false_eq_true, Nat.succ_ne_zero]; omega)) only [go_sem, reduceIte, reduceCtorEq, Nat.succ_ne_zero, not_false_eq_true, decide_true, decide_false, Nat.reduceAdd, Nat.reduceMul, Nat.reduceEqDiff, Nat.reduceLeDiff]
    exact ret_r (v := .slice o 0 0) (by rw [ares_tmp ret25]; rfl) ⟨hk, o, [], ⟨List.Pairwise.nil, hmem⟩, by simp, rfl, ho⟩
  rcases ho with ⟨rfl, h⟩ | ⟨p, rfl, h2, h3, h4⟩
  · exfalso
    cases L with
    | nil => exact hL rfl
    | cons x L => exact absurd (congrArg List.length h) (by simp [Pl.cells])
  · have hLok : ∀ p, p ∈ L → okP p.t p.c p.f = true := fun p hp => hok p ((hmem p).1 hp)
    obtain ⟨A, hA⟩ : ∃ A : List OkPl, A.map Subtype.val = L := ⟨L.attachWith _ hLok, List.attachWith_map_subtype_val _⟩
    subst hA
    have e : ∀ A : List OkPl, ((A.map Subtype.val).map Pl.cells).flatten = (A.map plo).flatten := fun A => by rw [List.map_map]; rfl
    rw [e] at h4
    rw [List.length_map] at hL hln ⊢
    simp -implicitDefEqProofs (maxSteps := 2000000) (disch := first | omega | (simp only [nx_new, nx_set, List.length_cons, List.length_nil, List.length_map, List.length_set, ne_eq, not_true_eq_false, not_false_eq_true, Nat.succ_ne_zero]; done) | (simp only [nx_new, nx_set, List.length_cons, List.length_nil, List.length_map, List.length_set, ne_eq, not_true_eq_false, not_false_eq_true, Nat.succ_ne_zero]; omega)) only [go_sem, reduceIte, reduceCtorEq, Nat.succ_ne_zero, not_false_eq_true, decide_true, decide_false, Nat.reduceAdd, Nat.reduceMul, Nat.reduceEqDiff, Nat.reduceLeDiff]
    refine (sort_ok h4 hL (by omega)).mono ?_
    rintro _ _ ⟨rfl, A', hp', hpw, rfl⟩
    simp -implicitDefEqProofs (maxSteps := 2000000) (disch := first | omega | (simp only [nx_new, nx_set, List.length_cons, List.length_nil, List.length_map, List.length_set, ne_eq, not_true_eq_false, not_false_eq_true, Nat.succ_ne_zero]; done) | (simp only [nx_new, nx_set, List.length_cons, List.length_nil, List.length_map, List.length_set, ne_eq, not_true_eq_false, not_false_eq_true, Nat.succ_ne_zero]; omega)) only [go_sem, reduceIte, reduceCtorEq, Nat.succ_ne_zero, not_false_eq_true, decide_true, decide_false, Nat.reduceAdd, Nat.reduceMul, Nat.reduceEqDiff, Nat.reduceLeDiff]
    have hlen := hp'.length_eq
    refine ret_r (v := .slice (some ⟨p, 0, none⟩) A.length A.length) (by rw [ares_tmp ret25]; rfl) ⟨⟨by rw [Hp.next_set]; exact hk.next, fun b hb => by rw [Hp.get_set_ne _ _ _ _ (by omega)]; exact hk.get b hb, fun x y hx => by rw [Hp.ob_set]; exact hk.mp x y hx⟩, some ⟨p, 0, none⟩, A'.map Subtype.val, ⟨?_, fun p => ?_⟩, ?_, ?_, .inr ⟨p, rfl, h2, by rw [Hp.next_set]; exact h3, ?_⟩⟩
    · have hnd' : (A'.map Subtype.val).Nodup := (hp'.map Subtype.val).nodup_iff.2 hnd
      have : A'.Pairwise (fun x y => x.1.lt y.1) := by
        have hnd2 : A'.Pairwise (fun x y => x.1 ≠ y.1) := List.pairwise_map.1 hnd'
        refine (hpw.and hnd2).imp fun {x y} h => ?_
        have h1 := ltOf_false.1 h.1
        have h2 := h.2
        obtain ⟨⟨a, b, c⟩, _⟩ := x
        obtain ⟨⟨d, f, g⟩, _⟩ := y
        simp only [Pl.lt, ne_eq, Pl.mk.injEq] at *
        omega
      exact List.pairwise_map.2 this
    · rw [← hmem]
      exact (hp'.map Subtype.val).mem_iff
    · rw [List.length_map]; omega
    · rw [List.length_map, hlen]
    · rw [e]; exact Hp.get_set_same _ _ _ _ rfl
end Go.Proofs.Ytjdmndklnfhmjaa
