/- Functions of defect: in, Valid, mask, Mask. -/
import Derived.Test.YtalijeodmmlfjaaFacts
set_option linter.unusedVariables false
set_option linter.unusedSimpArgs false
set_option linter.unusedSectionVars false
namespace Go.Proofs.Ytalijeodmmlfjaa
open Go.Abs
set_option maxHeartbeats 8000000
set_option maxRecDepth 100000

def inB (most : Int) (l : List Int) : Bool := l.all fun n => decide (0 ≤ n) && decide (n ≤ most)
theorem inB_false {most : Int} {l : List Int} {k : Nat} (hk : k < l.length) (h : l[k] < 0 ∨ most < l[k]) : inB most l = false := by
  simp only [inB, List.all_eq_false]
  exact ⟨l[k], List.getElem_mem hk, by simp; omega⟩
theorem inB_take {most : Int} {l : List Int} {k : Nat} (hk : k < l.length) (h : inB most (l.take k) = true) (h0 : ¬l[k] < 0) (h1 : ¬most < l[k]) : inB most (l.take (k + 1)) = true := by
  simp only [inB] at h ⊢
  rw [List.take_succ_eq_append_getElem hk, List.all_append, h]
  simp; omega

theorem ret19 : Try.f19.results = #[.tmp 4] := rfl
theorem n19 : Try.f19.ntmps = 21 := rfl

theorem in_spec (H : Hp) (most : Int) (a : Option Addr) (l : List Int) (hl : l.length ≤ 9223372036854775806) (he : Elems H a 1 (l.map fun n => [.int .i64 n])) :
    ACalls Try.prog 19 [.int .i64 most, .slice a l.length l.length] H (fun v H' => v = .bool (inB most l) ∧ H' = H) := by
  refine ACalls_enter Try.func19 (by kernel_rfl) rfl (by kernel_rfl) (by simp [n19]) fun hw hr => AWP_of_awp ?_
  simp -implicitDefEqProofs (maxSteps := 2000000) (disch := first | omega | (simp only [nx_new, nx_set, List.length_cons, List.length_nil, List.length_map, List.length_set, ne_eq, not_true_eq_false, not_false_eq_true, Nat.succ_ne_zero]; done) | (simp only [nx_new, nx_set, List.length_cons, List.length_nil, List.length_map, List.length_set, ne_eq, not_true_eq_false, not_false_eq_true, Nat.succ_ne_zero]; omega)) only [go_sem, reduceIte, reduceCtorEq, Nat.succ_ne_zero, not_false_eq_true, decide_true, decide_false, Nat.reduceAdd, Nat.reduceMul, Nat.reduceEqDiff, Nat.reduceLeDiff]
  refine AWP_loop (σ := Nat) (fun k => [(9, .int .i64 k), (8, .int .i64 l.length), (7, .slice a l.length l.length), (0, .int .i64 most)]) (fun _ => H) (fun k => k ≤ l.length ∧ inB most (l.take k) = true) (fun k => l.length - k) 0 ⟨Nat.zero_le _, rfl⟩ (Weak.sub ?_) ?_
  · simp -implicitDefEqProofs (disch := omega) only [Abs.Sub, get_cons_eq, get_cons_ne, and_self, Int.natCast_zero, Int.natCast_add, Int.natCast_one]
  · rintro k ⟨hk, hin⟩
    refine AWP_of_awp ?_
    by_cases hlt : k < l.length
    · obtain ⟨b, o, rfl, hb, hload⟩ := he k (by simpa using hlt)
      simp only [Nat.mul_one, List.getElem_map] at hload
      simp -implicitDefEqProofs (maxSteps := 2000000) (disch := first | omega | (simp only [nx_new, nx_set, List.length_cons, List.length_nil, List.length_map, List.length_set, ne_eq, not_true_eq_false, not_false_eq_true, Nat.succ_ne_zero]; done) | (simp only [nx_new, nx_set, List.length_cons, List.length_nil, List.length_map, List.length_set, ne_eq, not_true_eq_false, not_false_eq_true, Nat.succ_ne_zero]; omega)) only [go_sem, reduceIte, reduceCtorEq, Nat.succ_ne_zero, not_false_eq_true, decide_true, decide_false, Nat.reduceAdd, Nat.reduceMul, Nat.reduceEqDiff, Nat.reduceLeDiff, load1, hload]
      refine guardS_split (fun hc => ?_) (fun hc => ?_)
      · have hp := hc
        simp only [decide_eq_true_eq, decide_eq_false_iff_not, beq_iff_eq, beq_eq_false_iff_ne, bne_iff_ne, ne_eq] at hp
        simp -implicitDefEqProofs (maxSteps := 2000000) (disch := first | omega | (simp only [nx_new, nx_set, List.length_cons, List.length_nil, List.length_map, List.length_set, ne_eq, not_true_eq_false, not_false_eq_true, Nat.succ_ne_zero]; done) | (simp only [nx_new, nx_set, List.length_cons, List.length_nil, List.length_map, List.length_set, ne_eq, not_true_eq_false, not_false_eq_true, Nat.succ_ne_zero]; omega)) only [go_sem, reduceIte, reduceCtorEq, Nat.succ_ne_zero, not_false_eq_true, decide_true, decide_false, Nat.reduceAdd, Nat.reduceMul, Nat.reduceEqDiff, Nat.reduceLeDiff, hc]
        exact ret_r (v := .bool false) (by rw [ares_tmp ret19]; rfl) ⟨by rw [inB_false hlt (.inl hp)], rfl⟩
      · have hp := hc
        simp only [decide_eq_true_eq, decide_eq_false_iff_not, beq_iff_eq, beq_eq_false_iff_ne, bne_iff_ne, ne_eq] at hp
        simp -implicitDefEqProofs (maxSteps := 2000000) (disch := first | omega | (simp only [nx_new, nx_set, List.length_cons, List.length_nil, List.length_map, List.length_set, ne_eq, not_true_eq_false, not_false_eq_true, Nat.succ_ne_zero]; done) | (simp only [nx_new, nx_set, List.length_cons, List.length_nil, List.length_map, List.length_set, ne_eq, not_true_eq_false, not_false_eq_true, Nat.succ_ne_zero]; omega)) only [go_sem, reduceIte, reduceCtorEq, Nat.succ_ne_zero, not_false_eq_true, decide_true, decide_false, Nat.reduceAdd, Nat.reduceMul, Nat.reduceEqDiff, Nat.reduceLeDiff, hc]
        refine condS_split (fun hd => ?_) (fun hd => ?_)
        · have hp2 := of_decide_eq_true hd
          simp -implicitDefEqProofs (maxSteps := 2000000) (disch := first | omega | (simp only [nx_new, nx_set, List.length_cons, List.length_nil, List.length_map, List.length_set, ne_eq, not_true_eq_false, not_false_eq_true, Nat.succ_ne_zero]; done) | (simp only [nx_new, nx_set, List.length_cons, List.length_nil, List.length_map, List.length_set, ne_eq, not_true_eq_false, not_false_eq_true, Nat.succ_ne_zero]; omega)) only [go_sem, reduceIte, reduceCtorEq, Nat.succ_ne_zero, not_false_eq_true, decide_true, decide_false, Nat.reduceAdd, Nat.reduceMul, Nat.reduceEqDiff, Nat.reduceLeDiff, hd]
          exact ret_r (v := .bool false) (by rw [ares_tmp ret19]; rfl) ⟨by rw [inB_false hlt (.inr hp2)], rfl⟩
        · have hp2 := of_decide_eq_false hd
          simp -implicitDefEqProofs (maxSteps := 2000000) (disch := first | omega | (simp only [nx_new, nx_set, List.length_cons, List.length_nil, List.length_map, List.length_set, ne_eq, not_true_eq_false, not_false_eq_true, Nat.succ_ne_zero]; done) | (simp only [nx_new, nx_set, List.length_cons, List.length_nil, List.length_map, List.length_set, ne_eq, not_true_eq_false, not_false_eq_true, Nat.succ_ne_zero]; omega)) only [go_sem, reduceIte, reduceCtorEq, Nat.succ_ne_zero, not_false_eq_true, decide_true, decide_false, Nat.reduceAdd, Nat.reduceMul, Nat.reduceEqDiff, Nat.reduceLeDiff, hd]
          refine ⟨k + 1, ⟨hlt, inB_take hlt hin hp hp2⟩, by omega, Weak.sub ?_⟩
          simp -implicitDefEqProofs (disch := omega) only [Abs.Sub, get_cons_eq, get_cons_ne, and_self, Int.natCast_zero, Int.natCast_add, Int.natCast_one]
    · simp -implicitDefEqProofs (maxSteps := 2000000) (disch := first | omega | (simp only [nx_new, nx_set, List.length_cons, List.length_nil, List.length_map, List.length_set, ne_eq, not_true_eq_false, not_false_eq_true, Nat.succ_ne_zero]; done) | (simp only [nx_new, nx_set, List.length_cons, List.length_nil, List.length_map, List.length_set, ne_eq, not_true_eq_false, not_false_eq_true, Nat.succ_ne_zero]; omega)) only [go_sem, reduceIte, reduceCtorEq, Nat.succ_ne_zero, not_false_eq_true, decide_true, decide_false, Nat.reduceAdd, Nat.reduceMul, Nat.reduceEqDiff, Nat.reduceLeDiff]
      have e : l.take k = l := List.take_of_length_le (by omega)
      rw [e] at hin
      exact ret_r (v := .bool true) (by rw [ares_tmp ret19]; rfl) ⟨by rw [hin], rfl⟩

theorem in1 {G : Hp} {most x : Int} {b : Nat} (hb : b = G.next) :
    ACalls Try.prog 19 [.int .i64 most, .slice (some ⟨b, 0, none⟩) 1 1] (G.new (.row [.int .i64 x] true 1)) (fun v H' => v = .bool (inB most [x]) ∧ H' = G.new (.row [.int .i64 x] true 1)) := by
  subst hb
  exact in_spec _ most _ [x] (by simp) (Elems.one (Value.int .i64) [x] (Nat.lt_succ_self _) (Hp.get_new_same _ _ _ rfl))
theorem in2 {G : Hp} {most x y : Int} {b : Nat} (hb : b = G.next) :
    ACalls Try.prog 19 [.int .i64 most, .slice (some ⟨b, 0, none⟩) 2 2] (G.new (.row [.int .i64 x, .int .i64 y] true 1)) (fun v H' => v = .bool (inB most [x, y]) ∧ H' = G.new (.row [.int .i64 x, .int .i64 y] true 1)) := by
  subst hb
  exact in_spec _ most _ [x, y] (by simp) (Elems.one (Value.int .i64) [x, y] (Nat.lt_succ_self _) (Hp.get_new_same _ _ _ rfl))
theorem in3 {G : Hp} {most x y z : Int} {b : Nat} (hb : b = G.next) :
    ACalls Try.prog 19 [.int .i64 most, .slice (some ⟨b, 0, none⟩) 3 3] (G.new (.row [.int .i64 x, .int .i64 y, .int .i64 z] true 1)) (fun v H' => v = .bool (inB most [x, y, z]) ∧ H' = G.new (.row [.int .i64 x, .int .i64 y, .int .i64 z] true 1)) := by
  subst hb
  exact in_spec _ most _ [x, y, z] (by simp) (Elems.one (Value.int .i64) [x, y, z] (Nat.lt_succ_self _) (Hp.get_new_same _ _ _ rfl))

/-! ### Valid -/
structure D where
  tel : Int
  cell : Int
  frm : Int
  til : Int
  known : Int
def D.cells (d : D) : List Value := [.int .i64 d.tel, .int .i64 d.cell, .int .i64 d.frm, .int .i64 d.til, .int .i64 d.known]
def D.ok (d : D) : Bool := inB 5 [d.tel] && inB 3 [d.cell] && inB 38399 [d.frm, d.til, d.known] && decide (d.frm ≤ d.til)
def validB (l : List D) : Bool := l.all D.ok && decide (l.length ≤ 200)

theorem ret15 : Try.f15.results = #[.tmp 2] := rfl
theorem n15 : Try.f15.ntmps = 45 := rfl
theorem mo : Try.prog.follows .mixedOrders = true := by kernel_rfl

theorem valid_spec (H : Hp) (a : Option Addr) (l : List D) (hl : l.length ≤ 9223372036854775806) (he : Elems H a 5 (l.map D.cells)) :
    ACalls Try.prog 15 [.slice a l.length l.length] H (fun v H' => v = .bool (validB l) ∧ H' = H) := by
  refine ACalls_enter Try.func15 (by kernel_rfl) rfl (by kernel_rfl) (by simp [n15]) fun hw hr => AWP_of_awp ?_
  simp -implicitDefEqProofs (maxSteps := 2000000) (disch := first | omega | (simp only [nx_new, nx_set, List.length_cons, List.length_nil, List.length_map, List.length_set, ne_eq, not_true_eq_false, not_false_eq_true, Nat.succ_ne_zero]; done) | (simp only [nx_new, nx_set, List.length_cons, List.length_nil, List.length_map, List.length_set, ne_eq, not_true_eq_false, not_false_eq_true, Nat.succ_ne_zero]; omega)) only [go_sem, reduceIte, reduceCtorEq, Nat.succ_ne_zero, not_false_eq_true, decide_true, decide_false, Nat.reduceAdd, Nat.reduceMul, Nat.reduceEqDiff, Nat.reduceLeDiff]
  refine AWP_loop (σ := Nat) (fun k => [(7, .int .i64 k), (6, .int .i64 l.length), (5, .slice a l.length l.length), (0, .slice a l.length l.length)]) (fun _ => H) (fun k => k ≤ l.length ∧ (l.take k).all D.ok = true) (fun k => l.length - k) 0 ⟨Nat.zero_le _, rfl⟩ (Weak.sub ?_) ?_
  · simp -implicitDefEqProofs (disch := omega) only [Abs.Sub, get_cons_eq, get_cons_ne, and_self, Int.natCast_zero, Int.natCast_add, Int.natCast_one]
  · rintro k ⟨hk, hin⟩
    refine AWP_of_awp ?_
    by_cases hlt : k < l.length
    · obtain ⟨b, o, rfl, hb, hload⟩ := he k (by simpa using hlt)
      simp only [List.getElem_map, D.cells] at hload
      generalize hd : l[k] = d at hload
      have fin : d.ok = false → validB l = false := fun h => by
        simp only [validB, Bool.and_eq_false_iff]
        left
        rw [List.all_eq_false]
        exact ⟨d, hd ▸ List.getElem_mem hlt, by simp [h]⟩
      simp -implicitDefEqProofs (maxSteps := 2000000) (disch := first | omega | (simp only [nx_new, nx_set, List.length_cons, List.length_nil, List.length_map, List.length_set, ne_eq, not_true_eq_false, not_false_eq_true, Nat.succ_ne_zero]; done) | (simp only [nx_new, nx_set, List.length_cons, List.length_nil, List.length_map, List.length_set, ne_eq, not_true_eq_false, not_false_eq_true, Nat.succ_ne_zero]; omega)) only [go_sem, reduceIte, reduceCtorEq, Nat.succ_ne_zero, not_false_eq_true, decide_true, decide_false, Nat.reduceAdd, Nat.reduceMul, Nat.reduceEqDiff, Nat.reduceLeDiff, hload]
      refine ACalls.use_eq (in1 (by first | rfl | omega)) ?_
      simp -implicitDefEqProofs (maxSteps := 2000000) (disch := first | omega | (simp only [nx_new, nx_set, List.length_cons, List.length_nil, List.length_map, List.length_set, ne_eq, not_true_eq_false, not_false_eq_true, Nat.succ_ne_zero]; done) | (simp only [nx_new, nx_set, List.length_cons, List.length_nil, List.length_map, List.length_set, ne_eq, not_true_eq_false, not_false_eq_true, Nat.succ_ne_zero]; omega)) only [go_sem, reduceIte, reduceCtorEq, Nat.succ_ne_zero, not_false_eq_true, decide_true, decide_false, Nat.reduceAdd, Nat.reduceMul, Nat.reduceEqDiff, Nat.reduceLeDiff]
      refine guardS_split (fun hc => ?_) (fun hc => ?_)
      · simp -implicitDefEqProofs (maxSteps := 2000000) (disch := first | omega | (simp only [nx_new, nx_set, List.length_cons, List.length_nil, List.length_map, List.length_set, ne_eq, not_true_eq_false, not_false_eq_true, Nat.succ_ne_zero]; done) | (simp only [nx_new, nx_set, List.length_cons, List.length_nil, List.length_map, List.length_set, ne_eq, not_true_eq_false, not_false_eq_true, Nat.succ_ne_zero]; omega)) only [go_sem, reduceIte, reduceCtorEq, Nat.succ_ne_zero, not_false_eq_true, decide_true, decide_false, Nat.reduceAdd, Nat.reduceMul, Nat.reduceEqDiff, Nat.reduceLeDiff, hc]
        refine ret_same (G := H) (v := .bool false) .ret (.inr rfl) hw (Nat.le_refl _) (by rw [ares_tmp ret15]; rfl) rfl (fun b hb => by simp -implicitDefEqProofs (maxSteps := 2000000) (disch := first | omega | (simp only [nx_new, nx_set, List.length_cons, List.length_nil, List.length_map, List.length_set, ne_eq, not_true_eq_false, not_false_eq_true, Nat.succ_ne_zero]; done) | (simp only [nx_new, nx_set, List.length_cons, List.length_nil, List.length_map, List.length_set, ne_eq, not_true_eq_false, not_false_eq_true, Nat.succ_ne_zero]; omega)) only [go_sem, reduceIte, reduceCtorEq, Nat.succ_ne_zero, not_false_eq_true, decide_true, decide_false, Nat.reduceAdd, Nat.reduceMul, Nat.reduceEqDiff, Nat.reduceLeDiff]) ⟨by rw [fin (by simp only [Bool.not_eq_true'] at hc; simp [D.ok, hc])], rfl⟩
      · simp -implicitDefEqProofs (maxSteps := 2000000) (disch := first | omega | (simp only [nx_new, nx_set, List.length_cons, List.length_nil, List.length_map, List.length_set, ne_eq, not_true_eq_false, not_false_eq_true, Nat.succ_ne_zero]; done) | (simp only [nx_new, nx_set, List.length_cons, List.length_nil, List.length_map, List.length_set, ne_eq, not_true_eq_false, not_false_eq_true, Nat.succ_ne_zero]; omega)) only [go_sem, reduceIte, reduceCtorEq, Nat.succ_ne_zero, not_false_eq_true, decide_true, decide_false, Nat.reduceAdd, Nat.reduceMul, Nat.reduceEqDiff, Nat.reduceLeDiff, hc]
        refine ACalls.use_eq (in1 (by first | rfl | omega)) ?_
        simp -implicitDefEqProofs (maxSteps := 2000000) (disch := first | omega | (simp only [nx_new, nx_set, List.length_cons, List.length_nil, List.length_map, List.length_set, ne_eq, not_true_eq_false, not_false_eq_true, Nat.succ_ne_zero]; done) | (simp only [nx_new, nx_set, List.length_cons, List.length_nil, List.length_map, List.length_set, ne_eq, not_true_eq_false, not_false_eq_true, Nat.succ_ne_zero]; omega)) only [go_sem, reduceIte, reduceCtorEq, Nat.succ_ne_zero, not_false_eq_true, decide_true, decide_false, Nat.reduceAdd, Nat.reduceMul, Nat.reduceEqDiff, Nat.reduceLeDiff]
        refine guardS_split (fun hc2 => ?_) (fun hc2 => ?_)
        · simp -implicitDefEqProofs (maxSteps := 2000000) (disch := first | omega | (simp only [nx_new, nx_set, List.length_cons, List.length_nil, List.length_map, List.length_set, ne_eq, not_true_eq_false, not_false_eq_true, Nat.succ_ne_zero]; done) | (simp only [nx_new, nx_set, List.length_cons, List.length_nil, List.length_map, List.length_set, ne_eq, not_true_eq_false, not_false_eq_true, Nat.succ_ne_zero]; omega)) only [go_sem, reduceIte, reduceCtorEq, Nat.succ_ne_zero, not_false_eq_true, decide_true, decide_false, Nat.reduceAdd, Nat.reduceMul, Nat.reduceEqDiff, Nat.reduceLeDiff, hc2]
          refine ret_same (G := H) (v := .bool false) .ret (.inr rfl) hw (Nat.le_refl _) (by rw [ares_tmp ret15]; rfl) rfl (fun b hb => by simp -implicitDefEqProofs (maxSteps := 2000000) (disch := first | omega | (simp only [nx_new, nx_set, List.length_cons, List.length_nil, List.length_map, List.length_set, ne_eq, not_true_eq_false, not_false_eq_true, Nat.succ_ne_zero]; done) | (simp only [nx_new, nx_set, List.length_cons, List.length_nil, List.length_map, List.length_set, ne_eq, not_true_eq_false, not_false_eq_true, Nat.succ_ne_zero]; omega)) only [go_sem, reduceIte, reduceCtorEq, Nat.succ_ne_zero, not_false_eq_true, decide_true, decide_false, Nat.reduceAdd, Nat.reduceMul, Nat.reduceEqDiff, Nat.reduceLeDiff]) ⟨by rw [fin (by simp only [Bool.not_eq_true'] at hc2; simp [D.ok, hc2])], rfl⟩
        · simp -implicitDefEqProofs (maxSteps := 2000000) (disch := first | omega | (simp only [nx_new, nx_set, List.length_cons, List.length_nil, List.length_map, List.length_set, ne_eq, not_true_eq_false, not_false_eq_true, Nat.succ_ne_zero]; done) | (simp only [nx_new, nx_set, List.length_cons, List.length_nil, List.length_map, List.length_set, ne_eq, not_true_eq_false, not_false_eq_true, Nat.succ_ne_zero]; omega)) only [go_sem, reduceIte, reduceCtorEq, Nat.succ_ne_zero, not_false_eq_true, decide_true, decide_false, Nat.reduceAdd, Nat.reduceMul, Nat.reduceEqDiff, Nat.reduceLeDiff, hc2]
          refine ACalls.use_eq (in3 (by first | rfl | omega)) ?_
          simp -implicitDefEqProofs (maxSteps := 2000000) (disch := first | omega | (simp only [nx_new, nx_set, List.length_cons, List.length_nil, List.length_map, List.length_set, ne_eq, not_true_eq_false, not_false_eq_true, Nat.succ_ne_zero]; done) | (simp only [nx_new, nx_set, List.length_cons, List.length_nil, List.length_map, List.length_set, ne_eq, not_true_eq_false, not_false_eq_true, Nat.succ_ne_zero]; omega)) only [go_sem, reduceIte, reduceCtorEq, Nat.succ_ne_zero, not_false_eq_true, decide_true, decide_false, Nat.reduceAdd, Nat.reduceMul, Nat.reduceEqDiff, Nat.reduceLeDiff]
          refine guardS_split (fun hc3 => ?_) (fun hc3 => ?_)
          · simp -implicitDefEqProofs (maxSteps := 2000000) (disch := first | omega | (simp only [nx_new, nx_set, List.length_cons, List.length_nil, List.length_map, List.length_set, ne_eq, not_true_eq_false, not_false_eq_true, Nat.succ_ne_zero]; done) | (simp only [nx_new, nx_set, List.length_cons, List.length_nil, List.length_map, List.length_set, ne_eq, not_true_eq_false, not_false_eq_true, Nat.succ_ne_zero]; omega)) only [go_sem, reduceIte, reduceCtorEq, Nat.succ_ne_zero, not_false_eq_true, decide_true, decide_false, Nat.reduceAdd, Nat.reduceMul, Nat.reduceEqDiff, Nat.reduceLeDiff, hc3]
            refine ret_same (G := H) (v := .bool false) .ret (.inr rfl) hw (Nat.le_refl _) (by rw [ares_tmp ret15]; rfl) rfl (fun b hb => by simp -implicitDefEqProofs (maxSteps := 2000000) (disch := first | omega | (simp only [nx_new, nx_set, List.length_cons, List.length_nil, List.length_map, List.length_set, ne_eq, not_true_eq_false, not_false_eq_true, Nat.succ_ne_zero]; done) | (simp only [nx_new, nx_set, List.length_cons, List.length_nil, List.length_map, List.length_set, ne_eq, not_true_eq_false, not_false_eq_true, Nat.succ_ne_zero]; omega)) only [go_sem, reduceIte, reduceCtorEq, Nat.succ_ne_zero, not_false_eq_true, decide_true, decide_false, Nat.reduceAdd, Nat.reduceMul, Nat.reduceEqDiff, Nat.reduceLeDiff]) ⟨by rw [fin (by simp only [Bool.not_eq_true'] at hc3; simp [D.ok, hc3])], rfl⟩
          · simp -implicitDefEqProofs (maxSteps := 2000000) (disch := first | omega | (simp only [nx_new, nx_set, List.length_cons, List.length_nil, List.length_map, List.length_set, ne_eq, not_true_eq_false, not_false_eq_true, Nat.succ_ne_zero]; done) | (simp only [nx_new, nx_set, List.length_cons, List.length_nil, List.length_map, List.length_set, ne_eq, not_true_eq_false, not_false_eq_true, Nat.succ_ne_zero]; omega)) only [go_sem, reduceIte, reduceCtorEq, Nat.succ_ne_zero, not_false_eq_true, decide_true, decide_false, Nat.reduceAdd, Nat.reduceMul, Nat.reduceEqDiff, Nat.reduceLeDiff, hc3]
            refine condS_split (fun hc4 => ?_) (fun hc4 => ?_)
            · have hp := of_decide_eq_true hc4
              simp -implicitDefEqProofs (maxSteps := 2000000) (disch := first | omega | (simp only [nx_new, nx_set, List.length_cons, List.length_nil, List.length_map, List.length_set, ne_eq, not_true_eq_false, not_false_eq_true, Nat.succ_ne_zero]; done) | (simp only [nx_new, nx_set, List.length_cons, List.length_nil, List.length_map, List.length_set, ne_eq, not_true_eq_false, not_false_eq_true, Nat.succ_ne_zero]; omega)) only [go_sem, reduceIte, reduceCtorEq, Nat.succ_ne_zero, not_false_eq_true, decide_true, decide_false, Nat.reduceAdd, Nat.reduceMul, Nat.reduceEqDiff, Nat.reduceLeDiff, hc4]
              refine ret_same (G := H) (v := .bool false) .ret (.inr rfl) hw (Nat.le_refl _) (by rw [ares_tmp ret15]; rfl) rfl (fun b hb => by simp -implicitDefEqProofs (maxSteps := 2000000) (disch := first | omega | (simp only [nx_new, nx_set, List.length_cons, List.length_nil, List.length_map, List.length_set, ne_eq, not_true_eq_false, not_false_eq_true, Nat.succ_ne_zero]; done) | (simp only [nx_new, nx_set, List.length_cons, List.length_nil, List.length_map, List.length_set, ne_eq, not_true_eq_false, not_false_eq_true, Nat.succ_ne_zero]; omega)) only [go_sem, reduceIte, reduceCtorEq, Nat.succ_ne_zero, not_false_eq_true, decide_true, decide_false, Nat.reduceAdd, Nat.reduceMul, Nat.reduceEqDiff, Nat.reduceLeDiff]) ⟨by rw [fin (by simp [D.ok]; omega)], rfl⟩
            · have hp := of_decide_eq_false hc4
              simp -implicitDefEqProofs (maxSteps := 2000000) (disch := first | omega | (simp only [nx_new, nx_set, List.length_cons, List.length_nil, List.length_map, List.length_set, ne_eq, not_true_eq_false, not_false_eq_true, Nat.succ_ne_zero]; done) | (simp only [nx_new, nx_set, List.length_cons, List.length_nil, List.length_map, List.length_set, ne_eq, not_true_eq_false, not_false_eq_true, Nat.succ_ne_zero]; omega)) only [go_sem, reduceIte, reduceCtorEq, Nat.succ_ne_zero, not_false_eq_true, decide_true, decide_false, Nat.reduceAdd, Nat.reduceMul, Nat.reduceEqDiff, Nat.reduceLeDiff, hc4]
              refine ⟨k + 1, ⟨hlt, ?_⟩, by omega, Weak.drop hw (Nat.le_refl _) (fun b hb => by simp -implicitDefEqProofs (maxSteps := 2000000) (disch := first | omega | (simp only [nx_new, nx_set, List.length_cons, List.length_nil, List.length_map, List.length_set, ne_eq, not_true_eq_false, not_false_eq_true, Nat.succ_ne_zero]; done) | (simp only [nx_new, nx_set, List.length_cons, List.length_nil, List.length_map, List.length_set, ne_eq, not_true_eq_false, not_false_eq_true, Nat.succ_ne_zero]; omega)) only [go_sem, reduceIte, reduceCtorEq, Nat.succ_ne_zero, not_false_eq_true, decide_true, decide_false, Nat.reduceAdd, Nat.reduceMul, Nat.reduceEqDiff, Nat.reduceLeDiff]) (by simp only [List.all_cons, List.all_nil, refs_int, refs_bool, refs_string, refs_slice, refs_pointer, refs_slice0, refs_pointer0, refs_agg, refs_tuple, refs_func, refsL_nil, refsL_cons, Bool.and_true, Bool.true_and, Bool.and_self, Bool.and_eq_true, decide_eq_true_eq, Hp.next_new, Hp.next_set] <;> omega) ?_⟩
              · simp only [Bool.not_eq_false'] at hc hc2 hc3
                rw [List.take_succ_eq_append_getElem hlt, List.all_append, hin, hd]
                simp [D.ok, hc, hc2, hc3]
                omega
              · simp -implicitDefEqProofs (disch := omega) only [Abs.Sub, get_cons_eq, get_cons_ne, and_self, Int.natCast_zero, Int.natCast_add, Int.natCast_one]
    · simp -implicitDefEqProofs (maxSteps := 2000000) (disch := first | omega | (simp only [nx_new, nx_set, List.length_cons, List.length_nil, List.length_map, List.length_set, ne_eq, not_true_eq_false, not_false_eq_true, Nat.succ_ne_zero]; done) | (simp only [nx_new, nx_set, List.length_cons, List.length_nil, List.length_map, List.length_set, ne_eq, not_true_eq_false, not_false_eq_true, Nat.succ_ne_zero]; omega)) only [go_sem, reduceIte, reduceCtorEq, Nat.succ_ne_zero, not_false_eq_true, decide_true, decide_false, Nat.reduceAdd, Nat.reduceMul, Nat.reduceEqDiff, Nat.reduceLeDiff]
      have e : l.take k = l := List.take_of_length_le (by omega)
      rw [e] at hin
      exact ret_r (v := .bool (decide ((l.length : Int) ≤ 200))) (by rw [ares_tmp ret15]; rfl) ⟨by simp [validB, hin]; omega, rfl⟩

/-! ### mask -/
def D.force (tel valid known : Int) (d : D) : Bool := d.tel == tel && inB (d.til - d.frm) [valid - d.frm] && decide (d.known ≤ known)
def markB (tel valid known : Int) (m : List Bool) (d : D) : List Bool := if d.force tel valid known then m.set d.cell.toNat true else m
def maskB (l : List D) (tel valid known : Int) : List Bool := l.foldl (markB tel valid known) [false, false, false, false]
theorem markB_length (tel valid known : Int) (m : List Bool) (d : D) : (markB tel valid known m d).length = m.length := by unfold markB; split <;> simp
theorem maskB_take {l : List D} {k : Nat} (hk : k < l.length) (tel valid known : Int) : maskB (l.take (k + 1)) tel valid known = markB tel valid known (maskB (l.take k) tel valid known) l[k] := by
  rw [List.take_succ_eq_append_getElem hk]; simp only [maskB, List.foldl_append, List.foldl_cons, List.foldl_nil]
theorem maskB_length (l : List D) (tel valid known : Int) : (maskB l tel valid known).length = 4 := by
  have : ∀ (l : List D) (m : List Bool), (l.foldl (markB tel valid known) m).length = m.length := by
    intro l
    induction l with
    | nil => intro m; rfl
    | cons d l ih => intro m; rw [List.foldl_cons, ih, markB_length]
  exact this l _
def vb (m : List Bool) : Value := .agg (m.map Value.bool).toArray

structure D.In (d : D) : Prop where
  cell0 : 0 ≤ d.cell
  cell3 : d.cell ≤ 3
  frm0 : 0 ≤ d.frm
  frm1 : d.frm ≤ 38399
  til0 : 0 ≤ d.til
  til1 : d.til ≤ 38399
  known0 : 0 ≤ d.known
  known1 : d.known ≤ 38399
  le : d.frm ≤ d.til
theorem D.ok_in {d : D} (h : d.ok = true) : d.In := by
  simp only [D.ok, inB, List.all_cons, List.all_nil, Bool.and_true, Bool.and_eq_true, decide_eq_true_eq] at h
  constructor <;> omega

theorem n20 : Try.f20.ntmps = 46 := rfl
theorem ret20 : Try.f20.results = #[.cell 8 26] := rfl

theorem mask_spec (H : Hp) (a : Option Addr) (l : List D) (tel valid known : Int) (hl : l.length ≤ 9223372036854775806) (he : Elems H a 5 (l.map D.cells)) (hok : ∀ d, d ∈ l → d.In) (hv0 : 0 ≤ valid) (hv1 : valid ≤ 38400) :
    ACalls Try.prog 20 [.slice a l.length l.length, .int .i64 tel, .int .i64 valid, .int .i64 known] H (fun v H' => v = vb (maskB l tel valid known) ∧ H' = H) := by
  refine ACalls_enter Try.func20 (by kernel_rfl) rfl (by kernel_rfl) (by simp [n20]) fun hw hr => AWP_of_awp ?_
  simp -implicitDefEqProofs (maxSteps := 2000000) (disch := first | omega | (simp only [nx_new, nx_set, List.length_cons, List.length_nil, List.length_map, List.length_set, ne_eq, not_true_eq_false, not_false_eq_true, Nat.succ_ne_zero]; done) | (simp only [nx_new, nx_set, List.length_cons, List.length_nil, List.length_map, List.length_set, ne_eq, not_true_eq_false, not_false_eq_true, Nat.succ_ne_zero]; omega)) only [go_sem, reduceIte, reduceCtorEq, Nat.succ_ne_zero, not_false_eq_true, decide_true, decide_false, Nat.reduceAdd, Nat.reduceMul, Nat.reduceEqDiff, Nat.reduceLeDiff]
  have hwM : ∀ m : List Bool, WfH ((H.new (.row [.bool false, .bool false, .bool false, .bool false] true 0)).new (.row (m.map Value.bool) true 0)) := fun m =>
    (hw.new (by rintro cs own k h; cases h; rfl)).new (by rintro cs own k h; cases h; exact refsL_map (fun _ => rfl) m)
  refine AWP_loop (σ := Nat) (fun k => [(14, .int .i64 k), (13, .int .i64 l.length), (12, .slice a l.length l.length), (9, .pointer (some ⟨H.next + 1, 0, none⟩)), (8, .pointer (some ⟨H.next, 0, none⟩)), (0, .slice a l.length l.length), (1, .int .i64 tel), (2, .int .i64 valid), (3, .int .i64 known)])
    (fun k => (H.new (.row [.bool false, .bool false, .bool false, .bool false] true 0)).new (.row ((maskB (l.take k) tel valid known).map Value.bool) true 0)) (fun k => k ≤ l.length) (fun k => l.length - k) 0 (Nat.zero_le _) (Weak.sub ?_) ?_
  · simp -implicitDefEqProofs (disch := omega) only [Abs.Sub, get_cons_eq, get_cons_ne, and_self, Int.natCast_zero, Int.natCast_add, Int.natCast_one]
  · rintro k hk
    refine AWP_of_awp ?_
    have hmn := maskB_length (l.take k) tel valid known
    by_cases hlt : k < l.length
    · obtain ⟨b, o, rfl, hb, hload⟩ := he k (by simpa using hlt)
      have hnext := maskB_take hlt tel valid known
      have hin := hok _ (List.getElem_mem hlt)
      have hw1 := hwM (maskB (l.take (k + 1)) tel valid known)
      generalize hm2 : maskB (l.take (k + 1)) tel valid known = m' at *
      simp only [List.getElem_map, D.cells] at hload
      generalize hd : l[k] = d at *
      generalize hm : maskB (l.take k) tel valid known = m at *
      obtain ⟨hi1, hi2, hi3, hi4, hi5, hi6, hi7, hi8, hi9⟩ := hin
      simp -implicitDefEqProofs (maxSteps := 2000000) (disch := first | omega | (simp only [nx_new, nx_set, List.length_cons, List.length_nil, List.length_map, List.length_set, ne_eq, not_true_eq_false, not_false_eq_true, Nat.succ_ne_zero]; done) | (simp only [nx_new, nx_set, List.length_cons, List.length_nil, List.length_map, List.length_set, ne_eq, not_true_eq_false, not_false_eq_true, Nat.succ_ne_zero]; omega)) only [go_sem, reduceIte, reduceCtorEq, Nat.succ_ne_zero, not_false_eq_true, decide_true, decide_false, Nat.reduceAdd, Nat.reduceMul, Nat.reduceEqDiff, Nat.reduceLeDiff, hload]
      refine guardS_split (fun hc => ?_) (fun hc => ?_)
      · simp -implicitDefEqProofs (maxSteps := 2000000) (disch := first | omega | (simp only [nx_new, nx_set, List.length_cons, List.length_nil, List.length_map, List.length_set, ne_eq, not_true_eq_false, not_false_eq_true, Nat.succ_ne_zero]; done) | (simp only [nx_new, nx_set, List.length_cons, List.length_nil, List.length_map, List.length_set, ne_eq, not_true_eq_false, not_false_eq_true, Nat.succ_ne_zero]; omega)) only [go_sem, reduceIte, reduceCtorEq, Nat.succ_ne_zero, not_false_eq_true, decide_true, decide_false, Nat.reduceAdd, Nat.reduceMul, Nat.reduceEqDiff, Nat.reduceLeDiff, hc]
        refine ACalls.use_eq (in1 (by first | rfl | omega)) ?_
        simp -implicitDefEqProofs (maxSteps := 2000000) (disch := first | omega | (simp only [nx_new, nx_set, List.length_cons, List.length_nil, List.length_map, List.length_set, ne_eq, not_true_eq_false, not_false_eq_true, Nat.succ_ne_zero]; done) | (simp only [nx_new, nx_set, List.length_cons, List.length_nil, List.length_map, List.length_set, ne_eq, not_true_eq_false, not_false_eq_true, Nat.succ_ne_zero]; omega)) only [go_sem, reduceIte, reduceCtorEq, Nat.succ_ne_zero, not_false_eq_true, decide_true, decide_false, Nat.reduceAdd, Nat.reduceMul, Nat.reduceEqDiff, Nat.reduceLeDiff]
        refine guardS_split (fun hc2 => ?_) (fun hc2 => ?_)
        · simp -implicitDefEqProofs (maxSteps := 2000000) (disch := first | omega | (simp only [nx_new, nx_set, List.length_cons, List.length_nil, List.length_map, List.length_set, ne_eq, not_true_eq_false, not_false_eq_true, Nat.succ_ne_zero]; done) | (simp only [nx_new, nx_set, List.length_cons, List.length_nil, List.length_map, List.length_set, ne_eq, not_true_eq_false, not_false_eq_true, Nat.succ_ne_zero]; omega)) only [go_sem, reduceIte, reduceCtorEq, Nat.succ_ne_zero, not_false_eq_true, decide_true, decide_false, Nat.reduceAdd, Nat.reduceMul, Nat.reduceEqDiff, Nat.reduceLeDiff, hc2]
          refine condS_split (fun hc3 => ?_) (fun hc3 => ?_)
          · simp -implicitDefEqProofs (maxSteps := 2000000) (disch := first | omega | (simp only [nx_new, nx_set, List.length_cons, List.length_nil, List.length_map, List.length_set, ne_eq, not_true_eq_false, not_false_eq_true, Nat.succ_ne_zero]; done) | (simp only [nx_new, nx_set, List.length_cons, List.length_nil, List.length_map, List.length_set, ne_eq, not_true_eq_false, not_false_eq_true, Nat.succ_ne_zero]; omega)) only [go_sem, reduceIte, reduceCtorEq, Nat.succ_ne_zero, not_false_eq_true, decide_true, decide_false, Nat.reduceAdd, Nat.reduceMul, Nat.reduceEqDiff, Nat.reduceLeDiff, hc3]
            have e : m' = m.set d.cell.toNat true := by rw [hnext]; simp [markB, D.force, hc, hc2, hc3]
            refine ⟨k + 1, hlt, by omega, ?_⟩
            rw [hm2]
            refine Weak.drop hw1 (by simp only [Hp.next_new]; omega) (fun b hb => ?_) (by simp only [List.all_cons, List.all_nil, refs_int, refs_bool, refs_string, refs_slice, refs_pointer, refs_slice0, refs_pointer0, refs_agg, refs_tuple, refs_func, refsL_nil, refsL_cons, Bool.and_true, Bool.true_and, Bool.and_self, Bool.and_eq_true, decide_eq_true_eq, Hp.next_new, Hp.next_set] <;> omega) ?_
            · simp only [Hp.next_new] at hb
              by_cases h1 : b = H.next + 1
              · subst h1; simp -implicitDefEqProofs (maxSteps := 2000000) (disch := first | omega | (simp only [nx_new, nx_set, List.length_cons, List.length_nil, List.length_map, List.length_set, ne_eq, not_true_eq_false, not_false_eq_true, Nat.succ_ne_zero]; done) | (simp only [nx_new, nx_set, List.length_cons, List.length_nil, List.length_map, List.length_set, ne_eq, not_true_eq_false, not_false_eq_true, Nat.succ_ne_zero]; omega)) only [go_sem, reduceIte, reduceCtorEq, Nat.succ_ne_zero, not_false_eq_true, decide_true, decide_false, Nat.reduceAdd, Nat.reduceMul, Nat.reduceEqDiff, Nat.reduceLeDiff, e, List.map_set]
              · by_cases h2 : b = H.next
                · subst h2; simp -implicitDefEqProofs (maxSteps := 2000000) (disch := first | omega | (simp only [nx_new, nx_set, List.length_cons, List.length_nil, List.length_map, List.length_set, ne_eq, not_true_eq_false, not_false_eq_true, Nat.succ_ne_zero]; done) | (simp only [nx_new, nx_set, List.length_cons, List.length_nil, List.length_map, List.length_set, ne_eq, not_true_eq_false, not_false_eq_true, Nat.succ_ne_zero]; omega)) only [go_sem, reduceIte, reduceCtorEq, Nat.succ_ne_zero, not_false_eq_true, decide_true, decide_false, Nat.reduceAdd, Nat.reduceMul, Nat.reduceEqDiff, Nat.reduceLeDiff]
                · simp -implicitDefEqProofs (maxSteps := 2000000) (disch := first | omega | (simp only [nx_new, nx_set, List.length_cons, List.length_nil, List.length_map, List.length_set, ne_eq, not_true_eq_false, not_false_eq_true, Nat.succ_ne_zero]; done) | (simp only [nx_new, nx_set, List.length_cons, List.length_nil, List.length_map, List.length_set, ne_eq, not_true_eq_false, not_false_eq_true, Nat.succ_ne_zero]; omega)) only [go_sem, reduceIte, reduceCtorEq, Nat.succ_ne_zero, not_false_eq_true, decide_true, decide_false, Nat.reduceAdd, Nat.reduceMul, Nat.reduceEqDiff, Nat.reduceLeDiff]
            · simp -implicitDefEqProofs (disch := omega) only [Abs.Sub, get_cons_eq, get_cons_ne, and_self, Int.natCast_zero, Int.natCast_add, Int.natCast_one]
          · simp -implicitDefEqProofs (maxSteps := 2000000) (disch := first | omega | (simp only [nx_new, nx_set, List.length_cons, List.length_nil, List.length_map, List.length_set, ne_eq, not_true_eq_false, not_false_eq_true, Nat.succ_ne_zero]; done) | (simp only [nx_new, nx_set, List.length_cons, List.length_nil, List.length_map, List.length_set, ne_eq, not_true_eq_false, not_false_eq_true, Nat.succ_ne_zero]; omega)) only [go_sem, reduceIte, reduceCtorEq, Nat.succ_ne_zero, not_false_eq_true, decide_true, decide_false, Nat.reduceAdd, Nat.reduceMul, Nat.reduceEqDiff, Nat.reduceLeDiff, hc3]
            have e : m' = m := by rw [hnext]; simp [markB, D.force, hc, hc2, hc3]
            refine ⟨k + 1, hlt, by omega, ?_⟩
            rw [hm2]
            refine Weak.drop hw1 (by simp only [Hp.next_new]; omega) (fun b hb => ?_) (by simp only [List.all_cons, List.all_nil, refs_int, refs_bool, refs_string, refs_slice, refs_pointer, refs_slice0, refs_pointer0, refs_agg, refs_tuple, refs_func, refsL_nil, refsL_cons, Bool.and_true, Bool.true_and, Bool.and_self, Bool.and_eq_true, decide_eq_true_eq, Hp.next_new, Hp.next_set] <;> omega) ?_
            · simp only [Hp.next_new] at hb
              by_cases h1 : b = H.next + 1
              · subst h1; simp -implicitDefEqProofs (maxSteps := 2000000) (disch := first | omega | (simp only [nx_new, nx_set, List.length_cons, List.length_nil, List.length_map, List.length_set, ne_eq, not_true_eq_false, not_false_eq_true, Nat.succ_ne_zero]; done) | (simp only [nx_new, nx_set, List.length_cons, List.length_nil, List.length_map, List.length_set, ne_eq, not_true_eq_false, not_false_eq_true, Nat.succ_ne_zero]; omega)) only [go_sem, reduceIte, reduceCtorEq, Nat.succ_ne_zero, not_false_eq_true, decide_true, decide_false, Nat.reduceAdd, Nat.reduceMul, Nat.reduceEqDiff, Nat.reduceLeDiff, e, List.map_set]
              · by_cases h2 : b = H.next
                · subst h2; simp -implicitDefEqProofs (maxSteps := 2000000) (disch := first | omega | (simp only [nx_new, nx_set, List.length_cons, List.length_nil, List.length_map, List.length_set, ne_eq, not_true_eq_false, not_false_eq_true, Nat.succ_ne_zero]; done) | (simp only [nx_new, nx_set, List.length_cons, List.length_nil, List.length_map, List.length_set, ne_eq, not_true_eq_false, not_false_eq_true, Nat.succ_ne_zero]; omega)) only [go_sem, reduceIte, reduceCtorEq, Nat.succ_ne_zero, not_false_eq_true, decide_true, decide_false, Nat.reduceAdd, Nat.reduceMul, Nat.reduceEqDiff, Nat.reduceLeDiff]
                · simp -implicitDefEqProofs (maxSteps := 2000000) (disch := first | omega | (simp only [nx_new, nx_set, List.length_cons, List.length_nil, List.length_map, List.length_set, ne_eq, not_true_eq_false, not_false_eq_true, Nat.succ_ne_zero]; done) | (simp only [nx_new, nx_set, List.length_cons, List.length_nil, List.length_map, List.length_set, ne_eq, not_true_eq_false, not_false_eq_true, Nat.succ_ne_zero]; omega)) only [go_sem, reduceIte, reduceCtorEq, Nat.succ_ne_zero, not_false_eq_true, decide_true, decide_false, Nat.reduceAdd, Nat.reduceMul, Nat.reduceEqDiff, Nat.reduceLeDiff]
            · simp -implicitDefEqProofs (disch := omega) only [Abs.Sub, get_cons_eq, get_cons_ne, and_self, Int.natCast_zero, Int.natCast_add, Int.natCast_one]
        · simp -implicitDefEqProofs (maxSteps := 2000000) (disch := first | omega | (simp only [nx_new, nx_set, List.length_cons, List.length_nil, List.length_map, List.length_set, ne_eq, not_true_eq_false, not_false_eq_true, Nat.succ_ne_zero]; done) | (simp only [nx_new, nx_set, List.length_cons, List.length_nil, List.length_map, List.length_set, ne_eq, not_true_eq_false, not_false_eq_true, Nat.succ_ne_zero]; omega)) only [go_sem, reduceIte, reduceCtorEq, Nat.succ_ne_zero, not_false_eq_true, decide_true, decide_false, Nat.reduceAdd, Nat.reduceMul, Nat.reduceEqDiff, Nat.reduceLeDiff, hc2]
          have e : m' = m := by rw [hnext]; simp [markB, D.force, hc, hc2]
          refine ⟨k + 1, hlt, by omega, ?_⟩
          rw [hm2]
          refine Weak.drop hw1 (by simp only [Hp.next_new]; omega) (fun b hb => ?_) (by simp only [List.all_cons, List.all_nil, refs_int, refs_bool, refs_string, refs_slice, refs_pointer, refs_slice0, refs_pointer0, refs_agg, refs_tuple, refs_func, refsL_nil, refsL_cons, Bool.and_true, Bool.true_and, Bool.and_self, Bool.and_eq_true, decide_eq_true_eq, Hp.next_new, Hp.next_set] <;> omega) ?_
          · simp only [Hp.next_new] at hb
            by_cases h1 : b = H.next + 1
            · subst h1; simp -implicitDefEqProofs (maxSteps := 2000000) (disch := first | omega | (simp only [nx_new, nx_set, List.length_cons, List.length_nil, List.length_map, List.length_set, ne_eq, not_true_eq_false, not_false_eq_true, Nat.succ_ne_zero]; done) | (simp only [nx_new, nx_set, List.length_cons, List.length_nil, List.length_map, List.length_set, ne_eq, not_true_eq_false, not_false_eq_true, Nat.succ_ne_zero]; omega)) only [go_sem, reduceIte, reduceCtorEq, Nat.succ_ne_zero, not_false_eq_true, decide_true, decide_false, Nat.reduceAdd, Nat.reduceMul, Nat.reduceEqDiff, Nat.reduceLeDiff, e, List.map_set]
            · by_cases h2 : b = H.next
              · subst h2; simp -implicitDefEqProofs (maxSteps := 2000000) (disch := first | omega | (simp only [nx_new, nx_set, List.length_cons, List.length_nil, List.length_map, List.length_set, ne_eq, not_true_eq_false, not_false_eq_true, Nat.succ_ne_zero]; done) | (simp only [nx_new, nx_set, List.length_cons, List.length_nil, List.length_map, List.length_set, ne_eq, not_true_eq_false, not_false_eq_true, Nat.succ_ne_zero]; omega)) only [go_sem, reduceIte, reduceCtorEq, Nat.succ_ne_zero, not_false_eq_true, decide_true, decide_false, Nat.reduceAdd, Nat.reduceMul, Nat.reduceEqDiff, Nat.reduceLeDiff]
              · simp -implicitDefEqProofs (maxSteps := 2000000) (disch := first | omega | (simp only [nx_new, nx_set, List.length_cons, List.length_nil, List.length_map, List.length_set, ne_eq, not_true_eq_false, not_false_eq_true, Nat.succ_ne_zero]; done) | (simp only [nx_new, nx_set, List.length_cons, List.length_nil, List.length_map, List.length_set, ne_eq, not_true_eq_false, not_false_eq_true, Nat.succ_ne_zero]; omega)) only [go_sem, reduceIte, reduceCtorEq, Nat.succ_ne_zero, not_false_eq_true, decide_true, decide_false, Nat.reduceAdd, Nat.reduceMul, Nat.reduceEqDiff, Nat.reduceLeDiff]
          · simp -implicitDefEqProofs (disch := omega) only [Abs.Sub, get_cons_eq, get_cons_ne, and_self, Int.natCast_zero, Int.natCast_add, Int.natCast_one]
      · simp -implicitDefEqProofs (maxSteps := 2000000) (disch := first | omega | (simp only [nx_new, nx_set, List.length_cons, List.length_nil, List.length_map, List.length_set, ne_eq, not_true_eq_false, not_false_eq_true, Nat.succ_ne_zero]; done) | (simp only [nx_new, nx_set, List.length_cons, List.length_nil, List.length_map, List.length_set, ne_eq, not_true_eq_false, not_false_eq_true, Nat.succ_ne_zero]; omega)) only [go_sem, reduceIte, reduceCtorEq, Nat.succ_ne_zero, not_false_eq_true, decide_true, decide_false, Nat.reduceAdd, Nat.reduceMul, Nat.reduceEqDiff, Nat.reduceLeDiff, hc]
        have e : m' = m := by rw [hnext]; simp [markB, D.force, hc]
        refine ⟨k + 1, hlt, by omega, ?_⟩
        rw [hm2]
        refine Weak.drop hw1 (by simp only [Hp.next_new]; omega) (fun b hb => ?_) (by simp only [List.all_cons, List.all_nil, refs_int, refs_bool, refs_string, refs_slice, refs_pointer, refs_slice0, refs_pointer0, refs_agg, refs_tuple, refs_func, refsL_nil, refsL_cons, Bool.and_true, Bool.true_and, Bool.and_self, Bool.and_eq_true, decide_eq_true_eq, Hp.next_new, Hp.next_set] <;> omega) ?_
        · simp only [Hp.next_new] at hb
          by_cases h1 : b = H.next + 1
          · subst h1; simp -implicitDefEqProofs (maxSteps := 2000000) (disch := first | omega | (simp only [nx_new, nx_set, List.length_cons, List.length_nil, List.length_map, List.length_set, ne_eq, not_true_eq_false, not_false_eq_true, Nat.succ_ne_zero]; done) | (simp only [nx_new, nx_set, List.length_cons, List.length_nil, List.length_map, List.length_set, ne_eq, not_true_eq_false, not_false_eq_true, Nat.succ_ne_zero]; omega)) only [go_sem, reduceIte, reduceCtorEq, Nat.succ_ne_zero, not_false_eq_true, decide_true, decide_false, Nat.reduceAdd, Nat.reduceMul, Nat.reduceEqDiff, Nat.reduceLeDiff, e, List.map_set]
          · by_cases h2 : b = H.next
            · subst h2; simp -implicitDefEqProofs (maxSteps := 2000000) (disch := first | omega | (simp only [nx_new, nx_set, List.length_cons, List.length_nil, List.length_map, List.length_set, ne_eq, not_true_eq_false, not_false_eq_true, Nat.succ_ne_zero]; done) | (simp only [nx_new, nx_set, List.length_cons, List.length_nil, List.length_map, List.length_set, ne_eq, not_true_eq_false, not_false_eq_true, Nat.succ_ne_zero]; omega)) only [go_sem, reduceIte, reduceCtorEq, Nat.succ_ne_zero, not_false_eq_true, decide_true, decide_false, Nat.reduceAdd, Nat.reduceMul, Nat.reduceEqDiff, Nat.reduceLeDiff]
            · simp -implicitDefEqProofs (maxSteps := 2000000) (disch := first | omega | (simp only [nx_new, nx_set, List.length_cons, List.length_nil, List.length_map, List.length_set, ne_eq, not_true_eq_false, not_false_eq_true, Nat.succ_ne_zero]; done) | (simp only [nx_new, nx_set, List.length_cons, List.length_nil, List.length_map, List.length_set, ne_eq, not_true_eq_false, not_false_eq_true, Nat.succ_ne_zero]; omega)) only [go_sem, reduceIte, reduceCtorEq, Nat.succ_ne_zero, not_false_eq_true, decide_true, decide_false, Nat.reduceAdd, Nat.reduceMul, Nat.reduceEqDiff, Nat.reduceLeDiff]
        · simp -implicitDefEqProofs (disch := omega) only [Abs.Sub, get_cons_eq, get_cons_ne, and_self, Int.natCast_zero, Int.natCast_add, Int.natCast_one]
    · have e : l.take k = l := List.take_of_length_le (by omega)
      rw [e] at hmn ⊢
      have e4 : ((maskB l tel valid known).map Value.bool).length = 4 := by rw [List.length_map, hmn]
      have eo : ((maskB l tel valid known).map Value.bool).all one = true := by simp [one]
      have et : ((maskB l tel valid known).map Value.bool).take 4 = (maskB l tel valid known).map Value.bool := List.take_of_length_le (by omega)
      generalize hmv : (maskB l tel valid known).map Value.bool = mv at *
      simp -implicitDefEqProofs (maxSteps := 2000000) (disch := first | omega | (simp only [nx_new, nx_set, List.length_cons, List.length_nil, List.length_map, List.length_set, ne_eq, not_true_eq_false, not_false_eq_true, Nat.succ_ne_zero]; done) | (simp only [nx_new, nx_set, List.length_cons, List.length_nil, List.length_map, List.length_set, ne_eq, not_true_eq_false, not_false_eq_true, Nat.succ_ne_zero]; omega)) only [go_sem, reduceIte, reduceCtorEq, Nat.succ_ne_zero, not_false_eq_true, decide_true, decide_false, Nat.reduceAdd, Nat.reduceMul, Nat.reduceEqDiff, Nat.reduceLeDiff, et, e4, eo]
      refine ret_same (G := H) (v := vb (maskB l tel valid known)) .ret (.inr rfl) hw (Nat.le_refl _) (by rw [ares_cell ret20]; simp -implicitDefEqProofs (maxSteps := 2000000) (disch := first | omega | (simp only [nx_new, nx_set, List.length_cons, List.length_nil, List.length_map, List.length_set, ne_eq, not_true_eq_false, not_false_eq_true, Nat.succ_ne_zero]; done) | (simp only [nx_new, nx_set, List.length_cons, List.length_nil, List.length_map, List.length_set, ne_eq, not_true_eq_false, not_false_eq_true, Nat.succ_ne_zero]; omega)) only [go_sem, reduceIte, reduceCtorEq, Nat.succ_ne_zero, not_false_eq_true, decide_true, decide_false, Nat.reduceAdd, Nat.reduceMul, Nat.reduceEqDiff, Nat.reduceLeDiff, et, e4]; rw [← hmv]; rfl) ?_ (fun b hb => by simp -implicitDefEqProofs (maxSteps := 2000000) (disch := first | omega | (simp only [nx_new, nx_set, List.length_cons, List.length_nil, List.length_map, List.length_set, ne_eq, not_true_eq_false, not_false_eq_true, Nat.succ_ne_zero]; done) | (simp only [nx_new, nx_set, List.length_cons, List.length_nil, List.length_map, List.length_set, ne_eq, not_true_eq_false, not_false_eq_true, Nat.succ_ne_zero]; omega)) only [go_sem, reduceIte, reduceCtorEq, Nat.succ_ne_zero, not_false_eq_true, decide_true, decide_false, Nat.reduceAdd, Nat.reduceMul, Nat.reduceEqDiff, Nat.reduceLeDiff]) ⟨rfl, rfl⟩
      exact refsL_map (fun _ => rfl) _
end Go.Proofs.Ytalijeodmmlfjaa
