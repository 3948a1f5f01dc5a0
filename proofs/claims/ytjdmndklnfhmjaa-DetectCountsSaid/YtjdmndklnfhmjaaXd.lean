/- The map of Count: looked into, written. -/
import Derived.Test.YtjdmndklnfhmjaaXc
import Derived.DeepKeys5
set_option linter.unusedVariables false
set_option linter.unusedSimpArgs false
set_option linter.unusedSectionVars false
namespace Go.Proofs.Ytjdmndklnfhmjaa
open Go.Abs
set_option maxHeartbeats 8000000
set_option maxRecDepth 100000
theorem laidOut : laidOutB Try.prog = true := by kernel_rfl
theorem law55 : WideMaps.KeyLaw Try.prog 55 := deep_law_gate laidOut (of_decide_eq_true (by kernel_rfl)) (of_decide_eq_true (by kernel_rfl)) (by kernel_rfl) (by rw [u55])
theorem wf_small {x : Int} (h : small x) : (Lit.int .i64 x).wf = true := by
  simp only [small] at h
  simp [Lit.wf, IntKind.min, IntKind.max, IntKind.signed, IntKind.bits]; omega
theorem lits3 (n : Nat) {a : Int} (h : small a) : Try.prog.keyLits (n + 1) 3 [.int .i64 a] = some [.int .i64 a] := by
  simp [Program.keyLits, u3, wf_small h]
theorem fields55 : ((Try.prog.fieldsOf 55).toList.map fun f => (f.type, f.offset)) = [(3, 0), (3, 1), (3, 2)] := by kernel_rfl
theorem names55 : ((Try.prog.fieldsOf 55).all (·.name != "_")) = true := by kernel_rfl
theorem cells55 : Try.prog.cellsOf 55 = 3 := by kernel_rfl
theorem cells3 : Try.prog.cellsOf 3 = 1 := by kernel_rfl
theorem keyType55 : Try.prog.keyType 55 = true := by kernel_rfl
theorem mapM_pairs {α β γ : Type} (f : α → β) (g : β → Option γ) : ∀ l : List α, l.mapM (fun x => g (f x)) = (l.map f).mapM g
  | [] => rfl
  | x :: l => by simp only [List.mapM_cons, List.map_cons, mapM_pairs f g l]
theorem lits55 {n : Nat} {a b c : Int} (ha : small a) (hb : small b) (hc : small c) : ∃ ls, Try.prog.keyLits (n + 2) 55 [.int .i64 a, .int .i64 b, .int .i64 c] = some ls := by
  have e : (Try.prog.fieldsOf 55).toList.mapM (fun f => Try.prog.keyLits (n + 1) f.type (([.int .i64 a, .int .i64 b, .int .i64 c] : List Value).drop f.offset |>.take (Try.prog.cellsOf f.type))) = some [[.int .i64 a], [.int .i64 b], [.int .i64 c]] := by
    have := mapM_pairs (fun f : Field => (f.type, f.offset)) (fun p : TypeId × Nat => Try.prog.keyLits (n + 1) p.1 (([.int .i64 a, .int .i64 b, .int .i64 c] : List Value).drop p.2 |>.take (Try.prog.cellsOf p.1))) (Try.prog.fieldsOf 55).toList
    simp only at this
    rw [this, fields55]
    simp [cells3, lits3, ha, hb, hc]
  unfold Program.keyLits
  rw [u55]
  simp only
  rw [if_pos ⟨by rw [cells55]; rfl, names55⟩]
  exact ⟨_, by rw [e]; rfl⟩
theorem key55 {a b c : Int} (ha : small a) (hb : small b) (hc : small c) : ∃ l, keyOf Try.prog 55 (kv [a, b, c]) = some l := by
  unfold keyOf
  rw [u55]
  simp only
  have hf : Value.formed Try.prog 55 (kv [a, b, c]) = true := by
    simp only [kv, Value.formed, u55, cells55]; rfl
  rw [keyType55, hf]
  simp only [Bool.and_self, if_true]
  have hsz : Try.prog.types.size + 1 = (Try.prog.types.size - 1) + 2 := by
    have : 1 ≤ Try.prog.types.size := of_decide_eq_true (by kernel_rfl)
    omega
  obtain ⟨ls, h⟩ := lits55 (n := Try.prog.types.size - 1) ha hb hc
  rw [← hsz] at h
  exact ⟨_, by
    show Option.map _ (Try.prog.keyLits (Try.prog.types.size + 1) 55 [.int .i64 a, .int .i64 b, .int .i64 c]) = _
    rw [h]; rfl⟩
/-! ### what the map holds -/
def PlOk (p : Pl) : Prop := okP p.t p.c p.f = true
/-- The map counts the places ps. -/
structure MapOf (ps : List Pl) (es : List (List Int × Value)) : Prop where
  nodup : (es.map (·.1)).Nodup
  each : ∀ e, e ∈ es → ∃ p, p ∈ ps ∧ e = (p.ints, .int .i64 (ps.count p))
  all : ∀ p, p ∈ ps → p.ints ∈ es.map (·.1)
theorem ints_inj {p q : Pl} (h : p.ints = q.ints) : p = q := by
  obtain ⟨a, b, c⟩ := p
  obtain ⟨x, y, z⟩ := q
  simp only [Pl.ints, List.cons.injEq, and_true] at h
  simp only [Pl.mk.injEq]; exact h
theorem key_pl {p : Pl} (h : PlOk p) : ∃ l, keyOf Try.prog 55 (kv p.ints) = some l := key55 (ok_small h).1 (ok_small h).2.1 (ok_small h).2.2
theorem mapOk {ps : List Pl} {es : List (List Int × Value)} (hM : MapOf ps es) (hok : ∀ p, p ∈ ps → PlOk p) {p : Pl} (hp : PlOk p) : MapOk Try.prog 55 es p.ints :=
  ⟨law55, fun e he => by
    obtain ⟨q, hq, rfl⟩ := hM.each e he
    exact key_pl (hok q hq), key_pl hp⟩
theorem mfind_in {ps : List Pl} {es : List (List Int × Value)} (hM : MapOf ps es) {p : Pl} (hp : p ∈ ps) : ∃ i, mfind p.ints es = some (i, .int .i64 (ps.count p)) ∧ es[i]? = some (p.ints, .int .i64 (ps.count p)) := by
  obtain ⟨e, he, hk⟩ := List.mem_map.1 (hM.all p hp)
  obtain ⟨q, hq, rfl⟩ := hM.each e he
  obtain rfl := ints_inj hk
  obtain ⟨i, hi⟩ := List.getElem?_of_mem he
  exact ⟨i, mfind_at hM.nodup hi rfl, hi⟩
theorem mfind_out {ps : List Pl} {es : List (List Int × Value)} (hM : MapOf ps es) {p : Pl} (hp : p ∉ ps) : mfind p.ints es = none :=
  mfind_none fun e he hk => by
    obtain ⟨q, hq, rfl⟩ := hM.each e he
    exact hp (ints_inj hk ▸ hq)
theorem vk_pl (p : Pl) : vk (.agg #[.int .i64 p.t, .int .i64 p.c, .int .i64 p.f]) = some p.ints := rfl
theorem lookup_fact {G : Hp} {r : Nat} {ps : List Pl} {es : List (List Int × Value)} (hob : G.ob r = some (.mp es)) (hM : MapOf ps es) (hok : ∀ p, p ∈ ps → PlOk p) {p : Pl} (hp : PlOk p) :
    alookup Try.prog G 53 (.map (some r)) (.agg #[.int .i64 p.t, .int .i64 p.c, .int .i64 p.f]) false = some (.int .i64 (ps.count p)) := by
  simp only [alookup, u53, vk_pl, hob]
  rw [if_pos (mapOk hM hok hp)]
  by_cases h : p ∈ ps
  · obtain ⟨i, h1, _⟩ := mfind_in hM h
    rw [h1]
  · rw [mfind_out hM h, tz3, List.count_eq_zero.2 h]; rfl
theorem setOb_two (G : Hp) (r : Nat) (a b : MObj) : (G.setOb r a).setOb r b = G.setOb r b := by
  refine Hp.ext' rfl (fun _ => rfl) ?_
  funext j
  simp only [Hp.setOb]
  split <;> rfl
theorem mapOf_nil : MapOf [] [] := ⟨List.nodup_nil, fun e h => (by cases h), fun p h => (by cases h)⟩
theorem count_snoc (ps : List Pl) (p q : Pl) : (ps ++ [p]).count q = ps.count q + if p = q then 1 else 0 := by
  rw [List.count_append, List.count_singleton]
  simp only [beq_iff_eq]
theorem entry_fact {G : Hp} {r : Nat} {ps : List Pl} {es : List (List Int × Value)} (hob : G.ob r = some (.mp es)) (hM : MapOf ps es) (hok : ∀ p, p ∈ ps → PlOk p) {p : Pl} (hp : PlOk p) :
    ∃ (z : Value) (i : Nat) (G1 : Hp) (es2 : List (List Int × Value)), amapEntry Try.prog G 53 (.map (some r)) (.agg #[.int .i64 p.t, .int .i64 p.c, .int .i64 p.f]) = some (.tuple #[z, .int .i64 i], G1) ∧
      aentryStore G1 (.map (some r)) (.int .i64 i) (.int .i64 ((ps.count p : Int) + 1)) = some (G.setOb r (.mp es2)) ∧ MapOf (ps ++ [p]) es2 ∧
      alookup Try.prog G1 53 (.map (some r)) (.agg #[.int .i64 p.t, .int .i64 p.c, .int .i64 p.f]) false = some (.int .i64 (ps.count p)) := by
  by_cases h : p ∈ ps
  · obtain ⟨i, h1, h2⟩ := mfind_in hM h
    refine ⟨.int .i64 (ps.count p), i, G, es.set i (p.ints, .int .i64 ((ps.count p : Int) + 1)), ?_, ?_, ?_, lookup_fact hob hM hok hp⟩
    · simp only [amapEntry, u53, vk_pl, hob]
      rw [if_pos (mapOk hM hok hp), h1]
    · simp only [aentryStore, hob, Int.toNat_natCast]
      rw [if_pos ⟨by omega, rfl⟩, h2]; rfl
    · have hkeys : (es.set i (p.ints, .int .i64 ((ps.count p : Int) + 1))).map (·.1) = es.map (·.1) := by
        rw [List.map_set]
        apply List.ext_getElem?
        intro j
        by_cases hj : i = j
        · subst hj; rw [List.getElem?_set_self (by rw [List.length_map]; exact (List.getElem?_eq_some_iff.1 h2).1), List.getElem?_map, h2]; rfl
        · rw [List.getElem?_set_ne hj]
      refine ⟨by rw [hkeys]; exact hM.nodup, fun e he => ?_, fun q hq => ?_⟩
      · obtain ⟨j, hj⟩ := List.getElem?_of_mem he
        by_cases hij : i = j
        · subst hij
          rw [List.getElem?_set_self (List.getElem?_eq_some_iff.1 h2).1] at hj
          cases hj
          refine ⟨p, List.mem_append_left _ h, ?_⟩
          rw [count_snoc, if_pos rfl]; simp
        · rw [List.getElem?_set_ne hij] at hj
          obtain ⟨q, hq, rfl⟩ := hM.each e (List.mem_of_getElem? hj)
          refine ⟨q, List.mem_append_left _ hq, ?_⟩
          have hne : p ≠ q := fun e => hij (nodup_key hM.nodup h2 hj (by rw [e]))
          rw [count_snoc, if_neg hne]; rfl
      · rw [hkeys]
        rcases List.mem_append.1 hq with hq | hq
        · exact hM.all q hq
        · rw [List.mem_singleton] at hq; subst hq; exact hM.all q h
  · have h1 := mfind_out hM h
    have hc0 : ps.count p = 0 := List.count_eq_zero.2 h
    refine ⟨.int .i64 0, es.length, G.setOb r (.mp (es ++ [(p.ints, .int .i64 0)])), es ++ [(p.ints, .int .i64 ((ps.count p : Int) + 1))], ?_, ?_, ?_, ?_⟩
    rotate_right
    · have hnd : ((es ++ [(p.ints, Value.int .i64 0)]).map (·.1)).Nodup := by
        rw [List.map_append, List.nodup_append]
        refine ⟨hM.nodup, by simp, fun a ha b hb => ?_⟩
        simp only [List.map_cons, List.map_nil, List.mem_singleton] at hb
        subst hb
        obtain ⟨e, he, rfl⟩ := List.mem_map.1 ha
        exact find_key h1 e he
      have hm := mfind_at (i := es.length) (k := p.ints) (e := (p.ints, .int .i64 0)) hnd (by rw [List.getElem?_append_right (Nat.le_refl _), Nat.sub_self]; rfl) rfl
      simp only [alookup, u53, vk_pl, Hp.ob_setOb_same]
      rw [if_pos ⟨law55, fun e he => by
        rcases List.mem_append.1 he with he | he
        · obtain ⟨q, hq, rfl⟩ := hM.each e he
          exact key_pl (hok q hq)
        · rw [List.mem_singleton] at he; subst he; exact key_pl hp, key_pl hp⟩, hm, hc0]; rfl
    · simp only [amapEntry, u53, vk_pl, hob]
      rw [if_pos (mapOk hM hok hp), h1, tz3]; rfl
    · simp only [aentryStore, Hp.ob_setOb_same, Int.toNat_natCast]
      rw [if_pos ⟨by omega, rfl⟩, List.getElem?_append_right (Nat.le_refl _), Nat.sub_self]
      simp [setOb_two]
    · refine ⟨?_, fun e he => ?_, fun q hq => ?_⟩
      · rw [List.map_append, List.nodup_append]
        refine ⟨hM.nodup, by simp, fun a ha b hb => ?_⟩
        simp only [List.map_cons, List.map_nil, List.mem_singleton] at hb
        subst hb
        obtain ⟨e, he, rfl⟩ := List.mem_map.1 ha
        exact find_key h1 e he
      · rcases List.mem_append.1 he with he | he
        · obtain ⟨q, hq, rfl⟩ := hM.each e he
          refine ⟨q, List.mem_append_left _ hq, ?_⟩
          have hne : p ≠ q := fun e => h (e ▸ hq)
          rw [count_snoc, if_neg hne]; rfl
        · rw [List.mem_singleton] at he
          subst he
          refine ⟨p, by simp, ?_⟩
          rw [count_snoc, if_pos rfl]; simp
      · rw [List.map_append]
        rcases List.mem_append.1 hq with hq | hq
        · exact List.mem_append_left _ (hM.all q hq)
        · rw [List.mem_singleton] at hq; subst hq; simp
end Go.Proofs.Ytjdmndklnfhmjaa
