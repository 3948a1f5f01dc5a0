/- Memory in its plain form: what is new lies behind what was there, each block as it is now. -/
import Derived.Test.YtjdmndklnfhmjaaAbsO
set_option linter.unusedVariables false
set_option linter.unusedSimpArgs false
set_option linter.unusedSectionVars false
namespace Go.Abs
open Go.RowKit

section
variable {P : Program} {H : Hp}
theorem Hp.ext' {A B : Hp} (h1 : A.next = B.next) (h2 : ∀ i, A.get i = B.get i) (h3 : A.ob = B.ob := by rfl) : A = B := by
  cases A; cases B; cases h1; cases h3; simp only [Hp.mk.injEq, true_and, and_true]; exact funext h2
theorem set_new_same (b b' : Blk) (i : Nat) (h : i = H.next) : (H.new b).set i b' = H.new b' :=
  Hp.ext' rfl fun j => by subst h; simp only [Hp.new, Hp.set]; split <;> simp_all
theorem set_new_ne (b b' : Blk) (i : Nat) (h : i ≠ H.next) : (H.new b).set i b' = (H.set i b').new b :=
  Hp.ext' rfl fun j => by
    simp only [Hp.new, Hp.set]
    by_cases h1 : j = i
    · subst h1; simp [h]
    · simp [h1]
theorem set_set_same (b b' : Blk) (i j : Nat) (h : i = j) : (H.set j b).set i b' = H.set i b' :=
  Hp.ext' rfl fun k => by subst h; simp only [Hp.set]; split <;> simp_all

theorem nx_new (H : Hp) (b : Blk) : (H.new b).next = H.next + 1 := congrArg (fun x : Nat => x) rfl
theorem nx_set (H : Hp) (i : Nat) (b : Blk) : (H.set i b).next = H.next := congrArg (fun x : Nat => x) rfl

/-! ### making -/
theorem anew_def (l : List Value) (k : Nat) : anew H l k = if l.all one = true then some (.pointer (some ⟨H.next, 0, none⟩), H.new (.row l true k)) else none := rfl
theorem one_int (k : IntKind) (n : Int) : one (.int k n) = true := rfl
theorem one_bool (b : Bool) : one (.bool b) = true := rfl
theorem one_string (b : ByteArray) : one (.string b) = true := rfl
theorem one_slice (a : Option Addr) (n c : Nat) : one (.slice a n c) = true := rfl
theorem one_pointer (a : Option Addr) : one (.pointer a) = true := rfl
theorem one_func (f : Fn) (a b : Array Value) : one (.func f a b) = true := rfl
theorem cells_int (k : IntKind) (n : Int) : (Value.int k n).cells = #[.int k n] := rfl
theorem cells_bool (b : Bool) : (Value.bool b).cells = #[.bool b] := rfl
theorem cells_string (b : ByteArray) : (Value.string b).cells = #[.string b] := rfl
theorem cells_slice (a : Option Addr) (n c : Nat) : (Value.slice a n c).cells = #[.slice a n c] := rfl
theorem cells_pointer (a : Option Addr) : (Value.pointer a).cells = #[.pointer a] := rfl
theorem cells_func (f : Fn) (a b : Array Value) : (Value.func f a b).cells = #[.func f a b] := rfl
theorem cells_agg (l : Array Value) : (Value.agg l).cells = l := rfl

/-! ### storing -/
def storeB (H : Hp) (b : Nat) (blk : Blk) (o : Nat) (vs : List Value) : Option Hp :=
  match blk with
  | .row cs true k => if o + vs.length ≤ cs.length ∧ vs.all one = true then some (H.set b (.row (splice cs o vs) true k)) else none
  | _ => none
theorem astore_B (a : Addr) (vs : List Value) : astore H a vs = storeB H a.block (H.get a.block) a.off vs := rfl
theorem storeB_row (b : Nat) (cs : List Value) (k o : Nat) (vs : List Value) (h : o + vs.length ≤ cs.length) : storeB H b (.row cs true k) o vs = if vs.all one = true then some (H.set b (.row (splice cs o vs) true k)) else none := by
  simp only [storeB, h, true_and]
theorem splice_all (cs vs : List Value) (h : vs.length = cs.length) : splice cs 0 vs = vs := by simp [splice, h]
theorem splice_one (cs : List Value) (o : Nat) (v : Value) (h : o < cs.length) : splice cs o [v] = cs.set o v := (spl_eq cs o [v] (by simp only [List.length_singleton]; omega)).trans rfl
theorem agg_load (a : Addr) (n : Nat) : (aload H a n).map (fun cs => Value.agg cs.toArray) = (aload H a n).map fun cs => Value.agg cs.toArray := rfl

/-! ### calls -/
theorem callP_plain (g : FuncId) (as : List Value) (K : Value → Hp → Prop) : callP P (some (.func (.func g) #[] #[])) (some as) H K = ACalls P g as H K := by
  rw [callP_some]; simp
theorem callP_cap (g : FuncId) (as l : List Value) (K : Value → Hp → Prop) : callP P (some (.func (.func g) #[] l.toArray)) (some as) H K = ACalls P g (as ++ l) H K := by
  rw [callP_some]; simp
theorem callP_bound (g : FuncId) (as l : List Value) (K : Value → Hp → Prop) : callP P (some (.func (.func g) l.toArray #[])) (some as) H K = ACalls P g (l ++ as) H K := by
  rw [callP_some]; simp
theorem ACalls.use_eq {f : FuncId} {args : List Value} {x : Value} {H2 : Hp} {K : Value → Hp → Prop} (h : ACalls P f args H (fun v H' => v = x ∧ H' = H2)) (hk : K x H2) : ACalls P f args H K :=
  h.mono fun _ _ ⟨h1, h2⟩ => by subst h1; subst h2; exact hk

/-! ### regions that draw their order -/
section draw
variable {K : Env → Hp → Prop} {env : Env} {d : Option Tmp} {H0 : Hp} {v : Value}
theorem cD_move (x : Operand) : contD K env d H0 (.move x) v H = K (env.put d v) H := by simp [contD, opCall]
theorem cD_assign (x : Operand) : contD K env d H0 (.assign x) v H = K (env.put d v) H := by simp [contD, opCall]
theorem cD_pick (x y z : Operand) : contD K env d H0 (.pick x y z) v H = K (env.put d v) H := by simp [contD, opCall]
theorem cD_binOp (o : BinOp) (t s : TypeId) (x y : Operand) : contD K env d H0 (.binOp o t x y s) v H = K (env.put d v) H := by simp [contD, opCall]
theorem cD_unOp (o : UnOp) (t : TypeId) (x : Operand) : contD K env d H0 (.unOp o t x) v H = K (env.put d v) H := by simp [contD, opCall]
theorem cD_convert (t s : TypeId) (x : Operand) : contD K env d H0 (.convert t s x) v H = K (env.put d v) H := by simp [contD, opCall]
theorem cD_fieldAddr (t : TypeId) (x : Operand) (f : Nat) : contD K env d H0 (.fieldAddr t x f) v H = K (env.put d v) H := by simp [contD, opCall]
theorem cD_field (t : TypeId) (x : Operand) (f : Nat) : contD K env d H0 (.field t x f) v H = K (env.put d v) H := by simp [contD, opCall]
theorem cD_indexAddr (t : TypeId) (x y : Operand) : contD K env d H0 (.indexAddr t x y) v H = K (env.put d v) H := by simp [contD, opCall]
theorem cD_index (t : TypeId) (x y : Operand) : contD K env d H0 (.index t x y) v H = K (env.put d v) H := by simp [contD, opCall]
theorem cD_extract (x : Operand) (i : Nat) : contD K env d H0 (.extract x i) v H = K (env.put d v) H := by simp [contD, opCall]
theorem cD_build (t : TypeId) (ps : Array (Nat × Operand)) : contD K env d H0 (.build t ps) v H = K (env.put d v) H := by simp [contD, opCall]
theorem cD_load (t : TypeId) (x : Operand) : contD K env d H0 (.load t x) v H = K (env.put d v) H := by simp [contD, opCall]
theorem cD_store (t : TypeId) (x y : Operand) : contD K env d H0 (.store t x y) v H = K (env.put d v) H := by simp [contD, opCall]
theorem cD_slice (t : TypeId) (x : Operand) (a b c : Option Operand) : contD K env d H0 (.slice t x a b c) v H = K (env.put d v) H := by simp [contD, opCall]
theorem cD_alloc (t : TypeId) : contD K env d H0 (.alloc t) v H = K (env.put d v) H := by simp [contD, opCall]
theorem cD_box (t : TypeId) (x : Operand) : contD K env d H0 (.box t x) v H = K (env.put d v) H := by simp [contD, opCall]
theorem cD_buildSlice (t : TypeId) (n : Nat) (ps : Array (Nat × Operand)) : contD K env d H0 (.buildSlice t n ps) v H = K (env.put d v) H := by simp [contD, opCall]
theorem cD_makeSlice (t : TypeId) (x y : Operand) : contD K env d H0 (.makeSlice t x y) v H = K (env.put d v) H := by simp [contD, opCall]
theorem cD_nilCheck (x : Operand) : contD K env d H0 (.nilCheck x) v H = K (env.put d v) H := by simp [contD, opCall]
theorem cD_makeFunc (f : Fn) (a b : Array Operand) : contD K env d H0 (.makeFunc f a b) v H = K (env.put d v) H := by simp [contD, opCall]
theorem cD_builtin (b : Builtin) (as : Array Operand) (ts : Array TypeId) : contD K env d H0 (.call ⟨.builtin b, as, ts⟩) v H = K (env.put d v) H := by simp [contD, opCall]
theorem cD_call (f : Operand) (as : Array Operand) (ts : Array TypeId) : contD K env d H0 (.call ⟨.value f, as, ts⟩) v H = (Grows H0 H ∧ K (env.put d v) H) := by simp [contD, opCall]
theorem cD_lookup (t : TypeId) (x y : Operand) (b : Bool) : contD K env d H0 (.lookup t x y b) v H = K (env.put d v) H := by simp [contD, opCall]
theorem cD_mapEntry (t : TypeId) (x y : Operand) : contD K env d H0 (.mapEntry t x y) v H = K (env.put d v) H := by simp [contD, opCall]
theorem cD_entryStore (t : TypeId) (x y z : Operand) : contD K env d H0 (.entryStore t x y z) v H = K (env.put d v) H := by simp [contD, opCall]
theorem grows_self : Grows H H = True := eq_true (Grows.refl H)
theorem filterMap_range (l : List Oper) : (List.range l.length).filterMap (l.toArray[·]?) = l := by
  have h : ∀ (l : List Oper), (List.range l.length).filterMap (fun i => l[i]?) = l := by
    intro l
    induction l with
    | nil => rfl
    | cons x l ih =>
      rw [List.length_cons, List.range_succ_eq_map, List.filterMap_cons]
      simp only [List.getElem?_cons_zero, List.filterMap_map]
      congr 1
  have e : (fun i : Nat => l.toArray[i]?) = fun i => l[i]? := by funext i; simp
  rw [e]
  exact h l
theorem AWP_draw_in {N n0 : Nat} {r : Option Nat} {Q : Exit → Env → Hp → Prop} {id : Nat} {l : List Oper} (hm : P.follows .mixedOrders = true) (hB : canonB l.toArray (List.range l.length) (Array.replicate l.toArray.size false) = true)
    (h : awpD P l.toArray (Q .normal) l env H) : AWP P N n0 r (.region id l.toArray true) Q env H :=
  AWP_draw (List.range l.length) hm hB (by simp) (by rw [filterMap_range]; exact h)
end draw

/-! ### results -/
section results
variable {fn : Func} {env : Env} {a u : Nat} {t s : TypeId}
theorem ares_tmp (h : fn.results = #[.tmp u]) : ares P fn env H = env.get u := by
  simp only [ares, h, List.mapM_cons, List.mapM_nil]
  cases env.get u <;> rfl
theorem ares_cell (h : fn.results = #[.cell a t]) : ares P fn env H = (env.get a).bind fun p => aloadT P H t p := by
  simp only [ares, h, List.mapM_cons, List.mapM_nil]
  cases env.get a with
  | none => rfl
  | some p => simp only [Option.bind_some]; cases aloadT P H t p <;> rfl
theorem ares_cell_tmp (h : fn.results = #[.cell a t, .tmp u]) : ares P fn env H = (env.get a).bind fun p => (aloadT P H t p).bind fun v => (env.get u).bind fun w => some (.tuple #[v, w]) := by
  simp only [ares, h, List.mapM_cons, List.mapM_nil]
  cases env.get a with
  | none => rfl
  | some p =>
    simp only [Option.bind_some]
    cases aloadT P H t p with
    | none => rfl
    | some v => cases env.get u <;> rfl
theorem ares_tmp_tmp (h : fn.results = #[.tmp a, .tmp u]) : ares P fn env H = (env.get a).bind fun v => (env.get u).bind fun w => some (.tuple #[v, w]) := by
  simp only [ares, h, List.mapM_cons, List.mapM_nil]
  cases env.get a with
  | none => rfl
  | some v => cases env.get u <;> rfl
theorem ares_tmp3 {c : Nat} (h : fn.results = #[.tmp a, .tmp u, .tmp c]) : ares P fn env H = (env.get a).bind fun v => (env.get u).bind fun w => (env.get c).bind fun x => some (.tuple #[v, w, x]) := by
  simp only [ares, h, List.mapM_cons, List.mapM_nil]
  cases env.get a with
  | none => rfl
  | some v =>
    cases env.get u with
    | none => rfl
    | some w => cases env.get c <;> rfl
end results

theorem refs_int (n : Nat) (k : IntKind) (x : Int) : refs n (.int k x) = true := rfl
theorem refs_bool (n : Nat) (x : Bool) : refs n (.bool x) = true := rfl
theorem refs_string (n : Nat) (x : ByteArray) : refs n (.string x) = true := rfl
theorem refs_slice (n b o l c : Nat) (k : Option Nat) : refs n (.slice (some ⟨b, o, k⟩) l c) = decide (b < n) := rfl
theorem refs_pointer (n b o : Nat) (k : Option Nat) : refs n (.pointer (some ⟨b, o, k⟩)) = decide (b < n) := rfl
theorem refs_slice0 (n l c : Nat) : refs n (.slice none l c) = true := rfl
theorem refs_pointer0 (n : Nat) : refs n (.pointer none) = true := rfl
theorem refs_agg (n : Nat) (l : List Value) : refs n (.agg l.toArray) = refsL n l := rfl
theorem refs_tuple (n : Nat) (l : List Value) : refs n (.tuple l.toArray) = refsL n l := rfl
theorem refs_func (n : Nat) (f : Fn) (a b : List Value) : refs n (.func f a.toArray b.toArray) = (refsL n a && refsL n b) := rfl
theorem refsL_nil (n : Nat) : refsL n [] = true := rfl
theorem refsL_cons (n : Nat) (v : Value) (l : List Value) : refsL n (v :: l) = (refs n v && refsL n l) := rfl
/-! ### keeping the frame, dropping what is new -/
mutual
theorem refs_mono {n m : Nat} (h : n ≤ m) : ∀ {v : Value}, refs n v = true → refs m v = true
  | .pointer (some _), hv => by simp only [refs, decide_eq_true_eq] at hv ⊢; omega
  | .slice (some _) _ _, hv => by simp only [refs, decide_eq_true_eq] at hv ⊢; omega
  | .func _ f c, hv => by simp only [refs, Bool.and_eq_true] at hv ⊢; exact ⟨refsA_mono h hv.1, refsA_mono h hv.2⟩
  | .agg _, hv => by simp only [refs] at hv ⊢; exact refsA_mono h hv
  | .tuple _, hv => by simp only [refs] at hv ⊢; exact refsA_mono h hv
  | .iface _ _, hv => by simp only [refs] at hv ⊢; exact refs_mono h hv
  | .pointer none, _ => rfl
  | .slice none _ _, _ => rfl
  | .map _, _ => rfl
  | .chan _, _ => rfl
  | .bool _, _ => rfl
  | .int _ _, _ => rfl
  | .float _ _, _ => rfl
  | .complex _ _ _, _ => rfl
  | .string _, _ => rfl
  | .nilFunc, _ => rfl
  | .nilIface, _ => rfl
theorem refsA_mono {n m : Nat} (h : n ≤ m) : ∀ {v : Array Value}, refsA n v = true → refsA m v = true
  | ⟨_⟩, hv => by simp only [refsA] at hv ⊢; exact refsL_mono h hv
theorem refsL_mono {n m : Nat} (h : n ≤ m) : ∀ {v : List Value}, refsL n v = true → refsL m v = true
  | [], _ => rfl
  | _ :: _, hv => by simp only [refsL, Bool.and_eq_true] at hv ⊢; exact ⟨refs_mono h hv.1, refsL_mono h hv.2⟩
end
theorem Weak.drop {n : Nat} {G : Hp} {e2 e : Env} (hw : WfH G) (hn : n ≤ G.next) (hH : ∀ b, b < G.next → H.get b = G.get b) (hob : ∀ r o, G.ob r = some o → H.ob r = some o) (hf : (e2.all fun p => refs G.next p.2) = true) (he : Abs.Sub e2 e) : Weak n e2 G e H :=
  Weak.news hw hn [] [] hH trivial List.nodup_nil rfl hob <| by
    have : ∀ e2 : Env, (e2.all fun p => refs G.next p.2) = true → Abs.Sub e2 e → SubR (rho G.next [] H.next) e2 e := by
      intro e2
      induction e2 with
      | nil => intro _ _; trivial
      | cons p r ih =>
        intro hf hs
        obtain ⟨t, v⟩ := p
        simp only [List.all_cons, Bool.and_eq_true] at hf
        refine ⟨?_, ih hf.2 hs.2⟩
        rw [ren_id (n := G.next) (fun b hb => by unfold rho; rw [if_pos hb]) hf.1]
        exact hs.1
    exact this e2 hf he
theorem WfH.new {b : Blk} (hw : WfH H) (hb : ∀ cs own k, b = .row cs own k → refsL (H.next + 1) cs = true) : WfH (H.new b) := by
  intro i cs own k hg
  by_cases hi : i = H.next
  · rw [Hp.get_new_same _ _ _ hi] at hg
    subst hi
    exact ⟨Nat.lt_succ_self _, hb _ _ _ hg⟩
  · rw [Hp.get_new_ne _ _ _ hi] at hg
    obtain ⟨h1, h2⟩ := hw _ _ _ _ hg
    exact ⟨Nat.lt_succ_of_lt h1, refsL_mono (Nat.le_succ _) h2⟩
theorem refsL_map {α : Type} {n : Nat} {f : α → Value} (hf : ∀ x, refs n (f x) = true) : ∀ l : List α, refsL n (l.map f) = true
  | [] => rfl
  | x :: l => by simp only [List.map_cons, refsL, hf, refsL_map hf l, Bool.and_self]

/-! ### rows that are here -/
theorem aload_row {i o n : Nat} {cs : List Value} {own : Bool} {k : Nat} (hg : H.get i = .row cs own k) (h : o + n ≤ cs.length) : aload H ⟨i, o, none⟩ n = some ((cs.drop o).take n) := by
  simp only [aload, hg]; exact if_pos h
theorem aload_part {b o n i : Nat} {cs : List Value} (h : aload H ⟨b, o, none⟩ n = some cs) (hi : i < n) : aload H ⟨b, o + i, none⟩ 1 = some ((cs.drop i).take 1) := by
  unfold aload at h ⊢
  cases hg : H.get b with
  | dead => simp [hg] at h
  | row c own k =>
    simp only [hg] at h
    split at h
    · rename_i hle
      injection h with h
      subst h
      show (if o + i + 1 ≤ c.length then some ((c.drop (o + i)).take 1) else none) = _
      rw [if_pos (by omega), List.drop_take, List.drop_drop, List.take_take, Nat.min_eq_left (by omega)]
    · cases h
theorem load1_part {b o n i : Nat} {cs : List Value} (h : aload H ⟨b, o, none⟩ n = some cs) (hi : i < n) : load1 H ⟨b, o + i, none⟩ = cs[i]? := by
  simp only [load1, aload_part h hi, Option.bind_some]
  exact head_take1 cs i
/-- What lay there, dead or not, lies there still. -/
structure Keeps (H H' : Hp) : Prop where
  next : H.next ≤ H'.next
  get : ∀ b, b < H.next → H'.get b = H.get b
  ob : ∀ r o, H.ob r = some o → H'.ob r = some o
theorem Keeps.refl (H : Hp) : Keeps H H := ⟨Nat.le_refl _, fun _ _ => rfl, fun _ _ h => h⟩
theorem Keeps.trans {a b c : Hp} (h : Keeps a b) (k : Keeps b c) : Keeps a c := ⟨Nat.le_trans h.next k.next, fun i hi => (k.get i (Nat.lt_of_lt_of_le hi h.next)).trans (h.get i hi), fun r o ho => k.ob r o (h.ob r o ho)⟩
theorem Keeps.new (H : Hp) (b : Blk) : Keeps H (H.new b) := ⟨Nat.le_succ _, fun i hi => Hp.get_new_ne _ _ _ (by omega), fun _ _ h => h⟩
theorem Keeps.newOb (H : Hp) {r : Nat} {o : MObj} (h : H.ob r = none) : Keeps H (H.setOb r o) := ⟨Nat.le_refl _, fun _ _ => rfl, fun i x hx => by rw [Hp.ob_setOb_ne _ _ _ _ (fun e => by subst e; rw [h] at hx; cases hx)]; exact hx⟩
theorem Keeps.grows {H H' : Hp} (h : Keeps H H') : Grows H H' := ⟨h.next, fun b _ _ _ hb hg => by rw [h.get b hb]; exact hg, h.ob⟩
theorem Keeps.set {H H' : Hp} (h : Keeps H H') {i : Nat} {b : Blk} (hi : H.next ≤ i) : Keeps H (H'.set i b) := ⟨h.next, fun j hj => (Hp.get_set_ne _ _ _ _ (by omega)).trans (h.get j hj), h.ob⟩
theorem Keeps.ld {H H' : Hp} (h : Keeps H H') (b o n : Nat) (hb : b < H.next) : aload H' ⟨b, o, none⟩ n = aload H ⟨b, o, none⟩ n := by simp only [aload, h.get b hb]
theorem Keeps.l1 {H H' : Hp} (h : Keeps H H') (b o : Nat) (hb : b < H.next) : load1 H' ⟨b, o, none⟩ = load1 H ⟨b, o, none⟩ := by simp only [load1, h.ld b o 1 hb]
theorem flat_len {s : Nat} : ∀ {xs : List (List Value)}, (∀ x, x ∈ xs → x.length = s) → xs.flatten.length = xs.length * s
  | [], _ => by simp
  | x :: xs, h => by
    simp only [List.flatten_cons, List.length_append, List.length_cons, h x (List.mem_cons_self ..), flat_len fun y hy => h y (List.mem_cons_of_mem _ hy), Nat.succ_mul]; omega
theorem flat_get {s : Nat} : ∀ {xs : List (List Value)} {i : Nat} (_ : ∀ x, x ∈ xs → x.length = s) (hi : i < xs.length), (xs.flatten.drop (i * s)).take s = xs[i]
  | x :: xs, 0, h, _ => by
    have := h x (List.mem_cons_self ..)
    simp [← this]
  | x :: xs, i + 1, h, hi => by
    have hx := h x (List.mem_cons_self ..)
    have e : (i + 1) * s = x.length + i * s := by rw [hx, Nat.succ_mul]; omega
    simp only [List.flatten_cons, List.getElem_cons_succ]
    rw [e, ← List.drop_drop, List.drop_left]
    exact flat_get (fun y hy => h y (List.mem_cons_of_mem _ hy)) (by simpa using hi)
theorem Elems.row {i : Nat} {s : Nat} {xs : List (List Value)} {own : Bool} {k : Nat} (hi : i < H.next) (hg : H.get i = .row xs.flatten own k) (hs : ∀ x, x ∈ xs → x.length = s) : Elems H (some ⟨i, 0, none⟩) s xs := fun j hj => by
  refine ⟨i, 0, rfl, hi, ?_⟩
  have h1 : (j + 1) * s ≤ xs.length * s := Nat.mul_le_mul_right _ hj
  rw [Nat.succ_mul] at h1
  rw [aload_row hg (by rw [flat_len hs]; omega), Nat.zero_add, flat_get hs hj]
theorem Elems.nil {a : Option Addr} {s : Nat} : Elems H a s [] := fun _ h => by simp at h
theorem flatten_single {α : Type} (f : α → Value) : ∀ (l : List α), (l.map fun x => [f x]).flatten = l.map f
  | [] => rfl
  | x :: l => by simp only [List.map_cons, List.flatten_cons, flatten_single f l]; rfl
theorem Elems.one {α : Type} (f : α → Value) (l : List α) {i : Nat} {own : Bool} {k : Nat} (hi : i < H.next) (hg : H.get i = .row (l.map f) own k) : Elems H (some ⟨i, 0, none⟩) 1 (l.map fun x => [f x]) :=
  Elems.row hi (by rw [flatten_single, hg]) (by simp)
end
attribute [go_sem ↓] awpD_nil awpD_cons astepD_none astepD_some cD_move cD_assign cD_pick cD_binOp cD_unOp cD_convert cD_fieldAddr cD_field cD_indexAddr cD_index cD_extract cD_build cD_load cD_store cD_slice cD_alloc cD_box cD_buildSlice cD_makeSlice cD_nilCheck cD_makeFunc cD_builtin cD_call cD_lookup cD_mapEntry cD_entryStore
attribute [go_sem] grows_self true_and and_true set_new_same set_new_ne set_set_same anew_def one_int one_bool one_string one_slice one_pointer one_func cells_int cells_bool cells_string cells_slice cells_pointer cells_func cells_agg astore_B storeB_row splice_all splice_one
  callP_plain callP_cap callP_bound
  List.all_cons List.all_nil List.size_toArray List.length_cons List.length_nil List.drop_zero List.drop_succ_cons List.take_succ_cons List.take_zero List.drop_nil List.take_nil
  Bool.true_and Bool.false_and Bool.and_true Bool.and_false Bool.not_true Bool.not_false Bool.true_or Bool.false_or Bool.or_true Bool.or_false Nat.zero_add Nat.add_zero Nat.zero_mul Int.toNat_zero List.map_cons List.map_nil List.nil_append List.cons_append List.append_nil List.set_cons_zero List.set_cons_succ
end Go.Abs
