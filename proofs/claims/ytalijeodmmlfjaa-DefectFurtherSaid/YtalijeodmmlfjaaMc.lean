/- Plain laws: what the changes contain. -/
import Derived.Test.YtalijeodmmlfjaaMb
import Derived.Test.YtalijeodmmlfjaaWg
set_option linter.unusedVariables false
set_option linter.unusedSimpArgs false
set_option linter.unusedSectionVars false
namespace Go.Proofs.Ytalijeodmmlfjaa

def endF : Int → List (Int × Int) → Int
  | lo, [] => lo
  | _, s :: l => endF (s.2 + 2) l
theorem endF_snoc (t : Int × Int) : ∀ (l : List (Int × Int)) (lo : Int), endF lo (l ++ [t]) = t.2 + 2
  | [], _ => rfl
  | s :: l, lo => endF_snoc t l (s.2 + 2)
theorem normF_app (r : List (Int × Int)) : ∀ (l : List (Int × Int)) (lo : Int), NormF lo (l ++ r) ↔ NormF lo l ∧ NormF (endF lo l) r
  | [], lo => by simp [NormF, endF]
  | s :: l, lo => by simp only [List.cons_append, NormF, endF, normF_app r l, and_assoc]
theorem insideB_app (l r : List (Int × Int)) (m : Int) : insideB (l ++ r) m = (insideB l m || insideB r m) := by simp [insideB]
theorem insideB_one (s : Int × Int) (m : Int) : insideB [s] m = (decide (s.1 ≤ m) && decide (m ≤ s.2)) := by simp [insideB]
theorem addL_norm {lo : Int} {out : List (Int × Int)} {s : Int × Int} (h : NormF lo out) (h1 : s.1 ≤ s.2) (hlo : lo ≤ s.1) (ht : ∀ t, t ∈ out → t.2 < s.1) : NormF lo (addL out s) := by
  rcases List.eq_nil_or_concat out with rfl | ⟨init, t, rfl⟩
  · exact ⟨hlo, h1, trivial⟩
  · rw [List.concat_eq_append] at h ht ⊢
    have h2 := (normF_app [t] init lo).1 h
    have h3 := ht t (by simp)
    rw [addL_last]
    split
    · rename_i he
      exact (normF_app _ init lo).2 ⟨h2.1, h2.2.1, by have := h2.2.2.1; simp only; omega, trivial⟩
    · exact (normF_app [s] _ lo).2 ⟨h, by rw [endF_snoc]; omega, h1, trivial⟩
theorem addL_inside {lo : Int} {out : List (Int × Int)} {s : Int × Int} (h : NormF lo out) (h1 : s.1 ≤ s.2) (m : Int) : insideB (addL out s) m = (insideB out m || (decide (s.1 ≤ m) && decide (m ≤ s.2))) := by
  rcases List.eq_nil_or_concat out with rfl | ⟨init, t, rfl⟩
  · simp [addL, insideB]
  · rw [List.concat_eq_append] at h ⊢
    have h2 := ((normF_app [t] init lo).1 h).2.2.1
    rw [addL_last]
    split
    · rename_i he
      rw [insideB_app, insideB_app, insideB_one, insideB_one, Bool.or_assoc]
      congr 1
      rw [Bool.eq_iff_iff]
      simp only [Bool.or_eq_true, Bool.and_eq_true, decide_eq_true_eq]
      omega
    · rw [insideB_app (init ++ [t]) [s], insideB_one]

/-! ### masks between borders -/
theorem maskB_congr {l : List D} {tel x y kx ky : Int} (h : ∀ d, d ∈ l → d.force tel x kx = d.force tel y ky) : maskB l tel x kx = maskB l tel y ky := by
  have : ∀ (l : List D) (m : List Bool), (∀ d, d ∈ l → d.force tel x kx = d.force tel y ky) → l.foldl (markB tel x kx) m = l.foldl (markB tel y ky) m := by
    intro l
    induction l with
    | nil => intro m _; rfl
    | cons d l ih =>
      intro m h
      rw [List.foldl_cons, List.foldl_cons]
      have e : markB tel x kx m d = markB tel y ky m d := by unfold markB; rw [h d (List.mem_cons_self ..)]
      rw [e]
      exact ih _ fun d hd => h d (List.mem_cons_of_mem _ hd)
  exact this l _ h
theorem mask_const {l : List D} {x y : Int} (hxy : x ≤ y) (hno : ∀ b, b ∈ bordB l → ¬(x < b ∧ b ≤ y)) (tel kn : Int) : maskB l tel y kn = maskB l tel x kn :=
  maskB_congr fun d hd => by
    rw [force_eq, force_eq]
    have h1 := hno d.frm (by simp only [bordB, List.cons_append, List.nil_append, List.mem_cons, List.mem_flatMap]; exact .inr (.inr ⟨d, hd, by simp⟩))
    have h2 := hno (d.til + 1) (by simp only [bordB, List.cons_append, List.nil_append, List.mem_cons, List.mem_flatMap]; exact .inr (.inr ⟨d, hd, by simp⟩))
    have e1 : decide (d.frm ≤ y) = decide (d.frm ≤ x) := decide_eq_decide.2 (by omega)
    have e2 : decide (y ≤ d.til) = decide (x ≤ d.til) := decide_eq_decide.2 (by omega)
    rw [e1, e2]

/-! ### the scan -/
theorem getD_lt {l : List Int} {k : Nat} (h : k < l.length) : l.getD k 0 = l[k] := by
  rw [List.getD_eq_getElem?_getD, List.getElem?_eq_getElem h]; rfl
theorem bord_step {l : List D} {k : Nat} (hk : k + 1 < (bordL l).length) : (bordL l).getD k 0 < (bordL l).getD (k + 1) 0 := by
  rw [getD_lt (by omega), getD_lt hk]
  exact List.pairwise_iff_getElem.1 (bordL_strict l) k (k + 1) (by omega) hk (Nat.lt_succ_self _)
theorem bord_gap {l : List D} {k : Nat} (hk : k + 1 < (bordL l).length) {b : Int} (hb : b ∈ bordB l) : ¬((bordL l).getD k 0 < b ∧ b < (bordL l).getD (k + 1) 0) := by
  rintro ⟨h1, h2⟩
  obtain ⟨i, hi, rfl⟩ := List.getElem_of_mem (bordL_mem_iff.2 hb)
  rw [getD_lt (by omega)] at h1
  rw [getD_lt hk] at h2
  have hp := List.pairwise_iff_getElem.1 (bordL_strict l)
  rcases Nat.lt_or_ge k i with h | h
  · rcases Nat.lt_or_ge i (k + 1) with h' | h'
    · omega
    · rcases Nat.eq_or_lt_of_le h' with e | h'
      · subst e; omega
      · have := hp (k + 1) i hk hi h'; omega
  · rcases Nat.eq_or_lt_of_le h with e | h'
    · subst e; omega
    · have := hp i k hi (by omega) h'; omega
theorem bord_zero {l : List D} (hl : ∀ d, d ∈ l → d.In) : (bordL l).getD 0 0 = 0 := by
  have h0 : (0 : Int) ∈ bordL l := bordL_mem_iff.2 (by simp [bordB])
  obtain ⟨i, hi, he⟩ := List.getElem_of_mem h0
  rw [getD_lt (bordL_pos l)]
  rcases Nat.eq_zero_or_pos i with rfl | h
  · exact he
  · have := List.pairwise_iff_getElem.1 (bordL_strict l) 0 i (bordL_pos l) hi h
    have h2 := (bordL_in hl 0).1
    rw [getD_lt (bordL_pos l)] at h2
    omega
theorem bord_last {l : List D} (hl : ∀ d, d ∈ l → d.In) : (bordL l).getD ((bordL l).length - 1) 0 = 38400 := by
  have h0 : (38400 : Int) ∈ bordL l := bordL_mem_iff.2 (by simp [bordB])
  have hp := bordL_pos l
  obtain ⟨i, hi, he⟩ := List.getElem_of_mem h0
  rw [getD_lt (by omega)]
  rcases Nat.lt_or_ge i ((bordL l).length - 1) with h | h
  · have := List.pairwise_iff_getElem.1 (bordL_strict l) i _ hi (by omega) h
    have h2 := (bordL_in hl ((bordL l).length - 1)).2
    rw [getD_lt (by omega)] at h2
    omega
  · have : i = (bordL l).length - 1 := by omega
    subst this; exact he

def differ (l : List D) (tel one two m : Int) : Prop := maskB l tel m one ≠ maskB l tel m two
instance (l : List D) (tel one two m : Int) : Decidable (differ l tel one two m) := inferInstanceAs (Decidable (_ ≠ _))

theorem scan_facts {l : List D} (hl : ∀ d, d ∈ l → d.In) (tel one two : Int) : ∀ k, k < (bordL l).length →
    NormF 0 (scanL l tel one two (bordL l) k) ∧ (∀ t, t ∈ scanL l tel one two (bordL l) k → t.2 < (bordL l).getD k 0) ∧
    ∀ m, insideB (scanL l tel one two (bordL l) k) m = decide (0 ≤ m ∧ m < (bordL l).getD k 0 ∧ differ l tel one two m)
  | 0, _ => ⟨trivial, fun t h => by simp [scanL] at h, fun m => by
      rw [bord_zero hl, decide_eq_false (by omega)]; rfl⟩
  | k + 1, hk => by
    obtain ⟨h1, h2, h3⟩ := scan_facts hl tel one two k (by omega)
    have hstep := bord_step hk
    have h0 := (bordL_in hl k).1
    have hconst : ∀ m, (bordL l).getD k 0 ≤ m → m < (bordL l).getD (k + 1) 0 → ∀ kn, maskB l tel m kn = maskB l tel ((bordL l).getD k 0) kn := fun m hm1 hm2 kn =>
      mask_const hm1 (fun b hb h => bord_gap hk hb ⟨h.1, by omega⟩) tel kn
    rw [scanL_succ]
    unfold stepL
    generalize (bordL l).getD k 0 = x at *
    generalize (bordL l).getD (k + 1) 0 = y at *
    split
    · rename_i he
      refine ⟨h1, fun t ht => by have := h2 t ht; omega, fun m => ?_⟩
      rw [h3]
      refine decide_eq_decide.2 ⟨fun h => ⟨h.1, by omega, h.2.2⟩, fun h => ⟨h.1, ?_, h.2.2⟩⟩
      rcases Int.lt_or_le m x with hmx | hmx
      · exact hmx
      · have hd := h.2.2
        unfold differ at hd
        rw [hconst m hmx h.2.1, hconst m hmx h.2.1] at hd
        exact absurd he hd
    · rename_i he
      refine ⟨addL_norm h1 (by simp only; omega) h0 h2, fun t ht => ?_, fun m => ?_⟩
      · rcases addL_mem ht with h | h
        · have := h2 t h; omega
        · rw [h]; simp only; omega
      · rw [addL_inside h1 (by simp only; omega), h3, Bool.eq_iff_iff]
        simp only [Bool.or_eq_true, Bool.and_eq_true, decide_eq_true_eq]
        constructor
        · rintro (h | h)
          · exact ⟨h.1, by omega, h.2.2⟩
          · refine ⟨by omega, by omega, ?_⟩
            unfold differ
            rw [hconst m h.1 (by omega), hconst m h.1 (by omega)]
            exact he
        · intro h
          rcases Int.lt_or_le m x with hmx | hmx
          · exact .inl ⟨h.1, hmx, h.2.2⟩
          · exact .inr ⟨hmx, by omega⟩

theorem changes_norm {l : List D} (hl : ∀ d, d ∈ l → d.In) (tel one two : Int) : NormF 0 (changesL l tel one two) :=
  (scan_facts hl tel one two _ (by have := bordL_pos l; omega)).1
theorem changes_inside {l : List D} (hl : ∀ d, d ∈ l → d.In) (tel one two m : Int) : insideB (changesL l tel one two) m = decide (0 ≤ m ∧ m < 38400 ∧ differ l tel one two m) := by
  have := (scan_facts hl tel one two ((bordL l).length - 1) (by have := bordL_pos l; omega)).2.2 m
  rw [bord_last hl] at this
  exact this
theorem changes_lt {l : List D} (hl : ∀ d, d ∈ l → d.In) (tel one two : Int) : ∀ t, t ∈ changesL l tel one two → t.2 < 38400 := by
  have := (scan_facts hl tel one two ((bordL l).length - 1) (by have := bordL_pos l; omega)).2.1
  rw [bord_last hl] at this
  exact this
/-- Lists of defects with the same masks have the same changes. -/
theorem changes_same {l l' : List D} (hl : ∀ d, d ∈ l → d.In) (hl' : ∀ d, d ∈ l' → d.In) {tel one two one' two' : Int} (h : ∀ m, 0 ≤ m → m < 38400 → (differ l tel one two m ↔ differ l' tel one' two' m)) : changesL l tel one two = changesL l' tel one' two' :=
  norm_unique (changes_norm hl _ _ _) (changes_norm hl' _ _ _) fun m => by
    rw [changes_inside hl, changes_inside hl']
    exact decide_eq_decide.2 ⟨fun ⟨a, b, c⟩ => ⟨a, b, (h m a b).1 c⟩, fun ⟨a, b, c⟩ => ⟨a, b, (h m a b).2 c⟩⟩
end Go.Proofs.Ytalijeodmmlfjaa
