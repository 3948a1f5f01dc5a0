/- MasterLatest: the plain law. -/
import Derived.Test.YtejpfdhlpcgfkaaVm
import Derived.Test.YtejpfdhlpcgfkaaVn
set_option linter.unusedVariables false
set_option linter.unusedSimpArgs false
set_option linter.unusedSectionVars false
namespace Go.Proofs.Ytejpfdhlpcgfkaa
open Go.Abs Go.Sm
set_option maxHeartbeats 8000000
set_option maxRecDepth 100000
def rp2 (l : List Cal) (S : List Nat) (p : Nat) : Int := med ((S.take 5).map fun i => (lat l i).pix p)
theorem rp2_eq {l : List Cal} {w : Want} {S Y : List Nat} (hp : S.Perm (apps l w)) (hs : S.Pairwise (bfL l)) (hY : Order (usedL l w) Y) (p : Nat) : rp2 l S p = pixV (usedL l w) Y p := by
  obtain ⟨S', h1, h2, h3⟩ := order_S hY
  obtain rfl := S_unique hp hs h1 h2
  have e := congrArg (fun L => (L.take 5).map fun c => Cal.pix c p) h3
  simp only [← List.map_take, List.map_map] at e
  rw [rp2, pixV]
  congr 1
/-- Where the elements of the list lie behind the further one has come in. -/
def up (k i : Nat) : Nat := if i < k then i else i + 1
theorem up_lt {k i j : Nat} (h : i < j) : up k i < up k j := by unfold up; split <;> split <;> omega
theorem up_inj {k i j : Nat} (h : up k i = up k j) : i = j := by unfold up at h; split at h <;> split at h <;> omega
theorem up_ne {k i : Nat} : up k i ≠ k := by unfold up; split <;> omega
theorem lat_up {l : List Cal} {k i : Nat} {c : Cal} (hk : k ≤ l.length) (hi : i < l.length) : lat (insAt l k c) (up k i) = lat l i := by
  have hl := ins_len (c := c) hk
  have htl : (l.take k).length = k := by rw [List.length_take]; omega
  rw [lat_get hi, lat, List.getD_eq_getElem?_getD, insAt]
  unfold up
  split
  · rename_i h
    rw [List.getElem?_append_left (by simp only [List.length_append, htl, List.length_singleton]; omega), List.getElem?_append_left (by omega), List.getElem?_take_of_lt h, List.getElem?_eq_getElem hi]
    rfl
  · rename_i h
    rw [List.getElem?_append_right (by simp only [List.length_append, htl, List.length_singleton]; omega), List.getElem?_drop]
    simp only [List.length_append, htl, List.length_singleton]
    rw [show k + (i + 1 - (k + 1)) = i by omega, List.getElem?_eq_getElem hi]
    rfl
theorem lat_in {l : List Cal} {k : Nat} {c : Cal} (hk : k ≤ l.length) : lat (insAt l k c) k = c := by
  have htl : (l.take k).length = k := by rw [List.length_take]; omega
  rw [lat, List.getD_eq_getElem?_getD, insAt, List.getElem?_append_left (by simp only [List.length_append, htl, List.length_singleton]; omega), List.getElem?_append_right (by omega), htl, Nat.sub_self]
  rfl
theorem up_cover {k j n : Nat} (hk : k ≤ n) (h : j < n + 1) (hne : j ≠ k) : ∃ i, i < n ∧ up k i = j := by
  rcases Nat.lt_or_ge j k with h1 | h1
  · exact ⟨j, by omega, by unfold up; rw [if_pos h1]⟩
  · exact ⟨j - 1, by omega, by unfold up; rw [if_neg (by omega)]; omega⟩
theorem latest_S {l : List Cal} {w : Want} {k : Nat} {c : Cal} (hk : k ≤ l.length) (ha : w.app c = true) (h5 : 5 ≤ l.countP fun x => w.app x && decide (c.at_ < x.at_)) {S S' : List Nat} (hp : S.Perm (apps l w)) (hs : S.Pairwise (bfL l)) (hp' : S'.Perm (apps (insAt l k c) w)) (hs' : S'.Pairwise (bfL (insAt l k c))) (p : Nat) :
    rp2 (insAt l k c) S' p = rp2 l S p := by
  have hl := ins_len (c := c) hk
  have hlk := lat_in (c := c) hk
  have hn' : S'.Nodup := hp'.nodup_iff.2 (apps_nodup _ _)
  have hkS : k ∈ S' := hp'.mem_iff.2 (mem_apps.2 ⟨by omega, by rw [hlk]; exact ha⟩)
  obtain ⟨P, Q, rfl⟩ := List.append_of_mem hkS
  have hkn : k ∉ P ++ Q ∧ (P ++ Q).Nodup := by
    have := (List.perm_middle (l₁ := P) (l₂ := Q) (a := k)).nodup_iff.1 hn'
    exact List.nodup_cons.1 this
  have hmem : ∀ j, j ∈ P ++ Q ↔ j ≠ k ∧ j < l.length + 1 ∧ w.app (lat (insAt l k c) j) = true := fun j => by
    have h1 : j ∈ P ++ k :: Q ↔ j < (insAt l k c).length ∧ w.app (lat (insAt l k c) j) = true := hp'.mem_iff.trans mem_apps
    rw [hl] at h1
    simp only [List.mem_append, List.mem_cons] at h1 hkn ⊢
    constructor
    · intro h
      exact ⟨fun e => hkn.1 (e ▸ h), h1.1 (h.elim .inl fun h => .inr (.inr h))⟩
    · rintro ⟨h2, h3⟩
      rcases h1.2 h3 with h4 | h4 | h4
      · exact .inl h4
      · exact absurd h4 h2
      · exact .inr h4
  have hin : ∀ i, i ∈ S → i < l.length ∧ w.app (lat l i) = true := fun i hi => mem_apps.1 (hp.mem_iff.1 hi)
  have hsm : (S.map (up k)).Pairwise (bfL (insAt l k c)) := by
    rw [List.pairwise_map]
    refine hs.imp_of_mem fun {a b} h1 h2 h => ?_
    rw [bfL, lat_up hk (hin a h1).1, lat_up hk (hin b h2).1]
    rcases h with h | ⟨h, h3⟩
    · exact .inl h
    · exact .inr ⟨h, up_lt h3⟩
  have hnm : (S.map (up k)).Nodup := by
    rw [List.Nodup, List.pairwise_map]
    exact (hp.nodup_iff.2 (apps_nodup _ _)).imp fun h e => h (up_inj e)
  have hsPQ : (P ++ Q).Pairwise (bfL (insAt l k c)) := hs'.sublist (List.Sublist.append (List.Sublist.refl P) (List.sublist_cons_self k Q))
  have hperm : (P ++ Q).Perm (S.map (up k)) := by
    rw [List.perm_ext_iff_of_nodup hkn.2 hnm]
    intro j
    rw [hmem j, List.mem_map]
    constructor
    · rintro ⟨h1, h2, h3⟩
      obtain ⟨i, hi, rfl⟩ := up_cover hk h2 h1
      rw [lat_up hk hi] at h3
      exact ⟨i, hp.mem_iff.2 (mem_apps.2 ⟨hi, h3⟩), rfl⟩
    · rintro ⟨i, hi, rfl⟩
      obtain ⟨h1, h2⟩ := hin i hi
      exact ⟨up_ne, by unfold up; split <;> omega, by rw [lat_up hk h1]; exact h2⟩
  have heq : P ++ Q = S.map (up k) := List.Perm.eq_of_pairwise (le := bfL (insAt l k c)) (fun a b _ _ h h' => (bfL_anti h h').elim) hsPQ hsm hperm
  have hP5 : 5 ≤ P.length := by
    have hQ : ∀ j, j ∈ Q → ¬ c.at_ < (lat (insAt l k c) j).at_ := fun j hj h => by
      have h1 := (List.pairwise_cons.1 (List.pairwise_append.1 hs').2.1).1 j hj
      rw [bfL, hlk] at h1
      omega
    have h1 : (P ++ k :: Q).countP (fun j => decide (c.at_ < (lat (insAt l k c) j).at_)) = P.countP (fun j => decide (c.at_ < (lat (insAt l k c) j).at_)) := by
      have h0 : Q.countP (fun j => decide (c.at_ < (lat (insAt l k c) j).at_)) = 0 := List.countP_eq_zero.2 fun j hj => by simpa using hQ j hj
      rw [List.countP_append, List.countP_cons, h0, hlk]
      simp
    have h2 := hp'.countP_eq (fun j => decide (c.at_ < (lat (insAt l k c) j).at_))
    have h3 : (apps (insAt l k c) w).countP (fun j => decide (c.at_ < (lat (insAt l k c) j).at_)) = (insAt l k c).countP fun x => w.app x && decide (c.at_ < x.at_) := by
      conv => rhs; rw [← lat_range (insAt l k c)]
      rw [List.countP_map, apps, List.countP_filter]
      congr 1
      funext j
      simp only [Function.comp, Bool.and_comm]
    have h4 : l.countP (fun x => w.app x && decide (c.at_ < x.at_)) ≤ (insAt l k c).countP fun x => w.app x && decide (c.at_ < x.at_) := by
      conv => lhs; rw [← List.take_append_drop k l]
      rw [insAt, List.countP_append, List.countP_append, List.countP_append]
      omega
    have h6 := List.countP_le_length (p := fun j => decide (c.at_ < (lat (insAt l k c) j).at_)) (l := P)
    omega
  rw [rp2, rp2]
  congr 1
  rw [List.take_append_of_le_length hP5]
  have e1 : (S.map (up k)).take 5 = P.take 5 := by rw [← heq, List.take_append_of_le_length hP5]
  rw [← e1, ← List.map_take, List.map_map]
  refine List.map_congr_left fun i hi => ?_
  simp only [Function.comp]
  rw [lat_up hk (hin i (List.mem_of_mem_take hi)).1]
theorem used_ne {l : List Cal} {w : Want} {x : Cal} (h : x ∈ l) (ha : w.app x = true) : usedL l w ≠ [] := fun e => by
  have : x ∈ usedL l w := List.mem_filter.2 ⟨List.mem_reverse.2 h, ha⟩
  rw [e] at this; cases this
theorem masterR_latest {l : List Cal} {w : Want} {k : Nat} {c : Cal} (hk : k ≤ l.length) (hc : c.ok = true) (ha : w.app c = true) (h5 : 5 ≤ l.countP fun x => w.app x && decide (c.at_ < x.at_)) {v v' : Value} (h : MasterR l w v) (h' : MasterR (insAt l k c) w v') : v' = v := by
  have ho := ins_okAll (l := l) (k := k) (w := w) hc
  obtain ⟨x, hx, hxa⟩ := List.countP_pos_iff.1 (show 0 < l.countP fun x => w.app x && decide (c.at_ < x.at_) by omega)
  rw [Bool.and_eq_true] at hxa
  have hu := used_ne hx hxa.1
  have hu' : usedL (insAt l k c) w ≠ [] := used_ne (x := c) (by simp [insAt]) ha
  rcases h with ⟨h1, rfl⟩ | ⟨h1, h2, rfl⟩ | ⟨h1, h2, Y, hY, rfl⟩ <;> rcases h' with ⟨g1, rfl⟩ | ⟨g1, g2, rfl⟩ | ⟨g1, g2, Y', hY', rfl⟩
  · rfl
  · exact absurd g2 hu'
  · rw [ho, h1] at g1; cases g1
  · exact absurd h2 hu
  · rfl
  · exact absurd h2 hu
  · rw [ho, h1] at g1; cases g1
  · exact absurd g2 hu'
  · obtain ⟨S, s1, s2⟩ := exists_S l w
    obtain ⟨S', t1, t2⟩ := exists_S (insAt l k c) w
    have e := fun p => (rp2_eq t1 t2 hY' p).symm.trans ((latest_S hk ha h5 s1 s2 t1 t2 p).trans (rp2_eq s1 s2 hY p))
    rw [e, e, e, e]
end Go.Proofs.Ytejpfdhlpcgfkaa
