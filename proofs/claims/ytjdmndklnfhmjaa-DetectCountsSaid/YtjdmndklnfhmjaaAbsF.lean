/- Appending; loads and stores by type; lengths. -/
import Derived.Test.YtjdmndklnfhmjaaAbsE
set_option linter.unusedVariables false
set_option linter.unusedSimpArgs false
set_option linter.unusedSectionVars false
namespace Go.Abs
open Go.RowKit

/-- The elements that an append takes: how many, and their cells. -/
def asource (H : Hp) (size : Nat) (x : Value) : Option (Nat × List Value) :=
  match x with
  | .slice (some a) m _ => if m = 0 then some (0, []) else (aload H a (m * size)).map fun cs => (m, cs)
  | .slice none m _ => if m = 0 then some (0, []) else none
  | .string s => some (s.size, (s.data.map fun b => Value.int .u8 b.toNat).toList)
  | _ => none

def aappend (P : Program) (H : Hp) (ts : List TypeId) (s x : Value) : Option (Value × Hp) :=
  match ts with
  | [t1, t2] =>
    match P.underlying t1, P.underlying t2 with
    | some (.slice e), some d2 =>
      (match d2 with | .int _ => none | _ => some ()).bind fun _ =>
      (tsz P e).bind fun size => (tbytes P e).bind fun bytes => (tzero P e).bind fun z => (asource H size x).bind fun p =>
      if z.cells.size = size ∧ bytes ≠ 0 ∧ p.2.all one = true ∧ (p.1 = 0 → p.2 = []) ∧ p.2.length = p.1 * size then
        match s with
        | .slice none n _ =>
          if n = 0 ∧ p.1 * bytes ≤ 140737488355328 then
            if p.1 = 0 then some (.slice none 0 0, H) else some (.slice (some ⟨H.next, 0, none⟩) p.1 p.1, H.new (.row p.2 true size))
          else none
        | .slice (some a) n _ =>
          match H.get a.block with
          | .row cs true k =>
            if k = size ∧ k ≠ 0 ∧ a.off + n * size = cs.length ∧ (n + p.1) * bytes ≤ 140737488355328 then
              some (.slice (some ⟨H.next, 0, none⟩) (n + p.1) (n + p.1), (H.set a.block .dead).new (.row (cs.drop a.off ++ p.2) true size))
            else none
          | _ => none
        | _ => none
      else none
    | _, _ => none
  | _ => none

section
variable {P : Program} {μ : Mu} {w : World}

theorem run_typeInfo_bytes {t : TypeId} {b : Nat} (h : tbytes P t = some b) : ∃ i, (typeInfo t).run P w = .ok i w ∧ i.bytes = b := by
  unfold tbytes at h
  cases hi : P.info? t with
  | none => simp [hi] at h
  | some i => simp only [hi, Option.map_some, Option.some.injEq] at h; exact ⟨i, by simp [typeInfo, hi], h⟩

theorem growBy_le (n : Nat) (hn : 257 ≤ n) : ∀ (r c : Nat), c ≤ 2 * n → Builtin.growBy n r c ≤ 2 * n
  | 0, c, h => by simpa [Builtin.growBy] using h
  | r + 1, c, h => by
    simp only [Builtin.growBy]
    split
    · exact h
    · exact growBy_le n hn r _ (by omega)
theorem nextslicecap_le (n c : Nat) (h : c < n) : Builtin.nextslicecap n c ≤ 2 * n := by
  unfold Builtin.nextslicecap
  split
  · omega
  · split
    · omega
    · exact growBy_le n (by omega) 4 c (by omega)

theorem asource_sound {base : Nat} {H : Hp} (h : Sim base μ H w) {size : Nat} {x x' : Value} {p : Nat × List Value} (hp : asource H size x = some p) (hx : VR μ x x') :
    (Builtin.lenOf x').run P w = .ok p.1 w ∧ ∃ cs', (Builtin.firstCells size p.1 x').run P w = .ok cs'.toArray w ∧ VRs μ p.2 cs' := by
  unfold asource at hp
  split at hp
  · rename_i a m _
    by_cases hm0 : m = 0
    · subst hm0
      simp only [if_true, Option.some.injEq] at hp
      subst hp
      simp only [VR] at hx
      obtain ⟨hsp, e, he, ⟨c, hnc, hf, rfl⟩ | ⟨hn0, a', rfl⟩⟩ := hx
      · exact ⟨rfl, [], by simp [Builtin.firstCells, loadCells, loadCellsFrom], by simp [VRs]⟩
      · exact ⟨rfl, [], by simp [Builtin.firstCells, loadCells, loadCellsFrom], by simp [VRs]⟩
    rw [if_neg hm0] at hp
    cases hl : aload H a (m * size) with
    | none => simp [hl] at hp
    | some cs =>
      simp only [hl, Option.map_some, Option.some.injEq] at hp
      subst hp
      simp only [VR] at hx
      obtain ⟨hsp, e, he, ⟨c, hnc, hf, rfl⟩ | ⟨hn0, a', rfl⟩⟩ := hx
      · obtain ⟨cs', h1, h2⟩ := h.load (P := P) hl he
        exact ⟨rfl, cs', h1, h2⟩
      · subst hn0
        refine ⟨rfl, [], ?_, ?_⟩
        · simp [Builtin.firstCells, loadCells, loadCellsFrom]
        · have : cs = [] := by
            unfold aload at hl
            split at hl
            · split at hl
              · simpa using hl.symm
              · cases hl
            · cases hl
          subst this
          simp [VRs]
  · rename_i m _
    split at hp
    · rename_i hm
      injection hp with hp
      subst hp; subst hm
      simp only [VR] at hx
      obtain ⟨_, rfl⟩ := hx
      exact ⟨rfl, [], rfl, by simp [VRs]⟩
    · cases hp
  · rename_i s
    injection hp with hp
    subst hp
    simp only [VR] at hx; subst hx
    refine ⟨rfl, (s.data.map fun b => Value.int .u8 b.toNat).toList, ?_, VRs_self ?_⟩
    · have e : s.extract 0 s.size = s := by simp
      simp only [Builtin.firstCells, e, Sem.run_pure]
    · rw [Array.toList_map]
      induction s.data.toList with
      | nil => rfl
      | cons b l ih => simp only [List.map_cons, flatL, ih, Bool.and_true]; rfl
  · cases hp

theorem aappend_sound {base : Nat} {H : Hp} (h : Sim base μ H w) {ts : List TypeId} {ty : TypeId} {s s' x x' : Value} {r : Value × Hp} (ha : aappend P H ts s x = some r) (hs : VR μ s s') (hx : VR μ x x') :
    ∃ v' w', (Builtin.append_ ts.toArray ty #[s', x']).run P w = .ok v' w' ∧ Done base μ w r.1 r.2 v' w' := by
  unfold aappend at ha
  split at ha
  · rename_i t1 t2
    split at ha
    · rename_i e d2 hu1 hu2
      split at ha
      · simp at ha
      · rename_i hd2
        simp only [Option.bind_some] at ha
        cases hsz : tsz P e with
        | none => simp [hsz] at ha
        | some size =>
          cases hby : tbytes P e with
          | none => simp [hsz, hby] at ha
          | some bytes =>
            cases hz : tzero P e with
            | none => simp [hsz, hby, hz] at ha
            | some z =>
              cases hp : asource H size x with
              | none => simp [hsz, hby, hz, hp] at ha
              | some p =>
                obtain ⟨hl1, cs', hl2, hl3⟩ := asource_sound (P := P) h hp hx
                obtain ⟨hz1, hz2⟩ := run_zeroValue_of (w := w) hz
                obtain ⟨ti, hti, htb⟩ := run_typeInfo_bytes (w := w) hby
                simp only [hsz, hby, hz, hp, Option.bind_some] at ha
                split at ha
                · rename_i hc
                  obtain ⟨hzs, hb0, h1p, hp0, hpl⟩ := hc
                  have hcl := hl3.length
                  have hm : (match d2 with | .int _ => true | _ => false) = false := by
                    cases d2 <;> first | rfl | (exact absurd rfl (hd2 _))
                  have key1 : ∀ (n c : Nat), n + p.1 ≤ c → ∀ (ad : Option Addr) (w' : World), (∀ a, ad = some a → (storeCells (a.add (n * size)) cs').run P w = .ok () w') → (ad = none → w' = w) →
                      (Builtin.append_ [t1, t2].toArray ty #[.slice ad n c, x']).run P w = .ok (.slice ad (n + p.1) c) w' := by
                    intro n c hroom ad w' hst hst0
                    cases ad with
                    | none =>
                      rw [hst0 rfl]
                      simp [Builtin.append_, run_underlying_of hu1, run_underlying_of hu2, run_sizeOf_of hsz, hm, hl1, hl2, hroom]
                    | some a =>
                      simp [Builtin.append_, run_underlying_of hu1, run_underlying_of hu2, run_sizeOf_of hsz, hm, hl1, hl2, hroom, hst a rfl]
                  have key2 : ∀ (n c : Nat), ¬ n + p.1 ≤ c → (n + p.1) * bytes ≤ 140737488355328 → ∀ (ad : Option Addr) (old cs' : List Value), (Builtin.firstCells size n (.slice ad n c)).run P w.drew = .ok old.toArray w.drew →
                      (Builtin.firstCells size p.1 x').run P w.drew = .ok cs'.toArray w.drew →
                      ∃ nc, n + p.1 ≤ nc ∧ (Builtin.append_ [t1, t2].toArray ty #[.slice ad n c, x']).run P w = .ok (.slice (some ⟨w.heap.size, 0, none⟩) (n + p.1) nc) (w.drew.alloc (.cells (old.toArray ++ cs'.toArray ++ Builtin.zeroCells z.cells (nc - (n + p.1))) e)) := by
                    intro n c hroom hbig ad old cs' hold hnew
                    have hcap := nextslicecap_le (n + p.1) c (by omega)
                    have hcap2 : ¬ Builtin.nextslicecap (n + p.1) c * bytes > 281474976710656 := by
                      have := Nat.mul_le_mul_right bytes hcap
                      rw [Nat.mul_assoc] at this
                      omega
                    have hzr := (run_zeroValue_of (w := w.drew) hz).1
                    obtain ⟨ti2, hti2, htb2⟩ := run_typeInfo_bytes (w := w.drew) hby
                    refine ⟨Question.cut (.appendCap (n + p.1) c e) (w.tape w.drawn (.appendCap (n + p.1) c e)), by simp only [Question.cut]; omega, ?_⟩
                    have hrow : ∀ (c : Array Value), (newRow e c).run P w.drew = .ok ⟨w.heap.size, 0, none⟩ (w.drew.alloc (.cells c e)) := fun c => run_newRow (w := w.drew)
                    simp [Builtin.append_, run_underlying_of hu1, run_underlying_of hu2, run_sizeOf_of hsz, hm, hl1, hroom, hti, htb, hb0, hcap2, Question.forced, hti2, htb2, hold, hnew, hzr, hrow]
                    congr 2
                    apply Array.toList_inj.1
                    simp
                  have hdrew : Sim base μ H w.drew := h.heap rfl
                  have hext : Ext base w w.drew := Ext.drew base w
                  obtain ⟨_, cs2, hnew, hv2⟩ := asource_sound (P := P) hdrew hp hx
                  have hcl2 := hv2.length
                  split at ha
                  · rename_i n _
                    split at ha
                    · rename_i hc2
                      obtain ⟨rfl, hbig⟩ := hc2
                      simp only [VR] at hs
                      obtain ⟨_, rfl⟩ := hs
                      split at ha
                      · rename_i hm0
                        injection ha with ha
                        subst ha
                        exact ⟨_, w, key1 0 0 (by omega) none w (fun _ h => by cases h) (fun _ => rfl), μ, Mu.le_refl μ, by rw [hm0]; exact VR_self rfl, h, Ext.refl _ _⟩
                      · rename_i hm0
                        injection ha with ha
                        subst ha
                        obtain ⟨nc, hnc, hrun⟩ := key2 0 0 (by omega) (by simpa using hbig) none [] cs2 rfl hnew
                        refine ⟨_, _, hrun, ?_⟩
                        have hd := newRow_slice hdrew (cs := p.2) (cs' := cs2) (s := size) (len := p.1) (c := nc) (arr := #[] ++ cs2.toArray ++ Builtin.zeroCells z.cells (nc - (0 + p.1))) e
                          ⟨(Builtin.zeroCells z.cells (nc - (0 + p.1))).toList, by simp⟩ hv2 h1p (by
                            rw [← Array.length_toList, Array.toList_append, List.length_append, run_zeroCells, zrow_length]
                            simp only [Array.toList_append, List.length_append, Array.length_toList, hzs, List.size_toArray, hcl2, hpl, Nat.zero_add] at hnc ⊢
                            have e1 : p.1 * size + (nc - p.1) * size = nc * size := by rw [← Nat.add_mul]; congr 1; omega
                            simp
                            omega) (by omega)
                        obtain ⟨ν, q1, q2, q3, q4⟩ := hd
                        exact ⟨ν, q1, by simpa using q2, q3, hext.trans q4⟩
                    · cases ha
                  · rename_i a n _
                    split at ha
                    · rename_i cs k hg
                      split at ha
                      · rename_i hc2
                        obtain ⟨rfl, hk0, hend, hbig⟩ := hc2
                        injection ha with ha
                        subst ha
                        simp only [VR] at hs
                        obtain ⟨en, arr, T, fz, he, hr, h1c, hfit, hcv, ho, _⟩ := h.row _ _ _ _ hg
                        obtain ⟨o1, rfl, o3, o4⟩ := ho rfl
                        have hlenc := hcv.length
                        have happ1 : (cs.drop a.off ++ p.2).all one = true := by
                          rw [List.all_append, Bool.and_eq_true]
                          exact ⟨List.all_eq_true.2 fun x hx => List.all_eq_true.1 h1c x (List.mem_of_mem_drop hx), h1p⟩
                        -- in place: the real row is written behind its cells
                        have inplace : ∀ c, n ≤ c → n + p.1 ≤ c → en.ro + a.off + c * k ≤ en.rsz → s' = .slice (some ⟨en.rb, en.ro + a.off, none⟩) n c →
                            ∃ v' w', (Builtin.append_ [t1, t2].toArray ty #[s', x']).run P w = .ok v' w' ∧ Done base μ w (.slice (some ⟨H.next, 0, none⟩) (n + p.1) (n + p.1)) ((H.set a.block .dead).new (.row (cs.drop a.off ++ p.2) true k)) v' w' := by
                          intro c hnc hroom hfc hse
                          subst hse
                          have hck : n * k + p.1 * k ≤ c * k := by rw [← Nat.add_mul]; exact Nat.mul_le_mul_right k hroom
                          have hst := run_storeCells_at (P := P) en.rb (en.ro + a.off + n * k) T cs' 0 arr w hr (by omega) (fun v hv' => by
                            obtain ⟨i, hi⟩ := List.getElem?_of_mem hv'
                            have hil : i < p.2.length := by have := (List.getElem?_eq_some_iff.1 hi).1; omega
                            obtain ⟨u, hu, hr'⟩ := hl3.get i p.2[i] (List.getElem?_eq_getElem hil)
                            obtain rfl : u = v := Option.some.inj (hu.symm.trans hi)
                            exact hr'.one (List.all_eq_true.1 h1p _ (List.getElem_mem hil)))
                          refine ⟨.slice (some ⟨en.rb, en.ro + a.off, none⟩) (n + p.1) c, w.setRow en.rb (arr.toList.take (en.ro + a.off + n * k + 0) ++ cs' ++ arr.toList.drop (en.ro + a.off + n * k + 0 + cs'.length)).toArray, key1 n c hroom (some ⟨en.rb, en.ro + a.off, none⟩) _ (fun a' ha' => ?_) (fun h => by cases h), ?_⟩
                          · injection ha' with ha'
                            subst ha'
                            rw [add_none]
                            exact hst
                          · have hsz2 : (arr.toList.take (en.ro + a.off + n * k + 0) ++ cs' ++ arr.toList.drop (en.ro + a.off + n * k + 0 + cs'.length)).length = arr.size := by
                              simp only [List.length_append, List.length_take, List.length_drop, Array.length_toList]
                              omega
                            have hg2 := h.grow (o := a.off) hg he hr (cs2 := cs.drop a.off ++ p.2) (arr2 := (arr.toList.take (en.ro + a.off + n * k + 0) ++ cs' ++ arr.toList.drop (en.ro + a.off + n * k + 0 + cs'.length)).toArray) happ1
                              (by rw [List.size_toArray, hsz2, List.length_append, List.length_drop]; omega)
                              (by
                                have e2 : (((arr.toList.take (en.ro + a.off + n * k + 0) ++ cs' ++ arr.toList.drop (en.ro + a.off + n * k + 0 + cs'.length)).toArray.toList.drop (en.ro + a.off)).take (cs.drop a.off ++ p.2).length) =
                                    ((arr.toList.drop en.ro).take cs.length).drop a.off ++ cs' := by
                                  have hM : en.ro + a.off + n * k + 0 = en.ro + cs.length := by omega
                                  rw [hM, List.append_assoc, List.drop_append_of_le_length (by rw [List.length_take, Array.length_toList (xs := arr), Nat.min_eq_left hfit]; omega), ← List.append_assoc,
                                    List.take_left' (by simp only [List.length_append, List.length_drop, List.length_take, Array.length_toList (xs := arr), Nat.min_eq_left hfit]; omega)]
                                  congr 1
                                  rw [List.take_drop, List.drop_drop]
                                rw [e2]
                                exact (hcv.drop a.off).append hl3)
                              (by rw [List.size_toArray, hsz2])
                            refine ⟨_, Mu.le_put h.fresh, ?_, hg2, ext_setRow _ _ _ o1 hr⟩
                            simp only [VR]
                            exact ⟨trivial, ⟨en.rb, en.ro + a.off, en.rsz, k⟩, by simp [Mu.put, Hp.next_set], .inl ⟨c, hroom, fun _ => by simpa using hfc, rfl⟩⟩
                        have realloc : ∀ (c : Nat) (ad : Addr), ¬ n + p.1 ≤ c → s' = .slice (some ad) n c → (∃ old : List Value, (Builtin.firstCells k n (.slice (some ad) n c)).run P w.drew = .ok old.toArray w.drew ∧ VRs μ (cs.drop a.off) old) →
                            ∃ v' w', (Builtin.append_ [t1, t2].toArray ty #[s', x']).run P w = .ok v' w' ∧ Done base μ w (.slice (some ⟨H.next, 0, none⟩) (n + p.1) (n + p.1)) ((H.set a.block .dead).new (.row (cs.drop a.off ++ p.2) true k)) v' w' := by
                          intro c ad hroom hse hold
                          subst hse
                          obtain ⟨old, hold, hov⟩ := hold
                          obtain ⟨nc, hnc, hrun⟩ := key2 n c hroom hbig (some ad) old cs2 hold hnew
                          refine ⟨_, _, hrun, ?_⟩
                          have hol := hov.length
                          have hd := newRow_slice (hdrew.kill a.block) (cs := cs.drop a.off ++ p.2) (cs' := old ++ cs2) (s := k) (len := n + p.1) (c := nc) (arr := old.toArray ++ cs2.toArray ++ Builtin.zeroCells z.cells (nc - (n + p.1))) e
                            ⟨(Builtin.zeroCells z.cells (nc - (n + p.1))).toList, by simp⟩ (hov.append hv2) happ1 (by
                              rw [← Array.length_toList, Array.toList_append, List.length_append, run_zeroCells, zrow_length]
                              simp only [Array.toList_append, List.length_append, Array.length_toList, hzs, List.size_toArray, hcl2, hpl, hol, List.length_drop]
                              have e1 : (n + p.1) * k + (nc - (n + p.1)) * k = nc * k := by rw [← Nat.add_mul]; congr 1; omega
                              rw [Nat.add_mul] at e1
                              omega) hnc
                          obtain ⟨ν, q1, q2, q3, q4⟩ := hd
                          exact ⟨ν, q1, q2, q3, hext.trans q4⟩
                        obtain ⟨hsp, en', he', ⟨c, hnc, hf, rfl⟩ | ⟨rfl, a', rfl⟩⟩ := hs
                        · obtain rfl : en' = en := Option.some.inj (he'.symm.trans he)
                          by_cases hroom : n + p.1 ≤ c
                          · exact inplace c hnc hroom (by have := hf (by omega); rw [o4] at this; exact this) rfl
                          · refine realloc c _ hroom rfl ?_
                            have hal : aload H a (n * k) = some ((cs.drop a.off).take (n * k)) := by
                              unfold aload
                              rw [hg]
                              exact if_pos (by omega)
                            obtain ⟨old, q1, q2⟩ := hdrew.load (P := P) hal he
                            rw [List.take_of_length_le (by rw [List.length_drop]; omega)] at q2
                            exact ⟨old, q1, q2⟩
                        · by_cases hroom : 0 + p.1 ≤ 0
                          · have hp10 : p.1 = 0 := by omega
                            have hp2 := hp0 hp10
                            have hc0 : cs.drop a.off = [] := List.eq_nil_of_length_eq_zero (by rw [List.length_drop]; omega)
                            have hcs0 : cs' = [] := List.eq_nil_of_length_eq_zero (by rw [hcl, hp2]; rfl)
                            refine ⟨.slice (some a') (0 + p.1) 0, w, key1 0 0 hroom (some a') w (fun b hb => by rw [hcs0]; rfl) (fun h => by cases h), ?_⟩
                            have hg2 := h.grow (o := a.off) hg he hr (cs2 := cs.drop a.off ++ p.2) (arr2 := arr) happ1 (by rw [hc0, hp2]; simp; omega) (by rw [hc0, hp2]; simp [VRs]) rfl
                            rw [setRow_self w en.rb arr T (0, 0) hr] at hg2
                            refine ⟨_, Mu.le_put h.fresh, ?_, hg2, Ext.refl _ _⟩
                            simp only [VR]
                            exact ⟨trivial, ⟨en.rb, en.ro + a.off, en.rsz, k⟩, by simp [Mu.put, Hp.next_set], .inr ⟨by omega, a', by rw [hp10]⟩⟩
                          · refine realloc 0 _ hroom rfl ⟨[], ?_, ?_⟩
                            · simp [Builtin.firstCells, loadCells, loadCellsFrom]
                            · have : cs.drop a.off = [] := List.eq_nil_of_length_eq_zero (by rw [List.length_drop]; omega)
                              rw [this]
                              simp [VRs]
                      · cases ha
                    · cases ha
                  · cases ha
                · cases ha
    · cases ha
  · cases ha

end
end Go.Abs
