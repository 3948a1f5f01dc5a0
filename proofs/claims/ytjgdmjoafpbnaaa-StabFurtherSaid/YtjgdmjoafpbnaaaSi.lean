/- Sorting spans by their ends, by the library's contract. -/
import Derived.Test.YtjgdmjoafpbnaaaAbsX
import Derived.Test.YtjgdmjoafpbnaaaLaid
import Derived.Test.YtjgdmjoafpbnaaaSe

import Derived.Shelf.SlSortCmp.NoneTotal
import Derived.WalkKit
set_option linter.unusedVariables false
set_option linter.unusedSimpArgs false
set_option linter.unusedSectionVars false
namespace Go.Proofs.Ytjgdmjoafpbnaaa
open Go.Abs Go.RowKit Go.Sort Go.Shelf Go.Lib
set_option maxHeartbeats 8000000
set_option maxRecDepth 100000

abbrev OkSp := { s : Sp // okS s = true }
instance : Inhabited OkSp := ⟨⟨(0, 0), rfl⟩⟩
def spo (s : OkSp) : List Value := spc s.1
def cfo (x y : OkSp) : Int := x.1.2 - y.1.2
theorem okSp_in (s : OkSp) : -39399 ≤ s.1.1 ∧ s.1.2 ≤ 39399 ∧ s.1.1 ≤ s.1.2 := okS_in s.2
theorem isAgg34 (w : World) : (isAgg 34).run Try.prog w = .ok true w := run_isAgg_of tg34
theorem sizeOf34 (w : World) : (Go.sizeOf 34).run Try.prog w = .ok 2 w := run_sizeOf_of ts34
theorem closure24 (x y : OkSp) (W : World) : Calls Try.prog 24 #[.agg #[.int .i64 x.1.1, .int .i64 x.1.2], .agg #[.int .i64 y.1.1, .int .i64 y.1.2]] W fun e w' => e = .returned (.int .i64 (cfo x y)) ∧ ∃ q os', w' = grow (W.drewN q) os' := by
  have hx := okSp_in x
  have hy := okSp_in y
  have hwr : IntKind.i64.wrap (x.1.2 - y.1.2) = x.1.2 - y.1.2 := wrap_i64 (by omega) (by omega)
  unfold cfo
  generalize x.1.1 = a at *
  generalize x.1.2 = b at *
  generalize y.1.1 = c at *
  generalize y.1.2 = d at *
  go_enter Try.func24, Try.ntmps24
  go_wp2
  go_ret
  refine ⟨?_, 0, _, by rw [alloc_eq_grow, alloc_eq_grow, grow_grow]; rfl⟩
  rfl
theorem lt_t {x y : OkSp} (h : ltOf cfo x y = true) : x.1.2 < y.1.2 := by
  have h1 : cfo x y < 0 := of_decide_eq_true h
  have h2 : x.1.2 - y.1.2 < 0 := h1
  omega
theorem lt_f {x y : OkSp} (h : ltOf cfo x y = false) : y.1.2 ≤ x.1.2 := by
  have h1 : ¬cfo x y < 0 := of_decide_eq_false h
  have h2 : ¬x.1.2 - y.1.2 < 0 := h1
  omega
theorem lt_mk {x y : OkSp} (h : x.1.2 < y.1.2) : ltOf cfo x y = true := by
  have h2 : x.1.2 - y.1.2 < 0 := by omega
  exact decide_eq_true h2
theorem ge_mk {x y : OkSp} (h : y.1.2 ≤ x.1.2) : ltOf cfo x y = false := by
  have h2 : ¬x.1.2 - y.1.2 < 0 := by omega
  exact decide_eq_false h2
theorem swo24 : SWO (ltOf cfo) where
  irrefl x := ge_mk (Int.le_refl _)
  trans x y z h1 h2 := lt_mk (Int.lt_trans (lt_t h1) (lt_t h2))
  ntrans x y z h1 h2 := ge_mk (Int.le_trans (lt_f h2) (lt_f h1))
theorem spo_len (x : OkSp) : (spo x).length = 2 := rfl
theorem sort_ok {H : Hp} {b kk : Nat} {l : List OkSp} (hg : H.get b = .row (l.map spo).flatten true kk) (hn : l.length ≠ 0) (hs : l.length < 4611686018427387904) :
    ACalls Try.prog 23 [.slice (some ⟨b, 0, none⟩) l.length l.length, .func (.func 24) #[] #[]] H (fun v H' => v = .tuple #[] ∧ ∃ l' : List OkSp, l'.Perm l ∧ l'.Pairwise (fun x y => ltOf cfo y x = false) ∧ H' = H.set b (.row (l'.map spo).flatten true kk)) :=
  sort_struct_calls spo_len (fun _ => rfl) (fun _ => rfl) ⟨_, Try.func23, by kernel_rfl, rfl⟩ (fun blk off cap d w h1 h2 h3 =>
    AnyQ.slices_SortFunc Try.sortF 2 isAgg34 sizeOf34 spo spo_len (fun x v hv => by simp [spo, spc] at hv; rcases hv with rfl | rfl <;> rfl) cfo swo24 24 #[] blk off cap d w (enters_of Try.func24 (by kernel_rfl) rfl) (fun _ _ _ _ x y => closure24 x y _) h1 h2 h3) hg hn hs
theorem sort_none (H : Hp) : ACalls Try.prog 23 [.slice none 0 0, .func (.func 24) #[] #[]] H (fun v H' => v = .tuple #[] ∧ H' = H) := by
  refine ⟨⟨_, Try.func23, by kernel_rfl, rfl⟩, fun base μ w args' hsim hv => ?_⟩
  obtain ⟨u, r, h1, ⟨_, h2⟩, u2, r2, h3, ⟨f', c', h4, h5, h6⟩, h7⟩ := hv
  have h5 : f' = #[] := by simpa [VRa, VRs] using h5
  have h6 : c' = #[] := by simpa [VRa, VRs] using h6
  have h7 : r2 = [] := h7
  subst h5; subst h6; subst h4; subst h7; subst h3; subst h2
  have ha : args' = #[.slice none 0 0, .func (.func 24) #[] #[]] := by apply Array.toList_inj.1; rw [h1]
  rw [ha]
  refine (AnyF.slices_SortFunc_none Try.sortF none 0 (.func (.func 24) #[] #[]) w).mono ?_
  rintro e w' ⟨rfl, rfl⟩
  exact ⟨.tuple #[], .tuple #[], H, rfl, ⟨rfl, rfl⟩, μ, fun _ _ h => h, ⟨#[], rfl, rfl⟩, hsim, Ext.refl _ _⟩

/-- The same, told of spans that are valid. -/
theorem sort_spec {H : Hp} {b kk : Nat} {l : List Sp} (hv : ∀ s, s ∈ l → okS s = true) (hg : H.get b = .row (l.map spc).flatten true kk) (hn : l.length ≠ 0) (hs : l.length < 4611686018427387904) :
    ACalls Try.prog 23 [.slice (some ⟨b, 0, none⟩) l.length l.length, .func (.func 24) #[] #[]] H (fun v H' => v = .tuple #[] ∧ ∃ l' : List Sp, l'.Perm l ∧ l'.Pairwise (fun x y => x.2 ≤ y.2) ∧ H' = H.set b (.row (l'.map spc).flatten true kk)) := by
  have hL : (l.attachWith _ hv).map Subtype.val = l := List.attachWith_map_subtype_val _
  generalize l.attachWith _ hv = L at hL
  subst hL
  have e : ∀ L : List OkSp, ((L.map Subtype.val).map spc).flatten = (L.map spo).flatten := fun L => by rw [List.map_map]; rfl
  rw [e] at hg
  rw [List.length_map] at hn hs ⊢
  refine (sort_ok hg hn hs).mono ?_
  rintro _ _ ⟨rfl, l', h1, h2, rfl⟩
  refine ⟨rfl, l'.map Subtype.val, h1.map _, ?_, by rw [e]⟩
  rw [List.pairwise_map]
  exact h2.imp fun {x y} h => lt_f h
end Go.Proofs.Ytjgdmjoafpbnaaa
