/- Sorting nothing. -/
import Derived.Test.YtjdmndklnfhmjaaXc
import Derived.Shelf.SlSortCmp.NoneTotal
set_option linter.unusedVariables false
set_option linter.unusedSimpArgs false
set_option linter.unusedSectionVars false
namespace Go.Proofs.Ytjdmndklnfhmjaa
open Go.Abs Go.RowKit Go.Sort Go.Shelf Go.Lib
set_option maxHeartbeats 8000000
set_option maxRecDepth 100000
theorem sort_none (H : Hp) (a : Option Addr) (n : Nat) : ACalls Try.prog 41 [.slice a 0 n, .func (.func 27) #[] #[]] H (fun v H' => v = .tuple #[] ∧ H' = H) := by
  refine ⟨⟨_, Try.func41, by kernel_rfl, rfl⟩, fun base μ w args' hsim hv => ?_⟩
  obtain ⟨u, r, h1, h2, u2, r2, h3, ⟨f', c', h4, h5, h6⟩, h7⟩ := hv
  have h5 : f' = #[] := by simpa [VRa, VRs] using h5
  have h6 : c' = #[] := by simpa [VRa, VRs] using h6
  have h7 : r2 = [] := h7
  subst h5; subst h6; subst h4; subst h7; subst h3
  have hu : ∃ a' c, u = .slice a' 0 c := by
    cases a with
    | none => exact ⟨none, 0, h2.2⟩
    | some q =>
      obtain ⟨_, e, _, ⟨c, _, _, h⟩ | ⟨_, a', h⟩⟩ := h2
      · exact ⟨_, _, h⟩
      · exact ⟨_, _, h⟩
  obtain ⟨a', c, rfl⟩ := hu
  have ha : args' = #[.slice a' 0 c, .func (.func 27) #[] #[]] := by apply Array.toList_inj.1; rw [h1]
  rw [ha]
  refine (AnyF.slices_SortFunc_none Try.sortF a' c (.func (.func 27) #[] #[]) w).mono ?_
  rintro e w' ⟨rfl, rfl⟩
  exact ⟨.tuple #[], .tuple #[], H, rfl, ⟨rfl, rfl⟩, μ, fun _ _ h => h, ⟨#[], rfl, rfl⟩, hsim, Ext.refl _ _⟩
end Go.Proofs.Ytjdmndklnfhmjaa
