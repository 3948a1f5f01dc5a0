/- The row of DefectMasks. -/
import Derived.Test.YtalijeodmmlfjaaRows
import Derived.Test.YtalijeodmmlfjaaAbsR
import Derived.Test.YtalijeodmmlfjaaWg
import Derived.WalkKit
import Derived.ProofKit
import Derived.OpenShut
import Derived.ChangeOld
import Derived.Below
set_option linter.unusedVariables false
set_option linter.unusedSimpArgs false
set_option linter.unusedSectionVars false
namespace Go.Proofs.Ytalijeodmmlfjaa
open Go.ChangeShapes Go.WideShapes Go.ChangeAt Go.RowKit
theorem own : ownKnob Try.prog.godebug = none := by kernel_rfl
theorem laidOut : laidOutB Try.prog = true := by kernel_rfl
theorem cells36 : Try.prog.cellsOf 36 = 5 := by kernel_rfl
theorem cells3 : Try.prog.cellsOf 3 = 1 := by kernel_rfl
theorem fields36 : ((Try.prog.fieldsOf 36).map fun f => (f.type, f.offset)) = #[(3, 0), (3, 1), (3, 2), (3, 3), (3, 4)] := by kernel_rfl
theorem elem36 {H0 : Type} {enc : TypeId × Value → H0} {W : World} (fuel : Nat) (cs : List Value) (x : DataW H0 × List MemPlace) (h : DataW.trod enc Try.prog W 0 (fun _ => true) true fuel 36 cs = some x) : ∃ d : D, cs = d.cells := by
  have hsz : (Try.prog.fieldsOf 36).size = 5 := by
    have := congrArg Array.size fields36
    simpa using this
  obtain ⟨zs, hl, rfl⟩ := Abs.struct_ints (m := 5) u36 cells36 (by omega) (fun i hi => by
    have hi2 : i < (Try.prog.fieldsOf 36).size := by omega
    refine ⟨(Try.prog.fieldsOf 36)[i], Array.getElem?_eq_getElem hi2, ?_⟩
    have := congrArg (·[i]?) fields36
    simp only [Array.getElem?_map, Array.getElem?_eq_getElem hi2, Option.map_some] at this
    match i, hi with
    | 0, _ => simp at this; rw [this.1, this.2]; exact ⟨rfl, u3, cells3⟩
    | 1, _ => simp at this; rw [this.1, this.2]; exact ⟨rfl, u3, cells3⟩
    | 2, _ => simp at this; rw [this.1, this.2]; exact ⟨rfl, u3, cells3⟩
    | 3, _ => simp at this; rw [this.1, this.2]; exact ⟨rfl, u3, cells3⟩
    | 4, _ => simp at this; rw [this.1, this.2]; exact ⟨rfl, u3, cells3⟩) h
  match zs, hl with
  | [a, b, c, d, e], _ => exact ⟨⟨a, b, c, d, e⟩, rfl⟩

set_option maxRecDepth 100000 in
theorem masks_lifted (os : Os) (started : os.Started) (H : Type) (enc : TypeId × Value → H) :
    ReturnsInHanded {} Try.checked os 4 .any (Rows.defectMasksSpec.pre6 enc Try.prog Try.f4 Rows.defectMasksRow.domain false) (Rows.defectMasksSpec.post enc Try.prog Try.f4 false true false false) := by
  refine returnsInHanded_of_change (C := Try.checked) own started (by kernel_rfl) Try.func4
    (ChangeSpec.witness6 (enc := enc) (C := Try.checked) false ⟨#[], #[.slice none 0 0, .int .i64 0, .int .i64 0, .int .i64 0, .int .i64 0], []⟩ 8 (by kernel_rfl) (by kernel_rfl) (by kernel_rfl) (by kernel_rfl)) ?_
  intro W base args ds gs before hval0 hW hcnd _
  have hval : ∀ (j : Nat) t v, Try.f4.params[j]? = some t → args[j]? = some v → Value.okWide Try.prog W .any base t v := hval0
  have hW' := hW
  obtain ⟨p, q, hA0, hV, rfl, hfz, hnd⟩ := hW
  have hA : DataW.TrodAll enc Try.prog W 0 (fun _ => true) true Try.f4.params.toList args.toList ds p := hA0
  rw [Try.params4] at hA hval
  obtain ⟨v0, vs0, d0, ds0, p0, q0, hargs, rfl, rfl, h0, r0⟩ := trodAll_cons hA
  obtain ⟨v1, vs1, d1, ds1, p1, q1, rfl, rfl, rfl, h1, r1⟩ := trodAll_cons r0
  obtain ⟨v2, vs2, d2, ds2, p2, q2, rfl, rfl, rfl, h2, r2⟩ := trodAll_cons r1
  obtain ⟨v3, vs3, d3, ds3, p3, q3, rfl, rfl, rfl, h3, r3⟩ := trodAll_cons r2
  obtain ⟨v4, vs4, d4, ds4, p4, q4, rfl, rfl, rfl, h4, r4⟩ := trodAll_cons r3
  obtain ⟨rfl, rfl, rfl⟩ := trodAll_nil r4
  obtain rfl : args = #[v0, v1, v2, v3, v4] := by cases args; simp_all
  obtain ⟨rfl, rfl⟩ := trodVars_none hV
  obtain ⟨a0, len0, cap0, rfl⟩ := okWide_slice u22 (hval 0 22 v0 rfl rfl)
  have lt0 : ∀ x ∈ p0, x.block < W.heap.size := by obtain ⟨m, hm⟩ := h0; exact DataW.trod_lt m _ _ _ hm
  obtain ⟨a1, rfl, rfl, rfl, w1⟩ := open_int u3 (hval 1 3 v1 rfl rfl) h1
  obtain ⟨a2, rfl, rfl, rfl, w2⟩ := open_int u3 (hval 2 3 v2 rfl rfl) h2
  obtain ⟨a3, rfl, rfl, rfl, w3⟩ := open_int u3 (hval 3 3 v3 rfl rfl) h3
  obtain ⟨a4, rfl, rfl, rfl, w4⟩ := open_int u3 (hval 4 3 v4 rfl rfl) h4
  clear hA0 hval0
  obtain ⟨ν, H2, aa, rows, hrl, hmu, hsim, _, hvr, hel⟩ := Abs.open_rows (f := D.cells) u22 cells36 (by decide) (fun _ => rfl) (fun _ => rfl) (fun _ => rfl) elem36 h0 (Abs.Sim.start W)
  refine ((masks_spec H2 aa rows a1 a2 a3 a4 hel).2 W.heap.size ν W #[.slice a0 len0 cap0, .int .i64 a1, .int .i64 a2, .int .i64 a3, .int .i64 a4] hsim ⟨_, _, rfl, hvr, _, _, rfl, rfl, _, _, rfl, rfl, _, _, rfl, rfl, _, _, rfl, rfl, rfl⟩).mono fun e W' ⟨v, v', H', he, hQ, ν', _, hv, _, hx⟩ => ?_
  subst hQ
  have hv2 : v' = .bool true := hv
  subst hv2
  subst he
  have bel := hx.below
  exact ⟨_, rfl, _, _, _, [], _, [], hW', trodAll_mk1 (shut_bool u4 _), trodAll_cons_mk (Below.trod laidOut (by kernel_rfl) (of_decide_eq_true (by kernel_rfl)) h0 bel lt0) (trodAll_cons_mk (shut_int u3 w1) (trodAll_cons_mk (shut_int u3 w2) (trodAll_cons_mk (shut_int u3 w3) (trodAll_cons_mk (shut_int u3 w4) trodAll_mk0)))), rfl, bel.frame _, fun h => by cases h⟩

theorem masks_holds : Rows.DefectMasksSaid :=
  OpenClaim.holds_of_wide 4 Try.f4 rfl rfl rfl rfl rfl rfl rfl ⟨rfl, rfl, rfl, rfl, rfl⟩ rfl rfl rfl rfl rfl (by kernel_rfl) Try.func4 (by kernel_rfl)
    (of_decide_eq_true (by kernel_rfl)) (by unfold Func.isWrapper; first | (rw [if_pos (by decide +kernel)]; kernel_rfl) | (rw [if_neg (by decide +kernel)]; exact ⟨rfl, rfl⟩))
    (fun os started H enc _ => masks_lifted os started H enc)
end Go.Proofs.Ytalijeodmmlfjaa
#print axioms Go.Proofs.Ytalijeodmmlfjaa.masks_holds
