/- The law FnExactCodeSize: for every input the law returns true and each argument reads behind the call as it read before; no condition. -/
import Derived.Test.YtlhbcgmmgofcgaaRows
import Derived.Test.YtlhbcgmmgofcgaaQFnExactCodeSizey
import Derived.Test.YtlhbcgmmgofcgaaPureFnExactCodeSize
import Derived.WalkKit
import Derived.ProofKit
import Derived.OpenShut
import Derived.ShutString
import Derived.ChangeOld
import Derived.Below
import Derived.SizedLaws
import Derived.Carry
namespace Go.Proofs.Ytlhbcgmmgofcgaa.fnExactCodeSize
open Go.ChangeShapes Go.WideShapes Go.ChangeAt Go.RowKit Go.Proofs.Ytlhbcgmmgofcgaa Go.Proofs.Ytlhbcgmmgofcgaa.QFnExactProgramOK Go.Proofs.Ytlhbcgmmgofcgaa.GoalFnExactCodeSize Go.Proofs.YtlhbcgmmgofcgaaW.PrintWords
open Go.ChangeMaps (open_string shut_string)
set_option linter.unusedVariables false
theorem own : ownKnob Try.prog.godebug = none := by kernel_rfl
theorem laidOut : laidOutB Try.prog = true := by kernel_rfl
set_option maxRecDepth 100000 in
theorem lifted (os : Os) (started : os.Started) (H : Type) (enc : TypeId × Value → H) :
    ReturnsInHanded {} Try.checked os 4 .any (Rows.fnExactCodeSizeSpec.pre6 enc Try.prog Try.f4 Rows.fnExactCodeSizeRow.domain false) (Rows.fnExactCodeSizeSpec.post enc Try.prog Try.f4 false true false false) := by
  refine returnsInHanded_of_change_sized (C := Try.checked) own started (by kernel_rfl) Try.func4
    (ChangeSpec.witness6 (enc := enc) (C := Try.checked) false ⟨#[], #[.agg #[.slice none 0 0]], []⟩ 8 (by kernel_rfl) (by kernel_rfl) (by kernel_rfl) (by kernel_rfl)) ?_
  intro W base args ds gs before hval0 hW hcnd _ _
  have hval : ∀ (j : Nat) t v, Try.f4.params[j]? = some t → args[j]? = some v → Value.okWide Try.prog W .any base t v := hval0
  have hW' := hW
  obtain ⟨p, q, hA0, hV, rfl, hfz, hnd⟩ := hW
  have hA : DataW.TrodAll enc Try.prog W 0 (fun _ => true) true Try.f4.params.toList args.toList ds p := hA0
  rw [Try.params4] at hA hval
  obtain ⟨v0, vs0, d0, ds0, p0, q0, hargs, rfl, rfl, h0, r0⟩ := trodAll_cons hA
  obtain ⟨rfl, rfl, rfl⟩ := trodAll_nil r0
  obtain rfl : args = #[v0] := by cases args; simp_all
  obtain ⟨rfl, rfl⟩ := trodVars_none hV
  have k0 := h0
  have lt0 : ∀ x ∈ p0, x.block < W.heap.size := by obtain ⟨m, hm⟩ := k0; exact DataW.trod_lt m _ _ _ hm
  obtain ⟨cs0, rfl, hz0⟩ := okWide_struct Try.underlying24 (hval 0 24 v0 rfl rfl)
  obtain ⟨fuel0, hf0⟩ := h0
  obtain ⟨b0, hb0, w0⟩ := (Opn.opens_struct Try.underlying24 (by kernel_rfl) (Opn.opensF_one rfl (Opn.opens_slice Try.underlying22 (by kernel_rfl) opens93))).2 _ _ _ _ _ _ _ _ _ hf0
  obtain ⟨A0_0, c0_0, hcs0, hc0_0, hr0_0⟩ := hb0
  obtain rfl : cs0 = #[.slice A0_0 (b0).length c0_0] := by
    have hz : cs0.toList = [.slice A0_0 (b0).length c0_0] := by simpa [Value.cells] using hcs0
    exact Array.toList_inj.1 hz
  have w0_0 := w0
  clear hA0 hval0
  obtain ⟨k, h⟩ := Pure.FnExactCodeSize (b0) w0_0
  refine (laws_FnExactCodeSize.calls k A0_0 c0_0 (b0) true W hr0_0 hc0_0 h).mono fun e W' ⟨he, bel⟩ => ?_
  subst he
  exact ⟨_, rfl, _, _, _, [], _, [], hW', trodAll_mk1 (shut_bool Try.underlying4 _), (trodAll_cons_mk (Below.trod laidOut (by kernel_rfl) (of_decide_eq_true (by kernel_rfl)) k0 bel lt0) trodAll_mk0), rfl, bel.frame _, fun h => by cases h⟩
theorem over : Rows.fnExactCodeSizeRow.holds Try.pinned (OpenSpec.ofChange Rows.fnExactCodeSizeSpec) :=
  OpenClaim.holds_of_wide 4 Try.f4 rfl rfl rfl rfl rfl rfl rfl ⟨rfl, rfl, rfl, rfl, rfl⟩ rfl rfl rfl rfl rfl (by kernel_rfl) Try.func4 (by kernel_rfl)
    (of_decide_eq_true (by kernel_rfl)) (by unfold Func.isWrapper; first | (rw [if_pos (by decide +kernel)]; kernel_rfl) | (rw [if_neg (by decide +kernel)]; exact ⟨rfl, rfl⟩))
    (fun os started H enc _ => lifted os started H enc)
theorem proved : Rows.FnExactCodeSizeSaid := over
#print axioms proved
end Go.Proofs.Ytlhbcgmmgofcgaa.fnExactCodeSize
namespace Go.Proofs.Ytlhbcgmmgofcgaa
/-- The row, under a short name, for the claim. -/
theorem fnExactCodeSize_holds : Rows.FnExactCodeSizeSaid := fnExactCodeSize.proved
end Go.Proofs.Ytlhbcgmmgofcgaa
