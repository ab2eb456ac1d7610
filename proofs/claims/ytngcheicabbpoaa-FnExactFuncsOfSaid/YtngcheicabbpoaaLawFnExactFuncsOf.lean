/- The law FnExactFuncsOf: for every input the law returns true and each argument reads behind the call as it read before; no condition. -/
import Derived.Test.YtngcheicabbpoaaRows
import Derived.Test.YtngcheicabbpoaaQFnExactFuncsOfx13
import Derived.Test.YtngcheicabbpoaaPureFnExactFuncsOf
import Derived.WalkKit
import Derived.ProofKit
import Derived.OpenShut
import Derived.ShutString
import Derived.ChangeOld
import Derived.Below
import Derived.SizedLaws
import Derived.Carry
namespace Go.Proofs.Ytngcheicabbpoaa.fnExactFuncsOf
open Go.ChangeShapes Go.WideShapes Go.ChangeAt Go.RowKit Go.Proofs.Ytngcheicabbpoaa Go.Proofs.Ytngcheicabbpoaa.QFnExactFuncsOf Go.Proofs.Ytngcheicabbpoaa.GoalFnExactFuncsOf Go.Proofs.YtngcheicabbpoaaW.PrintWords
open Go.ChangeMaps (open_string shut_string)
set_option linter.unusedVariables false
theorem own : ownKnob Try.prog.godebug = none := by kernel_rfl
theorem laidOut : laidOutB Try.prog = true := by kernel_rfl
set_option maxRecDepth 100000 in
theorem lifted (os : Os) (started : os.Started) (H : Type) (enc : TypeId × Value → H) :
    ReturnsInHanded {} Try.checked os 9 .any (Rows.fnExactFuncsOfSpec.pre6 enc Try.prog Try.f9 Rows.fnExactFuncsOfRow.domain false) (Rows.fnExactFuncsOfSpec.post enc Try.prog Try.f9 false true false false) := by
  refine returnsInHanded_of_change_sized (C := Try.checked) own started (by kernel_rfl) Try.func9
    (ChangeSpec.witness6 (enc := enc) (C := Try.checked) false ⟨#[], #[.agg #[.slice none 0 0, .int .i64 0]], []⟩ 8 (by kernel_rfl) (by kernel_rfl) (by kernel_rfl) (by kernel_rfl)) ?_
  intro W base args ds gs before hval0 hW hcnd _ _
  have hval : ∀ (j : Nat) t v, Try.f9.params[j]? = some t → args[j]? = some v → Value.okWide Try.prog W .any base t v := hval0
  have hW' := hW
  obtain ⟨p, q, hA0, hV, rfl, hfz, hnd⟩ := hW
  have hA : DataW.TrodAll enc Try.prog W 0 (fun _ => true) true Try.f9.params.toList args.toList ds p := hA0
  rw [Try.params9] at hA hval
  obtain ⟨v0, vs0, d0, ds0, p0, q0, hargs, rfl, rfl, h0, r0⟩ := trodAll_cons hA
  obtain ⟨rfl, rfl, rfl⟩ := trodAll_nil r0
  obtain rfl : args = #[v0] := by cases args; simp_all
  obtain ⟨rfl, rfl⟩ := trodVars_none hV
  have k0 := h0
  have lt0 : ∀ x ∈ p0, x.block < W.heap.size := by obtain ⟨m, hm⟩ := k0; exact DataW.trod_lt m _ _ _ hm
  obtain ⟨cs0, rfl, hz0⟩ := okWide_struct Try.underlying24 (hval 0 24 v0 rfl rfl)
  obtain ⟨fuel0, hf0⟩ := h0
  obtain ⟨b0, hb0, w0⟩ := (Opn.opens_struct Try.underlying24 (by kernel_rfl) (Opn.opensF_cons rfl (Opn.opens_slice Try.underlying22 (by kernel_rfl) opens65) (Opn.opensF_one rfl (Opn.opens_int Try.underlying3 (by kernel_rfl))))).2 _ _ _ _ _ _ _ _ _ hf0
  obtain ⟨_, _, hcs0, ⟨A0_0, c0_0, rfl, hc0_0, hr0_0⟩, rfl⟩ := hb0
  obtain rfl : cs0 = #[.slice A0_0 (b0.1).length c0_0, .int .i64 (b0.2)] := by
    have hz : cs0.toList = [.slice A0_0 (b0.1).length c0_0, .int .i64 (b0.2)] := by simpa [Value.cells] using hcs0
    exact Array.toList_inj.1 hz
  obtain ⟨w0_0, w0_1⟩ := w0
  clear hA0 hval0
  obtain ⟨k, h⟩ := Pure.FnExactFuncsOf (b0.1) (b0.2) w0_0 w0_1
  refine (laws_FnExactFuncsOf.calls k A0_0 c0_0 (b0.1) (b0.2) true W hr0_0 hc0_0 h).mono fun e W' ⟨he, bel⟩ => ?_
  subst he
  exact ⟨_, rfl, _, _, _, [], _, [], hW', trodAll_mk1 (shut_bool Try.underlying4 _), (trodAll_cons_mk (Below.trod laidOut (by kernel_rfl) (of_decide_eq_true (by kernel_rfl)) k0 bel lt0) trodAll_mk0), rfl, bel.frame _, fun h => by cases h⟩
theorem over : Rows.fnExactFuncsOfRow.holds Try.pinned (OpenSpec.ofChange Rows.fnExactFuncsOfSpec) :=
  OpenClaim.holds_of_wide 9 Try.f9 rfl rfl rfl rfl rfl rfl rfl ⟨rfl, rfl, rfl, rfl, rfl⟩ rfl rfl rfl rfl rfl (by kernel_rfl) Try.func9 (by kernel_rfl)
    (of_decide_eq_true (by kernel_rfl)) (by unfold Func.isWrapper; first | (rw [if_pos (by decide +kernel)]; kernel_rfl) | (rw [if_neg (by decide +kernel)]; exact ⟨rfl, rfl⟩))
    (fun os started H enc _ => lifted os started H enc)
theorem proved : Rows.FnExactFuncsOfSaid := over
#print axioms proved
end Go.Proofs.Ytngcheicabbpoaa.fnExactFuncsOf
namespace Go.Proofs.Ytngcheicabbpoaa
/-- The row, under a short name, for the claim. -/
theorem fnExactFuncsOf_holds : Rows.FnExactFuncsOfSaid := fnExactFuncsOf.proved
end Go.Proofs.Ytngcheicabbpoaa
