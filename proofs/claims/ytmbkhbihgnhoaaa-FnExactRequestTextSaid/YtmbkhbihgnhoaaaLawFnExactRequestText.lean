/- The law FnExactRequestText: for every input the law returns true and each argument reads behind the call as it read before; no condition. -/
import Derived.Test.YtmbkhbihgnhoaaaRows
import Derived.Test.YtmbkhbihgnhoaaaQFnExactRequestTextx2
import Derived.Test.YtmbkhbihgnhoaaaPureFnExactRequestText
import Derived.WalkKit
import Derived.ProofKit
import Derived.OpenShut
import Derived.ShutString
import Derived.ChangeOld
import Derived.Below
import Derived.SizedLaws
import Derived.Carry
namespace Go.Proofs.Ytmbkhbihgnhoaaa.fnExactRequestText
open Go.ChangeShapes Go.WideShapes Go.ChangeAt Go.RowKit Go.Proofs.Ytmbkhbihgnhoaaa Go.Proofs.Ytmbkhbihgnhoaaa.QFnExactRequestText Go.Proofs.Ytmbkhbihgnhoaaa.GoalFnExactRequestText Go.Proofs.YtmbkhbihgnhoaaaW.PrintWords
open Go.ChangeMaps (open_string shut_string)
set_option linter.unusedVariables false
theorem own : ownKnob Try.prog.godebug = none := by kernel_rfl
theorem laidOut : laidOutB Try.prog = true := by kernel_rfl
set_option maxRecDepth 100000 in
theorem lifted (os : Os) (started : os.Started) (H : Type) (enc : TypeId × Value → H) :
    ReturnsInHanded {} Try.checked os 14 .any (Rows.fnExactRequestTextSpec.pre6 enc Try.prog Try.f14 Rows.fnExactRequestTextRow.domain false) (Rows.fnExactRequestTextSpec.post enc Try.prog Try.f14 false true false false) := by
  refine returnsInHanded_of_change_sized (C := Try.checked) own started (by kernel_rfl) Try.func14
    (ChangeSpec.witness6 (enc := enc) (C := Try.checked) false ⟨#[], #[.agg #[.string ByteArray.empty, .bool false]], []⟩ 8 (by kernel_rfl) (by kernel_rfl) (by kernel_rfl) (by kernel_rfl)) ?_
  intro W base args ds gs before hval0 hW hcnd _ _
  have hval : ∀ (j : Nat) t v, Try.f14.params[j]? = some t → args[j]? = some v → Value.okWide Try.prog W .any base t v := hval0
  have hW' := hW
  obtain ⟨p, q, hA0, hV, rfl, hfz, hnd⟩ := hW
  have hA : DataW.TrodAll enc Try.prog W 0 (fun _ => true) true Try.f14.params.toList args.toList ds p := hA0
  rw [Try.params14] at hA hval
  obtain ⟨v0, vs0, d0, ds0, p0, q0, hargs, rfl, rfl, h0, r0⟩ := trodAll_cons hA
  obtain ⟨rfl, rfl, rfl⟩ := trodAll_nil r0
  obtain rfl : args = #[v0] := by cases args; simp_all
  obtain ⟨rfl, rfl⟩ := trodVars_none hV
  have k0 := h0
  have lt0 : ∀ x ∈ p0, x.block < W.heap.size := by obtain ⟨m, hm⟩ := k0; exact DataW.trod_lt m _ _ _ hm
  obtain ⟨cs0, rfl, hz0⟩ := okWide_struct Try.underlying42 (hval 0 42 v0 rfl rfl)
  obtain ⟨fuel0, hf0⟩ := h0
  obtain ⟨b0, hb0, w0⟩ := (Opn.opens_struct Try.underlying42 (by kernel_rfl) (Opn.opensF_cons rfl (Opn.opens_string Try.underlying9 (by kernel_rfl)) (Opn.opensF_one rfl (Opn.opens_bool Try.underlying4 (by kernel_rfl))))).2 _ _ _ _ _ _ _ _ _ hf0
  obtain ⟨_, _, hcs0, rfl, rfl⟩ := hb0
  obtain rfl : cs0 = #[.string (b0.1), .bool (b0.2)] := by
    have hz : cs0.toList = [.string (b0.1), .bool (b0.2)] := by simpa [Value.cells] using hcs0
    exact Array.toList_inj.1 hz
  obtain ⟨w0_0, _⟩ := w0
  clear hA0 hval0
  obtain ⟨k, h⟩ := Pure.FnExactRequestText (b0.1) (b0.2) w0_0
  refine (laws_FnExactRequestText.calls k (b0.1) (b0.2) true W  h).mono fun e W' ⟨he, bel⟩ => ?_
  subst he
  exact ⟨_, rfl, _, _, _, [], _, [], hW', trodAll_mk1 (shut_bool Try.underlying4 _), (trodAll_cons_mk (Below.trod laidOut (by kernel_rfl) (of_decide_eq_true (by kernel_rfl)) k0 bel lt0) trodAll_mk0), rfl, bel.frame _, fun h => by cases h⟩
theorem over : Rows.fnExactRequestTextRow.holds Try.pinned (OpenSpec.ofChange Rows.fnExactRequestTextSpec) :=
  OpenClaim.holds_of_wide 14 Try.f14 rfl rfl rfl rfl rfl rfl rfl ⟨rfl, rfl, rfl, rfl, rfl⟩ rfl rfl rfl rfl rfl (by kernel_rfl) Try.func14 (by kernel_rfl)
    (of_decide_eq_true (by kernel_rfl)) (by unfold Func.isWrapper; first | (rw [if_pos (by decide +kernel)]; kernel_rfl) | (rw [if_neg (by decide +kernel)]; exact ⟨rfl, rfl⟩))
    (fun os started H enc _ => lifted os started H enc)
theorem proved : Rows.FnExactRequestTextSaid := over
#print axioms proved
end Go.Proofs.Ytmbkhbihgnhoaaa.fnExactRequestText
namespace Go.Proofs.Ytmbkhbihgnhoaaa
/-- The row, under a short name, for the claim. -/
theorem fnExactRequestText_holds : Rows.FnExactRequestTextSaid := fnExactRequestText.proved
end Go.Proofs.Ytmbkhbihgnhoaaa
