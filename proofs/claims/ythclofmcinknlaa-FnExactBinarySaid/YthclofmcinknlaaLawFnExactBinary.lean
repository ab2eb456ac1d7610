/- The law FnExactBinary: for every input the law returns true and each argument reads behind the call as it read before; no condition. -/
import Derived.Test.YthclofmcinknlaaRows
import Derived.Test.YthclofmcinknlaaQFnExactBinaryx8
import Derived.Test.YthclofmcinknlaaPureFnExactBinary
import Derived.WalkKit
import Derived.ProofKit
import Derived.OpenShut
import Derived.ShutString
import Derived.ChangeOld
import Derived.Below
import Derived.SizedLaws
import Derived.Carry
namespace Go.Proofs.Ythclofmcinknlaa.fnExactBinary
open Go.ChangeShapes Go.WideShapes Go.ChangeAt Go.RowKit Go.Proofs.Ythclofmcinknlaa Go.Proofs.Ythclofmcinknlaa.QFnExactBinary Go.Proofs.Ythclofmcinknlaa.GoalFnExactBinary Go.Proofs.YthclofmcinknlaaW.PrintWords
open Go.ChangeMaps (open_string shut_string)
set_option linter.unusedVariables false
theorem own : ownKnob Try.prog.godebug = none := by kernel_rfl
theorem laidOut : laidOutB Try.prog = true := by kernel_rfl
set_option maxRecDepth 100000 in
theorem lifted (os : Os) (started : os.Started) (H : Type) (enc : TypeId × Value → H) :
    ReturnsInHanded {} Try.checked os 5 .any (Rows.fnExactBinarySpec.pre6 enc Try.prog Try.f5 Rows.fnExactBinaryRow.domain false) (Rows.fnExactBinarySpec.post enc Try.prog Try.f5 false true false false) := by
  refine returnsInHanded_of_change_sized (C := Try.checked) own started (by kernel_rfl) Try.func5
    (ChangeSpec.witness6 (enc := enc) (C := Try.checked) false ⟨#[], #[.string ByteArray.empty, .agg #[.int .i64 0, .int .i64 0, .string ByteArray.empty], .agg #[.int .i64 0, .int .i64 0, .string ByteArray.empty]], []⟩ 8 (by kernel_rfl) (by kernel_rfl) (by kernel_rfl) (by kernel_rfl)) ?_
  intro W base args ds gs before hval0 hW hcnd _ _
  have hval : ∀ (j : Nat) t v, Try.f5.params[j]? = some t → args[j]? = some v → Value.okWide Try.prog W .any base t v := hval0
  have hW' := hW
  obtain ⟨p, q, hA0, hV, rfl, hfz, hnd⟩ := hW
  have hA : DataW.TrodAll enc Try.prog W 0 (fun _ => true) true Try.f5.params.toList args.toList ds p := hA0
  rw [Try.params5] at hA hval
  obtain ⟨v0, vs0, d0, ds0, p0, q0, hargs, rfl, rfl, h0, r0⟩ := trodAll_cons hA
  obtain ⟨v1, vs1, d1, ds1, p1, q1, rfl, rfl, rfl, h1, r1⟩ := trodAll_cons r0
  obtain ⟨v2, vs2, d2, ds2, p2, q2, rfl, rfl, rfl, h2, r2⟩ := trodAll_cons r1
  obtain ⟨rfl, rfl, rfl⟩ := trodAll_nil r2
  obtain rfl : args = #[v0, v1, v2] := by cases args; simp_all
  obtain ⟨rfl, rfl⟩ := trodVars_none hV
  have k0 := h0
  have lt0 : ∀ x ∈ p0, x.block < W.heap.size := by obtain ⟨m, hm⟩ := k0; exact DataW.trod_lt m _ _ _ hm
  obtain ⟨a0, rfl, rfl, rfl, w0⟩ := open_string Try.underlying9 (hval 0 9 v0 rfl rfl) h0
  have k1 := h1
  have lt1 : ∀ x ∈ p1, x.block < W.heap.size := by obtain ⟨m, hm⟩ := k1; exact DataW.trod_lt m _ _ _ hm
  obtain ⟨cs1, rfl, hz1⟩ := okWide_struct Try.underlying23 (hval 1 23 v1 rfl rfl)
  obtain ⟨fuel1, hf1⟩ := h1
  obtain ⟨b1, hb1, w1⟩ := (Opn.opens_struct Try.underlying23 (by kernel_rfl) (Opn.opensF_cons rfl (Opn.opens_int Try.underlying3 (by kernel_rfl)) (Opn.opensF_cons rfl (Opn.opens_int Try.underlying3 (by kernel_rfl)) (Opn.opensF_one rfl (Opn.opens_string Try.underlying9 (by kernel_rfl)))))).2 _ _ _ _ _ _ _ _ _ hf1
  obtain ⟨_, _, hcs1, rfl, ⟨_, _, rfl, rfl, rfl⟩⟩ := hb1
  obtain rfl : cs1 = #[.int .i64 (b1.1), .int .i64 (b1.2.1), .string (b1.2.2)] := by
    have hz : cs1.toList = [.int .i64 (b1.1), .int .i64 (b1.2.1), .string (b1.2.2)] := by simpa [Value.cells] using hcs1
    exact Array.toList_inj.1 hz
  obtain ⟨w1_0, w1_1, w1_2⟩ := w1
  have k2 := h2
  have lt2 : ∀ x ∈ p2, x.block < W.heap.size := by obtain ⟨m, hm⟩ := k2; exact DataW.trod_lt m _ _ _ hm
  obtain ⟨cs2, rfl, hz2⟩ := okWide_struct Try.underlying23 (hval 2 23 v2 rfl rfl)
  obtain ⟨fuel2, hf2⟩ := h2
  obtain ⟨b2, hb2, w2⟩ := (Opn.opens_struct Try.underlying23 (by kernel_rfl) (Opn.opensF_cons rfl (Opn.opens_int Try.underlying3 (by kernel_rfl)) (Opn.opensF_cons rfl (Opn.opens_int Try.underlying3 (by kernel_rfl)) (Opn.opensF_one rfl (Opn.opens_string Try.underlying9 (by kernel_rfl)))))).2 _ _ _ _ _ _ _ _ _ hf2
  obtain ⟨_, _, hcs2, rfl, ⟨_, _, rfl, rfl, rfl⟩⟩ := hb2
  obtain rfl : cs2 = #[.int .i64 (b2.1), .int .i64 (b2.2.1), .string (b2.2.2)] := by
    have hz : cs2.toList = [.int .i64 (b2.1), .int .i64 (b2.2.1), .string (b2.2.2)] := by simpa [Value.cells] using hcs2
    exact Array.toList_inj.1 hz
  obtain ⟨w2_0, w2_1, w2_2⟩ := w2
  clear hA0 hval0
  obtain ⟨k, h⟩ := Pure.FnExactBinary a0 (b1.1) (b1.2.1) (b1.2.2) (b2.1) (b2.2.1) (b2.2.2) w0 w1_0 w1_1 w1_2 w2_0 w2_1 w2_2
  refine (laws_FnExactBinary.calls k a0 (b1.1) (b1.2.1) (b1.2.2) (b2.1) (b2.2.1) (b2.2.2) true W  h).mono fun e W' ⟨he, bel⟩ => ?_
  subst he
  exact ⟨_, rfl, _, _, _, [], _, [], hW', trodAll_mk1 (shut_bool Try.underlying4 _), (trodAll_cons_mk (Below.trod laidOut (by kernel_rfl) (of_decide_eq_true (by kernel_rfl)) k0 bel lt0) (trodAll_cons_mk (Below.trod laidOut (by kernel_rfl) (of_decide_eq_true (by kernel_rfl)) k1 bel lt1) (trodAll_cons_mk (Below.trod laidOut (by kernel_rfl) (of_decide_eq_true (by kernel_rfl)) k2 bel lt2) trodAll_mk0))), rfl, bel.frame _, fun h => by cases h⟩
theorem over : Rows.fnExactBinaryRow.holds Try.pinned (OpenSpec.ofChange Rows.fnExactBinarySpec) :=
  OpenClaim.holds_of_wide 5 Try.f5 rfl rfl rfl rfl rfl rfl rfl ⟨rfl, rfl, rfl, rfl, rfl⟩ rfl rfl rfl rfl rfl (by kernel_rfl) Try.func5 (by kernel_rfl)
    (of_decide_eq_true (by kernel_rfl)) (by unfold Func.isWrapper; first | (rw [if_pos (by decide +kernel)]; kernel_rfl) | (rw [if_neg (by decide +kernel)]; exact ⟨rfl, rfl⟩))
    (fun os started H enc _ => lifted os started H enc)
theorem proved : Rows.FnExactBinarySaid := over
#print axioms proved
end Go.Proofs.Ythclofmcinknlaa.fnExactBinary
namespace Go.Proofs.Ythclofmcinknlaa
/-- The row, under a short name, for the claim. -/
theorem fnExactBinary_holds : Rows.FnExactBinarySaid := fnExactBinary.proved
end Go.Proofs.Ythclofmcinknlaa
