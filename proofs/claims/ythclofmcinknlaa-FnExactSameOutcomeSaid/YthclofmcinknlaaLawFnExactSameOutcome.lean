/- The law FnExactSameOutcome: for every input the law returns true and each argument reads behind the call as it read before; no condition. -/
import Derived.Test.YthclofmcinknlaaRows
import Derived.Test.YthclofmcinknlaaQFnExactSameOutcomex6
import Derived.Test.YthclofmcinknlaaPureFnExactSameOutcome
import Derived.WalkKit
import Derived.ProofKit
import Derived.OpenShut
import Derived.ShutString
import Derived.ChangeOld
import Derived.Below
import Derived.SizedLaws
import Derived.Carry
namespace Go.Proofs.Ythclofmcinknlaa.fnExactSameOutcome
open Go.ChangeShapes Go.WideShapes Go.ChangeAt Go.RowKit Go.Proofs.Ythclofmcinknlaa Go.Proofs.Ythclofmcinknlaa.QFnExactSameOutcome Go.Proofs.Ythclofmcinknlaa.GoalFnExactSameOutcome Go.Proofs.YthclofmcinknlaaW.PrintWords
open Go.ChangeMaps (open_string shut_string)
set_option linter.unusedVariables false
theorem own : ownKnob Try.prog.godebug = none := by kernel_rfl
theorem laidOut : laidOutB Try.prog = true := by kernel_rfl
set_option maxRecDepth 100000 in
theorem lifted (os : Os) (started : os.Started) (H : Type) (enc : TypeId × Value → H) :
    ReturnsInHanded {} Try.checked os 6 .any (Rows.fnExactSameOutcomeSpec.pre6 enc Try.prog Try.f6 Rows.fnExactSameOutcomeRow.domain false) (Rows.fnExactSameOutcomeSpec.post enc Try.prog Try.f6 false true false false) := by
  refine returnsInHanded_of_change_sized (C := Try.checked) own started (by kernel_rfl) Try.func6
    (ChangeSpec.witness6 (enc := enc) (C := Try.checked) false ⟨#[], #[.agg #[.int .i64 0, .int .i64 0, .int .i64 0, .string ByteArray.empty, .int .i64 0], .agg #[.slice none 0 0, .int .i64 0, .int .i64 0, .int .i64 0, .string ByteArray.empty, .int .i64 0]], []⟩ 8 (by kernel_rfl) (by kernel_rfl) (by kernel_rfl) (by kernel_rfl)) ?_
  intro W base args ds gs before hval0 hW hcnd _ _
  have hval : ∀ (j : Nat) t v, Try.f6.params[j]? = some t → args[j]? = some v → Value.okWide Try.prog W .any base t v := hval0
  have hW' := hW
  obtain ⟨p, q, hA0, hV, rfl, hfz, hnd⟩ := hW
  have hA : DataW.TrodAll enc Try.prog W 0 (fun _ => true) true Try.f6.params.toList args.toList ds p := hA0
  rw [Try.params6] at hA hval
  obtain ⟨v0, vs0, d0, ds0, p0, q0, hargs, rfl, rfl, h0, r0⟩ := trodAll_cons hA
  obtain ⟨v1, vs1, d1, ds1, p1, q1, rfl, rfl, rfl, h1, r1⟩ := trodAll_cons r0
  obtain ⟨rfl, rfl, rfl⟩ := trodAll_nil r1
  obtain rfl : args = #[v0, v1] := by cases args; simp_all
  obtain ⟨rfl, rfl⟩ := trodVars_none hV
  have k0 := h0
  have lt0 : ∀ x ∈ p0, x.block < W.heap.size := by obtain ⟨m, hm⟩ := k0; exact DataW.trod_lt m _ _ _ hm
  obtain ⟨cs0, rfl, hz0⟩ := okWide_struct Try.underlying38 (hval 0 38 v0 rfl rfl)
  obtain ⟨fuel0, hf0⟩ := h0
  obtain ⟨b0, hb0, w0⟩ := (Opn.opens_struct Try.underlying38 (by kernel_rfl) (Opn.opensF_cons rfl (Opn.opens_int Try.underlying3 (by kernel_rfl)) (Opn.opensF_cons rfl opens23 (Opn.opensF_one rfl (Opn.opens_int Try.underlying3 (by kernel_rfl)))))).2 _ _ _ _ _ _ _ _ _ hf0
  obtain ⟨_, _, hcs0, rfl, ⟨_, _, rfl, hq0_0, rfl⟩⟩ := hb0
  obtain rfl := k23_open hq0_0
  obtain rfl : cs0 = #[.int .i64 (b0.1), .int .i64 (b0.2.1.f0), .int .i64 (b0.2.1.f1), .string (b0.2.1.f2), .int .i64 (b0.2.2)] := by
    have hz : cs0.toList = [.int .i64 (b0.1), .int .i64 (b0.2.1.f0), .int .i64 (b0.2.1.f1), .string (b0.2.1.f2), .int .i64 (b0.2.2)] := by simpa [Value.cells] using hcs0
    exact Array.toList_inj.1 hz
  obtain ⟨w0_0, ⟨w0_1, w0_2, w0_3⟩, w0_4⟩ := w0
  have k1 := h1
  have lt1 : ∀ x ∈ p1, x.block < W.heap.size := by obtain ⟨m, hm⟩ := k1; exact DataW.trod_lt m _ _ _ hm
  obtain ⟨cs1, rfl, hz1⟩ := okWide_struct Try.underlying41 (hval 1 41 v1 rfl rfl)
  obtain ⟨fuel1, hf1⟩ := h1
  obtain ⟨b1, hb1, w1⟩ := (Opn.opens_struct Try.underlying41 (by kernel_rfl) (Opn.opensF_cons rfl (Opn.opens_slice Try.underlying39 (by kernel_rfl) opens82) (Opn.opensF_cons rfl (Opn.opens_int Try.underlying3 (by kernel_rfl)) (Opn.opensF_cons rfl opens23 (Opn.opensF_one rfl (Opn.opens_int Try.underlying3 (by kernel_rfl))))))).2 _ _ _ _ _ _ _ _ _ hf1
  obtain ⟨_, _, hcs1, ⟨A1_0, c1_0, rfl, hc1_0, hr1_0⟩, ⟨_, _, rfl, rfl, ⟨_, _, rfl, hq1_1, rfl⟩⟩⟩ := hb1
  obtain rfl := k23_open hq1_1
  obtain rfl : cs1 = #[.slice A1_0 (b1.1).length c1_0, .int .i64 (b1.2.1), .int .i64 (b1.2.2.1.f0), .int .i64 (b1.2.2.1.f1), .string (b1.2.2.1.f2), .int .i64 (b1.2.2.2)] := by
    have hz : cs1.toList = [.slice A1_0 (b1.1).length c1_0, .int .i64 (b1.2.1), .int .i64 (b1.2.2.1.f0), .int .i64 (b1.2.2.1.f1), .string (b1.2.2.1.f2), .int .i64 (b1.2.2.2)] := by simpa [Value.cells] using hcs1
    exact Array.toList_inj.1 hz
  obtain ⟨w1_0, w1_1, ⟨w1_2, w1_3, w1_4⟩, w1_5⟩ := w1
  clear hA0 hval0
  obtain ⟨k, h⟩ := Pure.FnExactSameOutcome (b0.1) (b0.2.1.f0) (b0.2.1.f1) (b0.2.1.f2) (b0.2.2) (b1.1) (b1.2.1) (b1.2.2.1.f0) (b1.2.2.1.f1) (b1.2.2.1.f2) (b1.2.2.2) w0_0 w0_1 w0_2 w0_3 w0_4 w1_0 w1_1 w1_2 w1_3 w1_4 w1_5
  refine (laws_FnExactSameOutcome.calls k (b0.1) (b0.2.1.f0) (b0.2.1.f1) (b0.2.1.f2) (b0.2.2) A1_0 c1_0 (b1.1) (b1.2.1) (b1.2.2.1.f0) (b1.2.2.1.f1) (b1.2.2.1.f2) (b1.2.2.2) true W hr1_0 hc1_0 h).mono fun e W' ⟨he, bel⟩ => ?_
  subst he
  exact ⟨_, rfl, _, _, _, [], _, [], hW', trodAll_mk1 (shut_bool Try.underlying4 _), (trodAll_cons_mk (Below.trod laidOut (by kernel_rfl) (of_decide_eq_true (by kernel_rfl)) k0 bel lt0) (trodAll_cons_mk (Below.trod laidOut (by kernel_rfl) (of_decide_eq_true (by kernel_rfl)) k1 bel lt1) trodAll_mk0)), rfl, bel.frame _, fun h => by cases h⟩
theorem over : Rows.fnExactSameOutcomeRow.holds Try.pinned (OpenSpec.ofChange Rows.fnExactSameOutcomeSpec) :=
  OpenClaim.holds_of_wide 6 Try.f6 rfl rfl rfl rfl rfl rfl rfl ⟨rfl, rfl, rfl, rfl, rfl⟩ rfl rfl rfl rfl rfl (by kernel_rfl) Try.func6 (by kernel_rfl)
    (of_decide_eq_true (by kernel_rfl)) (by unfold Func.isWrapper; first | (rw [if_pos (by decide +kernel)]; kernel_rfl) | (rw [if_neg (by decide +kernel)]; exact ⟨rfl, rfl⟩))
    (fun os started H enc _ => lifted os started H enc)
theorem proved : Rows.FnExactSameOutcomeSaid := over
#print axioms proved
end Go.Proofs.Ythclofmcinknlaa.fnExactSameOutcome
namespace Go.Proofs.Ythclofmcinknlaa
/-- The row, under a short name, for the claim. -/
theorem fnExactSameOutcome_holds : Rows.FnExactSameOutcomeSaid := fnExactSameOutcome.proved
end Go.Proofs.Ythclofmcinknlaa
