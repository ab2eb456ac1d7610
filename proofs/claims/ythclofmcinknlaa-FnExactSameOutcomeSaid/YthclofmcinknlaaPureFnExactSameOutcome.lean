/- The law FnExactSameOutcome over plain data; no condition. -/
import Derived.Test.YthclofmcinknlaaGoalFnExactSameOutcome
import Derived.Test.YthclofmcinknlaaFamFnExactSameOutcome
namespace Go.Proofs.Ythclofmcinknlaa.Pure
open Go.RowKit Go.Proofs.Ythclofmcinknlaa.QFnExactSameOutcome Go.Proofs.YthclofmcinknlaaW.PrintWords Go.Proofs.YthclofmcinknlaaW.PrintLast Go.Proofs.Ythclofmcinknlaa.GoalFnExactSameOutcome Go.Proofs.Ythclofmcinknlaa

set_option linter.unusedSimpArgs false
set_option linter.unusedVariables false

open Go.Proofs.Ythclofmcinknlaa.Fam Go.Proofs.Ythclofmcinknlaa.FamFnExactSameOutcome
theorem same (a0_0 a0_1 a0_2 : Int) (a0_3 : ByteArray) (a0_4 : Int) (l1_0 : List S86) (a1_1 a1_2 a1_3 : Int) (a1_4 : ByteArray) (a1_5 : Int) :
    ∃ r, spec_SameOutcome.f a0_0 a0_1 a0_2 a0_3 a0_4 l1_0 a1_1 a1_2 a1_3 a1_4 a1_5 = some r ∧ impl_SameOutcome.f a0_0 a0_1 a0_2 a0_3 a0_4 l1_0 a1_1 a1_2 a1_3 a1_4 a1_5 = some r := by
  unfold spec_SameOutcome.f impl_SameOutcome.f spec_l01In.f
  by_cases h2 : a0_0 = 2
  · subst h2
    by_cases hc : (2 : Int) = a1_1
    · subst hc
      exact ⟨(a0_1 == a1_2 && (a0_2 == a1_3 && a0_3.toList == a1_4.toList)), by simp, by simp⟩
    · exact ⟨false, by simp [hc], by simp [hc]⟩
  · by_cases h3 : a0_0 = 3
    · subst h3
      by_cases hc : (3 : Int) = a1_1
      · subst hc
        exact ⟨(a0_1 == a1_2 && (a0_2 == a1_3 && a0_3.toList == a1_4.toList)), by simp, by simp⟩
      · exact ⟨false, by simp [hc], by simp [hc]⟩
    · refine ⟨false, ?_, by rw [if_neg h2, if_neg h3]⟩
      by_cases h : (2 : Int) ≤ a0_0
      · have h4 : ¬ a0_0 ≤ 3 := by omega
        rw [if_pos h]
        simp [h4]
      · rw [if_neg h]
        rfl

theorem FnExactSameOutcome : GoalFnExactSameOutcome.Pure := by
  intro a0_0 a0_1 a0_2 a0_3 a0_4 l1_0 a1_1 a1_2 a1_3 a1_4 a1_5 _ _ _ h3 _ h0 _ _ _ h4 _
  refine Tos.at (F := fun k => laws_FnExactSameOutcome.f k a0_0 a0_1 a0_2 a0_3 a0_4 l1_0 a1_1 a1_2 a1_3 a1_4 a1_5) ?_
  unfold laws_FnExactSameOutcome.f
  obtain ⟨r, hr, ht⟩ := sz_Outcome a0_0 a0_1 a0_2 a0_3 a0_4 h3 1048576 (by omega) (by omega)
  rcases hr with rfl | ⟨hr0, hr1, hs⟩
  · exact Tos.bind ht (Tos.ifPos (by decide) (Tos.pure _))
  refine Tos.bind ht (Tos.ifNeg (by omega) ?_)
  obtain ⟨r2, hr2, ht2⟩ := sz_Machine l1_0 a1_1 a1_2 a1_3 a1_4 a1_5 h0 h4 r hr0 (by omega)
  rcases hr2 with rfl | ⟨hr3, hr4, hs2⟩
  · exact Tos.bind ht2 (Tos.ifPos (by decide) (Tos.pure _))
  refine Tos.bind ht2 (Tos.ifNeg (by omega) ?_)
  have h5 := to_Outcome a0_0 a0_1 a0_2 a0_3 a0_4 hs
  have h6 := to_Machine l1_0 a1_1 a1_2 a1_3 a1_4 a1_5 hs2
  have h7 := eq_Machine _ _ _ _ _ _ (el_Machine l1_0 a1_1 a1_2 a1_3 a1_4 a1_5 hs2)
  generalize g_Outcome a0_0 a0_1 a0_2 a0_3 a0_4 = o at *
  generalize g_Machine l1_0 a1_1 a1_2 a1_3 a1_4 a1_5 = m at *
  obtain ⟨v, e1, e2⟩ := same o.1 o.2.1 o.2.2.1 o.2.2.2.1 o.2.2.2.2 m.1 m.2.1 m.2.2.1 m.2.2.2.1 m.2.2.2.2.1 m.2.2.2.2.2
  refine Tos.bind h5 (Tos.bind h6 (Tos.bind (y := v) (Tos.of fun _ => e1) (Tos.bind h6 (Tos.bind h5 (Tos.bind (y := v) (Tos.of fun _ => e2) (Tos.ifNeg ?_ (Tos.bind h6 (Tos.yes h7 (Tos.pure _)))))))))
  simp

end Go.Proofs.Ythclofmcinknlaa.Pure
