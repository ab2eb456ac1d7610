/- The law FnExactTruth over plain data; no condition. -/
import Derived.Test.YtmbkhbihgnhoaaaGoalFnExactTruth
namespace Go.Proofs.Ytmbkhbihgnhoaaa.Pure
open Go.RowKit Go.Proofs.Ytmbkhbihgnhoaaa.QFnExactTruth Go.Proofs.YtmbkhbihgnhoaaaW.PrintWords Go.Proofs.YtmbkhbihgnhoaaaW.PrintLast Go.Proofs.Ytmbkhbihgnhoaaa.GoalFnExactTruth Go.Proofs.Ytmbkhbihgnhoaaa

set_option linter.unusedSimpArgs false
set_option linter.unusedVariables false

/-- A right value. -/
def Right (k n : Int) (t : ByteArray) : Prop :=
  (k = 0 ∧ n = 0 ∧ t.toList = []) ∨ (k = 1 ∧ -2147483648 ≤ n ∧ n ≤ 2147483647 ∧ t.toList = []) ∨ (k = 2 ∧ 0 ≤ n ∧ n ≤ 1 ∧ t.toList = []) ∨ (k = 3 ∧ n = 0 ∧ t.size ≤ 60)
instance (k n : Int) (t : ByteArray) : Decidable (Right k n t) := by unfold Right; exact inferInstance

theorem spec_right (k n : Int) (t : ByteArray) : spec_ValueOK.f k n t = some (decide (Right k n t)) := by
  unfold spec_ValueOK.f spec_l01In.f Right
  by_cases h0 : k = 0
  · subst h0
    by_cases hn : n = 0 <;> by_cases ht : t.toList = [] <;> simp [hn, ht]
  by_cases h1 : k = 1
  · subst h1
    by_cases ha : -2147483648 ≤ n <;> by_cases hb : n ≤ 2147483647 <;> by_cases ht : t.toList = [] <;> simp [ha, hb, ht]
  by_cases h2 : k = 2
  · subst h2
    by_cases ha : 0 ≤ n <;> by_cases hb : n ≤ 1 <;> by_cases ht : t.toList = [] <;> simp [ha, hb, ht]
  by_cases h3 : k = 3
  · subst h3
    by_cases hn : n = 0 <;> by_cases ht : t.size ≤ 60 <;> simp [hn, ht] <;> omega
  simp [h0, h1, h2, h3]

theorem impl_right (k n : Int) (t : ByteArray) : impl_ValueOK.f k n t = some (decide (Right k n t)) := by
  unfold impl_ValueOK.f impl_within.f Right
  by_cases h0 : k = 0
  · subst h0
    by_cases hn : n = 0 <;> by_cases ht : t.toList = [] <;> simp [hn, ht]
  by_cases h1 : k = 1
  · subst h1
    by_cases ha : -2147483648 ≤ n <;> by_cases hb : n ≤ 2147483647 <;> by_cases ht : t.toList = [] <;> simp [ha, hb, ht]
  by_cases h2 : k = 2
  · subst h2
    by_cases ha : 0 ≤ n <;> by_cases hb : n ≤ 1 <;> by_cases ht : t.toList = [] <;> simp [ha, hb, ht]
  by_cases h3 : k = 3
  · subst h3
    by_cases hn : n = 0 <;> by_cases ht : t.size ≤ 60 <;> simp [hn, ht] <;> omega
  simp [h0, h1, h2, h3]

/-- The bulk of a value: what is left, or -1. -/
theorem sz_value (k n : Int) (t : ByteArray) (l : Int) (h0 : 0 ≤ l) (h1 : l ≤ 1048576) (ht : t.size ≤ maxLen) :
    (laws_szValue.f k n t l = some (-1)) ∨ (laws_szValue.f k n t l = some (l - t.size) ∧ (t.size : Int) ≤ l) := by
  unfold maxLen at ht
  have e : wrap64 (l - (t.size : Int)) = l - t.size := by unfold wrap64; omega
  unfold laws_szValue.f
  rw [e]
  by_cases h : l - (t.size : Int) < 0
  · rw [if_pos h]; exact .inl rfl
  · rw [if_neg h]; exact .inr ⟨rfl, by omega⟩

theorem FnExactTruth : GoalFnExactTruth.Pure := by
  intro k n t _ _ ht
  unfold laws_FnExactTruth.f laws_toValue.f
  rcases sz_value k n t 1048576 (by omega) (by omega) ht with h | ⟨h, hl⟩
  · rw [h]; rfl
  · rw [h]
    simp only [Option.bind_some, spec_Truth.f, impl_Truth.f, spec_right, impl_right, spec_l01Truth.f, impl_truth.f]
    rw [if_neg (by omega)]
    by_cases hr : Right k n t
    · rw [decide_eq_true hr]
      by_cases hn : n = 0 <;> simp [hn]
    · rw [decide_eq_false hr]
      simp

end Go.Proofs.Ytmbkhbihgnhoaaa.Pure
