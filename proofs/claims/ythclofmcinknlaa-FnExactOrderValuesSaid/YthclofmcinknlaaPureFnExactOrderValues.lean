/- The law FnExactOrderValues over plain data; no condition. -/
import Derived.Test.YthclofmcinknlaaGoalFnExactOrderValues
import Derived.Test.YthclofmcinknlaaPlain
namespace Go.Proofs.Ythclofmcinknlaa.Pure
open Go.RowKit Go.Proofs.Ythclofmcinknlaa.QFnExactOrderValues Go.Proofs.YthclofmcinknlaaW.PrintWords Go.Proofs.YthclofmcinknlaaW.PrintLast Go.Proofs.Ythclofmcinknlaa.GoalFnExactOrderValues Go.Proofs.Ythclofmcinknlaa

set_option linter.unusedSimpArgs false
set_option linter.unusedVariables false

/-- A right value. -/
def Right (k n : Int) (t : ByteArray) : Prop :=
  (k = 0 ∧ n = 0 ∧ t.toList = []) ∨ (k = 1 ∧ -2147483648 ≤ n ∧ n ≤ 2147483647 ∧ t.toList = []) ∨ (k = 2 ∧ 0 ≤ n ∧ n ≤ 1 ∧ t.toList = []) ∨ (k = 3 ∧ n = 0 ∧ t.size ≤ 60)
instance (k n : Int) (t : ByteArray) : Decidable (Right k n t) := by unfold Right; exact inferInstance

theorem spec_right (k n : Int) (t : ByteArray) : spec_ValueOK.f k n t = some (decide (Right k n t)) := by
  unfold spec_ValueOK.f spec_l01In.f Right
  by_cases h0 : k = 0
  · subst h0
    by_cases hn : n = 0 <;> by_cases ht : t.toList = [] <;> simp [hn, ht]
  by_cases h1 : k = 1
  · subst h1
    by_cases ha : -2147483648 ≤ n <;> by_cases hb : n ≤ 2147483647 <;> by_cases ht : t.toList = [] <;> simp [ha, hb, ht]
  by_cases h2 : k = 2
  · subst h2
    by_cases ha : 0 ≤ n <;> by_cases hb : n ≤ 1 <;> by_cases ht : t.toList = [] <;> simp [ha, hb, ht]
  by_cases h3 : k = 3
  · subst h3
    by_cases hn : n = 0 <;> by_cases ht : t.size ≤ 60 <;> simp [hn, ht] <;> omega
  simp [h0, h1, h2, h3]

theorem impl_right (k n : Int) (t : ByteArray) : impl_ValueOK.f k n t = some (decide (Right k n t)) := by
  unfold impl_ValueOK.f impl_within.f Right
  by_cases h0 : k = 0
  · subst h0
    by_cases hn : n = 0 <;> by_cases ht : t.toList = [] <;> simp [hn, ht]
  by_cases h1 : k = 1
  · subst h1
    by_cases ha : -2147483648 ≤ n <;> by_cases hb : n ≤ 2147483647 <;> by_cases ht : t.toList = [] <;> simp [ha, hb, ht]
  by_cases h2 : k = 2
  · subst h2
    by_cases ha : 0 ≤ n <;> by_cases hb : n ≤ 1 <;> by_cases ht : t.toList = [] <;> simp [ha, hb, ht]
  by_cases h3 : k = 3
  · subst h3
    by_cases hn : n = 0 <;> by_cases ht : t.size ≤ 60 <;> simp [hn, ht] <;> omega
  simp [h0, h1, h2, h3]

/-- The bulk of a value: what is left, or -1. -/
theorem sz_value (k n : Int) (t : ByteArray) (l : Int) (h0 : 0 ≤ l) (h1 : l ≤ 1048576) (ht : t.size ≤ maxLen) :
    (laws_szValue.f k n t l = some (-1)) ∨ (laws_szValue.f k n t l = some (l - t.size) ∧ (t.size : Int) ≤ l) := by
  unfold maxLen at ht
  have e : wrap64 (l - (t.size : Int)) = l - t.size := by unfold wrap64; omega
  unfold laws_szValue.f
  rw [e]
  by_cases h : l - (t.size : Int) < 0
  · rw [if_pos h]; exact .inl rfl
  · rw [if_neg h]; exact .inr ⟨rfl, by omega⟩

theorem or_three (a b c : Int) (k : Nat) (hk : 4 ≤ k) : cmp_Or_int.f k [a, b, c] = some (if a = 0 then (if b = 0 then c else b) else a) := by
  obtain ⟨k, rfl⟩ : ∃ m, k = m + 4 := ⟨k - 4, by omega⟩
  have e1 : wrap64 (0 + 1) = 1 := by unfold wrap64; omega
  have e2 : wrap64 (1 + 1) = 2 := by unfold wrap64; omega
  have e3 : wrap64 (2 + 1) = 3 := by unfold wrap64; omega
  unfold cmp_Or_int.f
  simp only [cmp_Or_int.l0, List.length_cons, List.length_nil, e1, e2, e3]
  by_cases ha : a = 0
  · by_cases hb : b = 0
    · by_cases hc : c = 0 <;> simp [rd, ha, hb, hc]
    · simp [rd, ha, hb]
  · simp [rd, ha]

theorem compare_int (a b : Int) : cmp_Compare_int.f a b = some (if a < b then -1 else if a > b then 1 else 0) := by
  unfold cmp_Compare_int.f cmp_isNaN_int.f
  simp only [bne_self_eq_false, Option.bind_some, Bool.false_eq_true, if_false]
  repeat' split
  all_goals first | rfl | omega
theorem compare_string (a b : ByteArray) : cmp_Compare_string.f a b = some (if Op.bytesLess a.toList b.toList = true then -1 else if Op.bytesLess b.toList a.toList = true then 1 else 0) := by
  unfold cmp_Compare_string.f cmp_isNaN_string.f
  simp only [bne_self_eq_false, Option.bind_some, Bool.false_eq_true, if_false]
  repeat' split
  all_goals first | rfl | contradiction

theorem bit (b : Bool) : spec_l01Bit.f b = some (if b = true then 1 else 0) := by cases b <;> rfl
theorem w2 : wrap64 (wrap64 2 - 1) = 1 := by unfold wrap64; omega
theorem w0 : wrap64 (wrap64 0 - 1) = -1 := by unfold wrap64; omega
theorem two (b : Bool) : wrap64 ((wrap64 (2 * (if b = true then 1 else 0))) - 1) = if b = true then 1 else -1 := by cases b <;> (unfold wrap64; simp)

theorem order_same (k : Nat) (hk : 5 ≤ k) (k1 n1 : Int) (t1 : ByteArray) (k2 n2 : Int) (t2 : ByteArray) : ∃ r, spec_OrderValues.f k k1 n1 t1 k2 n2 t2 = some r ∧ impl_OrderValues.f k k1 n1 t1 k2 n2 t2 = some r := by
  obtain ⟨k, rfl⟩ : ∃ m, k = m + 1 := ⟨k - 1, by omega⟩
  unfold spec_OrderValues.f impl_OrderValues.f
  simp only [spec_right, impl_right, Option.bind_some]
  have e1 : spec_OrderValues.j0 (k + 1) true k1 n1 t1 k2 n2 t2 = some (0, 1) := by simp [spec_OrderValues.j0]
  have e2 : impl_OrderValues.j0 (k + 1) true k1 n1 t1 k2 n2 t2 = some (0, 1) := by simp [impl_OrderValues.j0]
  rw [e1, e2]
  by_cases h1 : Right k1 n1 t1
  · rw [decide_eq_true h1]
    by_cases h2 : Right k2 n2 t2
    · rw [decide_eq_true h2]
      simp only [spec_OrderValues.j0, impl_OrderValues.j0, compare_int, compare_string, bit, two, Option.bind_some, or_three _ _ _ k (by omega), if_true, Bool.not_true, Bool.false_eq_true, if_false, decide_eq_true_eq]
      by_cases a1 : k1 = k2
      · by_cases a2 : n1 = n2
        · by_cases a3 : t1.toList = t2.toList
          · simp [a1, a2, a3, Plain.bytesLess_irrefl]
          · have h := Plain.bytesLess_total _ _ a3
            cases hb : Op.bytesLess t2.toList t1.toList <;> rw [hb] at h <;> simp [a1, a2, a3, h, hb, w2, w0]
        · by_cases b : n2 < n1
          · have c : ¬ n1 < n2 := by omega
            simp [a1, a2, b, c, w2, w0]
          · have c : n1 < n2 := by omega
            simp [a1, a2, b, c, w2, w0]
      · by_cases b : k2 < k1
        · have c : ¬ k1 < k2 := by omega
          simp [a1, b, c, w2, w0]
        · have c : k1 < k2 := by omega
          simp [a1, b, c, w2, w0]
    · rw [decide_eq_false h2]
      exact ⟨(0, 1), by simp [e1], by simp [e2]⟩
  · rw [decide_eq_false h1]
    exact ⟨(0, 1), by simp, by simp⟩

theorem FnExactOrderValues : GoalFnExactOrderValues.Pure := by
  intro k1 n1 t1 k2 n2 t2 _ _ ht1 _ _ ht2
  refine ⟨5, ?_⟩
  unfold laws_FnExactOrderValues.f laws_toValue.f
  rcases sz_value k1 n1 t1 1048576 (by omega) (by omega) ht1 with h | ⟨h, hl⟩
  · rw [h]; rfl
  · rw [h]
    simp only [Option.bind_some]
    rw [if_neg (show ¬ (1048576 : Int) - (t1.size : Int) < 0 by omega)]
    rcases sz_value k2 n2 t2 (1048576 - (t1.size : Int)) (by omega) (by omega) ht2 with h2 | ⟨h2, hl2⟩
    · rw [h2]; rfl
    · rw [h2]
      simp only [Option.bind_some]
      rw [if_neg (show ¬ (1048576 : Int) - (t1.size : Int) - (t2.size : Int) < 0 by omega)]
      obtain ⟨r, h3, h4⟩ := order_same 5 (by omega) k1 n1 t1 k2 n2 t2
      rw [h3, h4]
      simp

end Go.Proofs.Ythclofmcinknlaa.Pure
