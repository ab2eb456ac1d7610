/- The law FnExactBinary over plain data; no condition. -/
import Derived.Test.YthclofmcinknlaaGoalFnExactBinary
import Derived.Test.YthclofmcinknlaaPlain
namespace Go.Proofs.Ythclofmcinknlaa.Pure
open Go.RowKit Go.Proofs.Ythclofmcinknlaa.QFnExactBinary Go.Proofs.YthclofmcinknlaaW.PrintWords Go.Proofs.YthclofmcinknlaaW.PrintLast Go.Proofs.Ythclofmcinknlaa.GoalFnExactBinary Go.Proofs.Ythclofmcinknlaa

set_option linter.unusedSimpArgs false
set_option linter.unusedVariables false

/-- A right value. -/
def Right (k n : Int) (t : ByteArray) : Prop :=
  (k = 0 ∧ n = 0 ∧ t.toList = []) ∨ (k = 1 ∧ -2147483648 ≤ n ∧ n ≤ 2147483647 ∧ t.toList = []) ∨ (k = 2 ∧ 0 ≤ n ∧ n ≤ 1 ∧ t.toList = []) ∨ (k = 3 ∧ n = 0 ∧ t.size ≤ 60)
instance (k n : Int) (t : ByteArray) : Decidable (Right k n t) := by unfold Right; exact inferInstance

theorem spec_right (k n : Int) (t : ByteArray) : spec_ValueOK.f k n t = some (decide (Right k n t)) := by
  unfold spec_ValueOK.f spec_l01In.f Right
  by_cases h0 : k = 0
  · subst h0
    by_cases hn : n = 0 <;> by_cases ht : t.toList = [] <;> simp [hn, ht]
  by_cases h1 : k = 1
  · subst h1
    by_cases ha : -2147483648 ≤ n <;> by_cases hb : n ≤ 2147483647 <;> by_cases ht : t.toList = [] <;> simp [ha, hb, ht]
  by_cases h2 : k = 2
  · subst h2
    by_cases ha : 0 ≤ n <;> by_cases hb : n ≤ 1 <;> by_cases ht : t.toList = [] <;> simp [ha, hb, ht]
  by_cases h3 : k = 3
  · subst h3
    by_cases hn : n = 0 <;> by_cases ht : t.size ≤ 60 <;> simp [hn, ht] <;> omega
  simp [h0, h1, h2, h3]

theorem impl_right (k n : Int) (t : ByteArray) : impl_ValueOK.f k n t = some (decide (Right k n t)) := by
  unfold impl_ValueOK.f impl_within.f Right
  by_cases h0 : k = 0
  · subst h0
    by_cases hn : n = 0 <;> by_cases ht : t.toList = [] <;> simp [hn, ht]
  by_cases h1 : k = 1
  · subst h1
    by_cases ha : -2147483648 ≤ n <;> by_cases hb : n ≤ 2147483647 <;> by_cases ht : t.toList = [] <;> simp [ha, hb, ht]
  by_cases h2 : k = 2
  · subst h2
    by_cases ha : 0 ≤ n <;> by_cases hb : n ≤ 1 <;> by_cases ht : t.toList = [] <;> simp [ha, hb, ht]
  by_cases h3 : k = 3
  · subst h3
    by_cases hn : n = 0 <;> by_cases ht : t.size ≤ 60 <;> simp [hn, ht] <;> omega
  simp [h0, h1, h2, h3]

/-- The bulk of a value: what is left, or -1. -/
theorem sz_value (k n : Int) (t : ByteArray) (l : Int) (h0 : 0 ≤ l) (h1 : l ≤ 1048576) (ht : t.size ≤ maxLen) :
    (laws_szValue.f k n t l = some (-1)) ∨ (laws_szValue.f k n t l = some (l - t.size) ∧ (t.size : Int) ≤ l) := by
  unfold maxLen at ht
  have e : wrap64 (l - (t.size : Int)) = l - t.size := by unfold wrap64; omega
  unfold laws_szValue.f
  rw [e]
  by_cases h : l - (t.size : Int) < 0
  · rw [if_pos h]; exact .inl rfl
  · rw [if_neg h]; exact .inr ⟨rfl, by omega⟩

/-- The place of the first text that is v, counted from j; -1 without one. -/
def find : List ByteArray → ByteArray → Nat → Int
  | [], _, _ => -1
  | x :: xs, v, j => if x.toList = v.toList then (j : Int) else find xs v (j + 1)

theorem drop_at (l : List ByteArray) (j : Nat) (h : j < l.length) : l.drop j = rdOf ByteArray.empty l (j : Int) :: l.drop (j + 1) := by
  rw [List.drop_eq_getElem_cons h]
  simp [rdOf, h]

theorem index_tells (l : List ByteArray) (v : ByteArray) (hl : l.length < 4611686018427387904) (d : Nat) : ∀ (k j : Nat), j + d = l.length → d < k →
    slices_Index_string_string.l0 k l v (l.length : Int) (j : Int) = some (find (l.drop j) v j) := by
  induction d with
  | zero =>
    intro k j hj hk
    obtain ⟨k, rfl⟩ : ∃ m, k = m + 1 := ⟨k - 1, by omega⟩
    simp only [slices_Index_string_string.l0]
    rw [if_neg (by omega), List.drop_of_length_le (by omega)]
    rfl
  | succ d ih =>
    intro k j hj hk
    obtain ⟨k, rfl⟩ : ∃ m, k = m + 1 := ⟨k - 1, by omega⟩
    simp only [slices_Index_string_string.l0]
    rw [if_pos (by omega), if_pos (by omega), if_pos (by omega), drop_at l j (by omega), Plain.next j (by omega), ih k (j + 1) (by omega) (by omega)]
    simp only [find]
    by_cases e : v.toList = (rdOf ByteArray.empty l (j : Int)).toList
    · rw [if_pos e, if_pos e.symm]
    · rw [if_neg e, if_neg (fun h => e h.symm)]

theorem index_is (l : List ByteArray) (v : ByteArray) (hl : l.length < 4611686018427387904) (k : Nat) (hk : l.length < k) : slices_Index_string_string.f k l v = some (find l v 0) := by
  have h := index_tells l v hl l.length k 0 (by omega) hk
  exact h

theorem fit (n : Int) : spec_l01Fit.f n = impl_inBounds.f n := by
  unfold spec_l01Fit.f impl_inBounds.f spec_l01In.f impl_within.f spec_l01Int.f impl_ofInt.f
  simp only [ge_iff_le]
theorem fit_some (n : Int) : ∃ r, impl_inBounds.f n = some r := by
  unfold impl_inBounds.f impl_within.f impl_ofInt.f
  by_cases h1 : n ≥ -2147483648 <;> by_cases h2 : n ≤ 2147483647 <;> simp [h1, h2]
theorem fit_in (n : Int) (h1 : -2147483648 ≤ n) (h2 : n ≤ 2147483647) : impl_inBounds.f n = some (1, n, ⟨#[]⟩, 0) := by
  unfold impl_inBounds.f impl_within.f impl_ofInt.f
  simp [h1, h2]
theorem bool_same (b : Bool) : spec_l01Bool.f b = impl_ofBool.f b := by cases b <;> rfl
theorem bool_some (b : Bool) : ∃ r, impl_ofBool.f b = some r := by cases b <;> exact ⟨_, rfl⟩

theorem tmod_in (a b : Int) (h1 : -2147483648 ≤ a) (h2 : a ≤ 2147483647) : -2147483648 ≤ Int.tmod a b ∧ Int.tmod a b ≤ 2147483647 := by
  have h3 : (Int.tmod a b).natAbs ≤ a.natAbs := by
    rw [Int.natAbs_tmod]
    exact Nat.mod_le _ _
  by_cases h0 : 0 ≤ a
  · have := Int.tmod_nonneg b h0
    omega
  · have h4 : 0 ≤ Int.tmod (-a) b := Int.tmod_nonneg b (by omega)
    rw [Int.neg_tmod] at h4
    omega

theorem arith_same (m : Nat) (op : ByteArray) (k1 : Int) (t1 : ByteArray) (k2 : Int) (t2 : ByteArray) (a b : Int) (h1 : -2147483648 ≤ a) (h2 : a ≤ 2147483647) :
    ∃ r, spec_l01Binary.j1 (m + 2) op false k1 a t1 k2 b t2 = some r ∧ impl_arithmetic.f (m + 1) op a b = some r := by
  obtain ⟨x1, e1⟩ := bool_some (decide (a < b))
  obtain ⟨x2, e2⟩ := fit_some (wrap64 (a + b))
  obtain ⟨x3, e3⟩ := fit_some (wrap64 (a - b))
  obtain ⟨x4, e4⟩ := fit_some (wrap64 (a * b))
  obtain ⟨x5, e5⟩ := fit_some (wrap64 (Int.tdiv a b))
  have h3 := tmod_in a b h1 h2
  unfold impl_arithmetic.f
  simp only [spec_l01Binary.j1, spec_l01Binary.j2, impl_arithmetic.j0, fit, bool_same, e1, e2, e3, e4, e5, spec_l01Int.f, fit_in _ h3.1 h3.2, Option.bind_some, Bool.false_eq_true, if_false]
  by_cases c1 : op.toList = [60]
  · simp [c1]
  by_cases c2 : op.toList = [43]
  · simp [c2]
  by_cases c3 : op.toList = [45]
  · simp [c3]
  by_cases c4 : op.toList = [42]
  · simp [c4]
  by_cases c5 : b = 0
  · simp [c1, c2, c3, c4, c5]
  by_cases c6 : op.toList = [47]
  · by_cases c7 : Int.tmod a b = 0 <;> simp [c5, c6, c7]
  by_cases c8 : op.toList = [37] <;> simp [c1, c2, c3, c4, c5, c6, c8]

theorem binary_same (k : Nat) (hk : 10 ≤ k) (op : ByteArray) (k1 n1 : Int) (t1 : ByteArray) (k2 n2 : Int) (t2 : ByteArray) (hr1 : Right k1 n1 t1) (hr2 : Right k2 n2 t2) :
    ∃ r, spec_l01Binary.f k op k1 n1 t1 k2 n2 t2 = some r ∧ impl_binary.f k op k1 n1 t1 k2 n2 t2 = some r := by
  obtain ⟨k, rfl⟩ : ∃ m, k = m + 5 := ⟨k - 5, by omega⟩
  obtain ⟨x1, e1⟩ := bool_some (k1 == k2 && (n1 == n2 && (t1.toList == t2.toList)))
  obtain ⟨x2, e2⟩ := bool_some (Op.bytesLess t1.toList t2.toList)
  unfold spec_l01Binary.f impl_binary.f
  by_cases c0 : op.toList = [61, 61]
  · refine ⟨(x1.1, x1.2.1, x1.2.2, 0), ?_, ?_⟩
    · rw [if_pos c0, bool_same, e1]
      rfl
    · by_cases a1 : k1 = 3
      · rw [if_pos a1]
        simp only [impl_binary.j0, if_pos c0, e1]
        rfl
      · rw [if_neg a1]
        simp only [impl_binary.j0, if_pos c0, e1]
        rfl
  by_cases a1 : k1 = 3
  · have hn1 : k1 ≠ 1 := by omega
    by_cases a2 : k2 = 3
    · subst a1 a2
      by_cases c1 : op.toList = [60]
      · simp [c0, c1, spec_l01Binary.j0, impl_binary.j0, impl_binary.j1, bool_same, e2]
      by_cases c2 : op.toList = [43]
      · have hs : (t1.size : Int) + t2.size ≤ 120 := by unfold Right at hr1 hr2; omega
        have hw : wrap64 ((t1.size : Int) + t2.size) = (t1.size : Int) + t2.size := by unfold wrap64; omega
        have hs2 : t1.size + t2.size ≤ 9223372036854775807 := by omega
        by_cases c3 : 60 < (t1.size : Int) + t2.size
        · simp [c0, c2, spec_l01Binary.j0, impl_binary.j0, impl_binary.j1, impl_binary.j2, hw, c3]
        · simp [c0, c2, spec_l01Binary.j0, impl_binary.j0, impl_binary.j1, impl_binary.j2, hw, c3, hs2, spec_l01Text.f, impl_ofText.f]
      · simp [c0, c1, c2, spec_l01Binary.j0, spec_l01Binary.j1, impl_binary.j0, impl_binary.j1, impl_binary.j2, impl_binary.j3]
    · simp [c0, a1, a2, spec_l01Binary.j0, spec_l01Binary.j1, impl_binary.j0, impl_binary.j1, impl_binary.j2, impl_binary.j3]
  · by_cases b1 : k1 = 1
    · by_cases b2 : k2 = 1
      · have hb : -2147483648 ≤ n1 ∧ n1 ≤ 2147483647 := by unfold Right at hr1; omega
        obtain ⟨r, h1, h2⟩ := arith_same k op k1 t1 k2 t2 n1 n2 hb.1 hb.2
        have h1' : spec_l01Binary.j1 (k + 4) op false k1 n1 t1 k2 n2 t2 = some r := at_rounds (fun j => (spec_l01Binary.mono_l j).2.1 _ _ _ _ _ _ _ _) (by omega) h1
        have hz : (k2 != 1) = false := by simp [b2]
        refine ⟨r, ?_, ?_⟩
        · simp only [if_neg c0, if_neg a1, spec_l01Binary.j0, Bool.false_eq_true, if_false, if_pos b1, hz]
          exact h1'
        · simp only [if_neg c0, if_neg a1, impl_binary.j0, impl_binary.j1, impl_binary.j2, impl_binary.j3, Bool.false_eq_true, if_false, if_pos b1, hz]
          rw [h2]
          rfl
      · simp [c0, a1, b1, b2, spec_l01Binary.j0, spec_l01Binary.j1, impl_binary.j0, impl_binary.j1, impl_binary.j2, impl_binary.j3]
    · simp [c0, a1, b1, spec_l01Binary.j0, spec_l01Binary.j1, impl_binary.j0, impl_binary.j1, impl_binary.j2, impl_binary.j3]

theorem op_same (k : Nat) (hk : 8 ≤ k) (op : ByteArray) : ∃ b, spec_l01Op.f op = some b ∧ impl_isBinary.f k op = some b := by
  have hb := index_is [⟨#[61, 61]⟩, ⟨#[60]⟩, ⟨#[43]⟩, ⟨#[45]⟩, ⟨#[42]⟩, ⟨#[47]⟩, ⟨#[37]⟩] op (by decide) k (by simp only [List.length_cons, List.length_nil]; omega)
  unfold spec_l01Op.f impl_isBinary.f slices_Contains_string_string.f
  rw [hb]
  simp only [Option.bind_some]
  have t0 : (⟨#[61, 61]⟩ : ByteArray).toList = [61, 61] := by rw [ByteArray.toList_eq]
  have t1 : (⟨#[60]⟩ : ByteArray).toList = [60] := by rw [ByteArray.toList_eq]
  have t2 : (⟨#[43]⟩ : ByteArray).toList = [43] := by rw [ByteArray.toList_eq]
  have t3 : (⟨#[45]⟩ : ByteArray).toList = [45] := by rw [ByteArray.toList_eq]
  have t4 : (⟨#[42]⟩ : ByteArray).toList = [42] := by rw [ByteArray.toList_eq]
  have t5 : (⟨#[47]⟩ : ByteArray).toList = [47] := by rw [ByteArray.toList_eq]
  have t6 : (⟨#[37]⟩ : ByteArray).toList = [37] := by rw [ByteArray.toList_eq]
  simp only [find, t0, t1, t2, t3, t4, t5, t6]
  generalize op.toList = o
  by_cases c0 : [61, 61] = o
  · subst c0; exact ⟨true, by decide, by decide⟩
  by_cases c1 : [60] = o
  · subst c1; exact ⟨true, by decide, by decide⟩
  by_cases c2 : [43] = o
  · subst c2; exact ⟨true, by decide, by decide⟩
  by_cases c3 : [45] = o
  · subst c3; exact ⟨true, by decide, by decide⟩
  by_cases c4 : [42] = o
  · subst c4; exact ⟨true, by decide, by decide⟩
  by_cases c5 : [47] = o
  · subst c5; exact ⟨true, by decide, by decide⟩
  by_cases c6 : [37] = o
  · subst c6; exact ⟨true, by decide, by decide⟩
  refine ⟨false, ?_, ?_⟩
  · rw [if_neg (fun h => c2 h.symm), if_neg (fun h => c3 h.symm), if_neg (fun h => c4 h.symm), if_neg (fun h => c5 h.symm), if_neg (fun h => c6 h.symm), if_neg (fun h => c1 h.symm)]
    exact congrArg some (beq_eq_false_iff_ne.2 (fun h => c0 h.symm))
  · rw [if_neg c0, if_neg c1, if_neg c2, if_neg c3, if_neg c4, if_neg c5, if_neg c6]
    rfl

theorem Binary_same (op : ByteArray) (k1 n1 : Int) (t1 : ByteArray) (k2 n2 : Int) (t2 : ByteArray) :
    ∃ r, spec_Binary.f 20 op k1 n1 t1 k2 n2 t2 = some r ∧ impl_Binary.f 20 op k1 n1 t1 k2 n2 t2 = some r := by
  unfold spec_Binary.f impl_Binary.f
  by_cases hs : (op.size : Int) > 65536
  · rw [if_pos hs, if_pos hs]; exact ⟨_, rfl, rfl⟩
  rw [if_neg hs, if_neg hs]
  simp only [spec_right, impl_right, Option.bind_some]
  by_cases h1 : Right k1 n1 t1
  · rw [decide_eq_true h1]
    by_cases h2 : Right k2 n2 t2
    · rw [decide_eq_true h2]
      obtain ⟨b, ho1, ho2⟩ := op_same 19 (by omega) op
      simp only [spec_Binary.j0, impl_Binary.j0, if_true, Bool.not_true, Bool.false_eq_true, if_false, ho1, ho2, Option.bind_some]
      cases b
      · simp
      · obtain ⟨r, h3, h4⟩ := binary_same 19 (by omega) op k1 n1 t1 k2 n2 t2 h1 h2
        rw [h3, h4]
        simp
    · rw [decide_eq_false h2]
      simp [spec_Binary.j0, impl_Binary.j0]
  · rw [decide_eq_false h1]
    simp [spec_Binary.j0, impl_Binary.j0]

theorem FnExactBinary : GoalFnExactBinary.Pure := by
  intro op k1 n1 t1 k2 n2 t2 _ _ _ ht1 _ _ ht2
  refine ⟨20, ?_⟩
  unfold laws_FnExactBinary.f laws_toValue.f
  by_cases hs : (op.size : Int) > 1048576
  · rw [if_pos hs]
  rw [if_neg hs]
  rcases sz_value k1 n1 t1 1048576 (by omega) (by omega) ht1 with h | ⟨h, hl⟩
  · rw [h]; rfl
  · rw [h]
    simp only [Option.bind_some]
    rw [if_neg (show ¬ (1048576 : Int) - (t1.size : Int) < 0 by omega)]
    rcases sz_value k2 n2 t2 (1048576 - (t1.size : Int)) (by omega) (by omega) ht2 with h2 | ⟨h2, hl2⟩
    · rw [h2]; rfl
    · rw [h2]
      simp only [Option.bind_some]
      rw [if_neg (show ¬ (1048576 : Int) - (t1.size : Int) - (t2.size : Int) < 0 by omega)]
      obtain ⟨r, h3, h4⟩ := Binary_same op k1 n1 t1 k2 n2 t2
      rw [h3, h4]
      simp [laws_eqValue.f, laws_FnExactBinary.j0]

end Go.Proofs.Ythclofmcinknlaa.Pure
