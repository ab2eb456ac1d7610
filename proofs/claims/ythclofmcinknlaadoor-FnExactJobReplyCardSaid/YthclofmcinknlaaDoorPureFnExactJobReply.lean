/- The law FnExactJobReply over plain data; no condition. -/
import Derived.Test.YthclofmcinknlaaDoorGoalFnExactJobReply
import Derived.Test.YthclofmcinknlaaDoorFamFnExactJobReply
import Derived.Lib.ItoaLen
namespace Go.Proofs.YthclofmcinknlaaDoor.Pure
open Go.RowKit Go.Proofs.YthclofmcinknlaaDoor.QFnExactJobReply Go.Proofs.YthclofmcinknlaaDoorW.PrintWords Go.Proofs.YthclofmcinknlaaDoorW.PrintLast Go.Proofs.YthclofmcinknlaaDoor.GoalFnExactJobReply Go.Proofs.YthclofmcinknlaaDoor

set_option linter.unusedSimpArgs false
set_option linter.unusedVariables false

open Go.Proofs.YthclofmcinknlaaDoor.Fam Go.Proofs.YthclofmcinknlaaDoor.FamFnExactJobReply
/-- A right value. -/
def Right (k n : Int) (t : ByteArray) : Prop :=
  (k = 0 ∧ n = 0 ∧ t.toList = []) ∨ (k = 1 ∧ -2147483648 ≤ n ∧ n ≤ 2147483647 ∧ t.toList = []) ∨ (k = 2 ∧ 0 ≤ n ∧ n ≤ 1 ∧ t.toList = []) ∨ (k = 3 ∧ n = 0 ∧ t.size ≤ 60)
instance (k n : Int) (t : ByteArray) : Decidable (Right k n t) := by unfold Right; exact inferInstance

theorem spec_right (k n : Int) (t : ByteArray) : spec_ValueOK.f k n t = some (decide (Right k n t)) := by
  unfold spec_ValueOK.f spec_l01In.f Right
  by_cases h0 : k = 0
  · subst h0
    by_cases hn : n = 0 <;> by_cases ht : t.toList = [] <;> simp [hn, ht]
  by_cases h1 : k = 1
  · subst h1
    by_cases ha : -2147483648 ≤ n <;> by_cases hb : n ≤ 2147483647 <;> by_cases ht : t.toList = [] <;> simp [ha, hb, ht]
  by_cases h2 : k = 2
  · subst h2
    by_cases ha : 0 ≤ n <;> by_cases hb : n ≤ 1 <;> by_cases ht : t.toList = [] <;> simp [ha, hb, ht]
  by_cases h3 : k = 3
  · subst h3
    by_cases hn : n = 0 <;> by_cases ht : t.size ≤ 60 <;> simp [hn, ht] <;> omega
  simp [h0, h1, h2, h3]

theorem impl_right (k n : Int) (t : ByteArray) : impl_ValueOK.f k n t = some (decide (Right k n t)) := by
  unfold impl_ValueOK.f impl_within.f Right
  by_cases h0 : k = 0
  · subst h0
    by_cases hn : n = 0 <;> by_cases ht : t.toList = [] <;> simp [hn, ht]
  by_cases h1 : k = 1
  · subst h1
    by_cases ha : -2147483648 ≤ n <;> by_cases hb : n ≤ 2147483647 <;> by_cases ht : t.toList = [] <;> simp [ha, hb, ht]
  by_cases h2 : k = 2
  · subst h2
    by_cases ha : 0 ≤ n <;> by_cases hb : n ≤ 1 <;> by_cases ht : t.toList = [] <;> simp [ha, hb, ht]
  by_cases h3 : k = 3
  · subst h3
    by_cases hn : n = 0 <;> by_cases ht : t.size ≤ 60 <;> simp [hn, ht] <;> omega
  simp [h0, h1, h2, h3]

/-- The bulk of a value: what is left, or -1. -/
theorem sz_value (k n : Int) (t : ByteArray) (l : Int) (h0 : 0 ≤ l) (h1 : l ≤ 1048576) (ht : t.size ≤ maxLen) :
    (laws_szValue.f k n t l = some (-1)) ∨ (laws_szValue.f k n t l = some (l - t.size) ∧ (t.size : Int) ≤ l) := by
  unfold maxLen at ht
  have e : wrap64 (l - (t.size : Int)) = l - t.size := by unfold wrap64; omega
  unfold laws_szValue.f
  rw [e]
  by_cases h : l - (t.size : Int) < 0
  · rw [if_pos h]; exact .inl rfl
  · rw [if_neg h]; exact .inr ⟨rfl, by omega⟩

theorem digits_nat (u : Nat) (hu : u < 9223372036854775808) : Tos (fun k => spec_l00Digits.f k (u : Int)) (⟨(Lib.decDigits u).toArray⟩ : ByteArray) := by
  induction u using Nat.strongRecOn with
  | _ u ih =>
    by_cases h : u < 10
    · refine ⟨1, fun k hk => ?_⟩
      obtain ⟨k, rfl⟩ : ∃ m, k = m + 1 := ⟨k - 1, by omega⟩
      show spec_l00Digits.f (k + 1) (u : Int) = _
      have e : wrap64 (48 + (u : Int)) % 256 = ((48 + u : Nat) : Int) := by unfold wrap64; omega
      rw [spec_l00Digits.f, if_neg (by omega), if_neg (by omega), if_pos (by omega), e, Lib.decDigits_one h]
      rfl
    · obtain ⟨K, hK⟩ := ih (u / 10) (by omega) (by omega)
      refine ⟨K + 1, fun k hk => ?_⟩
      obtain ⟨k, rfl⟩ : ∃ m, k = m + 1 := ⟨k - 1, by omega⟩
      show spec_l00Digits.f (k + 1) (u : Int) = _
      have e1 : wrap64 (Int.tdiv (u : Int) 10) = ((u / 10 : Nat) : Int) := by
        rw [Int.tdiv_eq_ediv_of_nonneg (by omega)]
        unfold wrap64
        omega
      have e2 : wrap64 (48 + Int.tmod (u : Int) 10) % 256 = ((48 + u % 10 : Nat) : Int) := by
        rw [Int.tmod_eq_emod_of_nonneg (by omega)]
        unfold wrap64
        omega
      have hK' : spec_l00Digits.f k ((u / 10 : Nat) : Int) = _ := hK k (by omega)
      have hl := Lib.itoa_length_le ((u / 10 : Nat) : Int) (by omega) (by omega)
      rw [Lib.itoa_nonneg] at hl
      have hs : (⟨(Lib.decDigits (u / 10)).toArray⟩ : ByteArray).size ≤ 21 := by simpa [ByteArray.size] using hl
      have h1 : (strOfNums [((48 + u % 10 : Nat) : Int)]).size = 1 := rfl
      rw [spec_l00Digits.f, if_neg (by omega), if_neg (by omega), if_neg (by omega), e1, e2, hK']
      simp only [Option.bind_some]
      rw [if_pos (by omega)]
      rw [show Lib.decDigits u = Lib.decDigits (u / 10) ++ [UInt8.ofNat (48 + u % 10)] by rw [Lib.decDigits, dif_neg h]]
      congr 1

/-- The numeral of an int, as the specification writes it. -/
theorem digits (n : Int) (h0 : -9223372036854775808 < n) (h1 : n ≤ 9223372036854775807) : Tos (fun k => spec_l00Digits.f k n) (⟨(Lib.itoa n).toArray⟩ : ByteArray) := by
  by_cases h : n < 0
  · obtain ⟨u, rfl⟩ : ∃ u : Nat, n = -(u : Int) := ⟨n.natAbs, by omega⟩
    obtain ⟨K, hK⟩ := digits_nat u (by omega)
    refine ⟨K + 1, fun k hk => ?_⟩
    obtain ⟨k, rfl⟩ : ∃ m, k = m + 1 := ⟨k - 1, by omega⟩
    show spec_l00Digits.f (k + 1) (-(u : Int)) = _
    have e : wrap64 (- -(u : Int)) = (u : Int) := by unfold wrap64; omega
    have hK' : spec_l00Digits.f k (u : Int) = _ := hK k (by omega)
    have hl := Lib.itoa_length_le (u : Int) (by omega) (by omega)
    rw [Lib.itoa_nonneg] at hl
    have hs : (⟨(Lib.decDigits u).toArray⟩ : ByteArray).size ≤ 21 := by simpa [ByteArray.size] using hl
    rw [spec_l00Digits.f, if_neg (by omega), if_pos (by omega), e, hK']
    simp only [Option.bind_some]
    rw [if_pos (by omega), Lib.itoa_neg u (by omega)]
    congr 1
  · obtain ⟨u, rfl⟩ : ∃ u : Nat, n = (u : Int) := ⟨n.toNat, by omega⟩
    rw [Lib.itoa_nonneg]
    exact digits_nat u (by omega)

theorem digits_size (n : Int) (h0 : -9223372036854775808 ≤ n) (h1 : n ≤ 9223372036854775807) : (⟨(Lib.itoa n).toArray⟩ : ByteArray).size ≤ 21 := by
  have hl := Lib.itoa_length_le n h0 h1
  simpa [ByteArray.size] using hl

theorem app_data (a b : ByteArray) : (a ++ b).toList = a.toList ++ b.toList := by
  rw [ByteArray.toList_eq, ByteArray.toList_eq, ByteArray.toList_eq, ByteArray.data_append, Array.toList_append]

theorem lit_data (a : Array UInt8) : (⟨a⟩ : ByteArray).toList = a.toList := by rw [ByteArray.toList_eq]

theorem value_text (k n : Int) (t : ByteArray) (h : Right k n t) : ∃ x : ByteArray, Tos (fun f => spec_l01ValueText.f f k n t) x ∧ impl_valueText.f k n t = some x ∧ x.size ≤ 60 := by
  unfold spec_l01ValueText.f impl_valueText.f
  rcases h with ⟨rfl, h1, h2⟩ | ⟨rfl, h1, h2, h3⟩ | ⟨rfl, h1, h2, h3⟩ | ⟨rfl, h1, h2⟩
  · exact ⟨⟨#[110, 117, 108, 108]⟩, Tos.of fun _ => by simp, by simp, by decide⟩
  · refine ⟨⟨(Lib.itoa n).toArray⟩, Tos.ifPos rfl (Tos.bind (digits n (by omega) (by omega)) (Tos.pure _)), ?_, Nat.le_trans (digits_size n (by omega) (by omega)) (by decide)⟩
    unfold strconv_Itoa_70.f
    rw [if_neg (by decide), if_pos rfl, if_pos ⟨by omega, by omega⟩]
    rfl
  · by_cases hn : n = 1
    · subst hn
      exact ⟨⟨#[116, 114, 117, 101]⟩, Tos.of fun _ => by simp, by simp [strconv_FormatBool_71.f, strconv_FormatBool_91.f], by decide⟩
    · exact ⟨⟨#[102, 97, 108, 115, 101]⟩, Tos.of fun _ => by simp [hn], by simp [strconv_FormatBool_71.f, strconv_FormatBool_91.f, hn], by decide⟩
  · exact ⟨t, Tos.of fun _ => by simp, by simp, h2⟩

theorem in_spec (a b c : Int) : spec_l01In.f a b c = some (decide (b ≤ a ∧ a ≤ c)) := by
  unfold spec_l01In.f
  by_cases h : b ≤ a <;> by_cases h2 : a ≤ c <;> simp [h, h2]
theorem in_impl (a b c : Int) : impl_within.f a b c = some (decide (b ≤ a ∧ a ≤ c)) := by
  unfold impl_within.f
  by_cases h : b ≤ a <;> by_cases h2 : a ≤ c <;> simp [h, h2]

theorem same (p q r : Int) (u : ByteArray) (v : Int) (w : Bool) (l : List S113) (s a b : Int) (t : ByteArray) (c : Int) : ∃ x : Int × ByteArray × Int, Tos (fun k => spec_JobReply.f k p q r u v w l s a b t c) x ∧ Tos (fun k => impl_JobReply.f k p q r u v w l s a b t c) x := by
  unfold spec_JobReply.f impl_JobReply.f
  have e0 := in_spec s 1 3
  have i0 := in_impl s 1 3
  have e1 := spec_right a b t
  have e2 := impl_right a b t
  have bad1 : Tos (fun k => spec_JobReply.j0 k true l s a b t c) (0, ⟨#[]⟩, 1) := Tos.step (G := fun _ => some ((0 : Int), (⟨#[]⟩ : ByteArray), (1 : Int))) (Tos.pure _) (fun k => by simp only [spec_JobReply.j0, if_true])
  have bad2 : Tos (fun k => impl_JobReply.j0 k true l s a b t c) (0, ⟨#[]⟩, 1) := Tos.step (G := fun _ => some ((0 : Int), (⟨#[]⟩ : ByteArray), (1 : Int))) (Tos.pure _) (fun k => by simp only [impl_JobReply.j0, if_true])
  by_cases hs : 1 ≤ s ∧ s ≤ 3
  · rw [decide_eq_true hs] at e0 i0
    by_cases hr : Right a b t
    · rw [decide_eq_true hr] at e1 e2
      obtain ⟨x, h1, h2, h3⟩ := value_text a b t hr
      suffices hh : ∃ x : Int × ByteArray × Int, Tos (fun k => spec_JobReply.j0 k (!true) l s a b t c) x ∧ Tos (fun k => impl_JobReply.j0 k (!true) l s a b t c) x by
        obtain ⟨x, j1, j2⟩ := hh
        exact ⟨x, Tos.bind (Tos.of fun _ => e0) (Tos.ifPos rfl (Tos.bind (Tos.of fun _ => e1) j1)), Tos.bind (Tos.of fun _ => i0) (Tos.ifPos rfl (Tos.bind (Tos.of fun _ => e2) j2))⟩
      by_cases s1 : s = 1
      · exact ⟨(0, ⟨#[]⟩, 15), Tos.step (G := fun _ => some ((0 : Int), (⟨#[]⟩ : ByteArray), (15 : Int))) (Tos.pure _) (fun k => by simp [spec_JobReply.j0, s1]), Tos.step (G := fun _ => some ((0 : Int), (⟨#[]⟩ : ByteArray), (15 : Int))) (Tos.pure _) (fun k => by simp [impl_JobReply.j0, s1])⟩
      · have g1 : Tos (fun k => spec_l09Reply.f k l s a b t c) (if s = 2 then 200 else 500, x) := by
          unfold spec_l09Reply.f
          by_cases s2 : s = 2
          · rw [if_pos s2]
            exact Tos.ifPos s2 (Tos.bind h1 (Tos.pure _))
          · rw [if_neg s2]
            exact Tos.ifNeg s2 (Tos.bind h1 (Tos.pure _))
        have g2 : impl_statusOf.f s = some (if s = 2 then 200 else 500) := by
          unfold impl_statusOf.f
          split <;> rfl
        refine ⟨(if s = 2 then 200 else 500, x, 0), Tos.step (G := fun k => (spec_l09Reply.f k l s a b t c).bind fun bt => some (bt.1, bt.2, 0)) (Tos.bind g1 (Tos.pure _)) (fun k => ?_), Tos.step (G := fun k => (impl_statusOf.f s).bind fun t217 => (impl_valueText.f a b t).bind fun t218 => some (t217, t218, 0)) (Tos.bind (Tos.of fun _ => g2) (Tos.bind (Tos.of fun _ => h2) (Tos.pure _))) (fun k => ?_)⟩
        · simp only [spec_JobReply.j0, Bool.not_true, Bool.false_eq_true, if_false, if_neg s1]
        · simp only [impl_JobReply.j0, Bool.not_true, Bool.false_eq_true, if_false, if_neg s1]
    · rw [decide_eq_false hr] at e1 e2
      exact ⟨(0, ⟨#[]⟩, 1), Tos.bind (Tos.of fun _ => e0) (Tos.ifPos rfl (Tos.bind (Tos.of fun _ => e1) bad1)), Tos.bind (Tos.of fun _ => i0) (Tos.ifPos rfl (Tos.bind (Tos.of fun _ => e2) bad2))⟩
  · rw [decide_eq_false hs] at e0 i0
    exact ⟨(0, ⟨#[]⟩, 1), Tos.bind (Tos.of fun _ => e0) (Tos.ifNeg (by decide) bad1), Tos.bind (Tos.of fun _ => i0) (Tos.ifNeg (by decide) bad2)⟩

theorem FnExactJobReply : GoalFnExactJobReply.Pure := by
  intro p q r u v w l s a b t c _ _ _ hu _ h0 _ _ _ h4 _
  refine Tos.at (F := fun k => laws_FnExactJobReply.f k p q r u v w l s a b t c) ?_
  unfold laws_FnExactJobReply.f
  obtain ⟨z, hz, ht⟩ := sz_Job p q r u v w l s a b t c hu h0 h4 1048576 (by omega) (by omega)
  rcases hz with rfl | ⟨hz0, hz1, hs⟩
  · exact Tos.bind ht (Tos.ifPos (by decide) (Tos.pure _))
  refine Tos.bind ht (Tos.ifNeg (by omega) ?_)
  have h6 := to_Job p q r u v w l s a b t c hs
  have h7 := eq_Job _ _ _ _ _ _ _ _ _ _ _ _ (el_Job p q r u v w l s a b t c hs)
  generalize g_Job p q r u v w l s a b t c = m at *
  obtain ⟨x, e1, e2⟩ := same m.1 m.2.1 m.2.2.1 m.2.2.2.1 m.2.2.2.2.1 m.2.2.2.2.2.1 m.2.2.2.2.2.2.1 m.2.2.2.2.2.2.2.1 m.2.2.2.2.2.2.2.2.1 m.2.2.2.2.2.2.2.2.2.1 m.2.2.2.2.2.2.2.2.2.2.1 m.2.2.2.2.2.2.2.2.2.2.2
  refine Tos.bind h6 (Tos.bind e1 (Tos.bind h6 (Tos.bind e2 (Tos.eq (Tos.eq ?_)))))
  refine Tos.step (G := fun k => (laws_toJob.f k p q r u v w l s a b t c).bind fun bt => (laws_eqJob.f k m.1 m.2.1 m.2.2.1 m.2.2.2.1 m.2.2.2.2.1 m.2.2.2.2.2.1 m.2.2.2.2.2.2.1 m.2.2.2.2.2.2.2.1 m.2.2.2.2.2.2.2.2.1 m.2.2.2.2.2.2.2.2.2.1 m.2.2.2.2.2.2.2.2.2.2.1 m.2.2.2.2.2.2.2.2.2.2.2 bt.1 bt.2.1 bt.2.2.1 bt.2.2.2.1 bt.2.2.2.2.1 bt.2.2.2.2.2.1 bt.2.2.2.2.2.2.1 bt.2.2.2.2.2.2.2.1 bt.2.2.2.2.2.2.2.2.1 bt.2.2.2.2.2.2.2.2.2.1 bt.2.2.2.2.2.2.2.2.2.2.1 bt.2.2.2.2.2.2.2.2.2.2.2).bind fun t => (if t = true then (some true) else (some false))) ?_ (fun k => ?_)
  · exact Tos.bind h6 (Tos.yes h7 (Tos.pure _))
  · simp only [laws_FnExactJobReply.j0, bne_self_eq_false, Bool.false_eq_true, if_false]

end Go.Proofs.YthclofmcinknlaaDoor.Pure
