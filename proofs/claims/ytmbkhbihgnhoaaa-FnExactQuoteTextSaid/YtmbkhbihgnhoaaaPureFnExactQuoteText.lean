/- The law FnExactQuoteText over plain data; no condition. -/
import Derived.Test.YtmbkhbihgnhoaaaQFnExactQuoteTextx1
import Derived.Test.YtmbkhbihgnhoaaaPlain
namespace Go.Proofs.Ytmbkhbihgnhoaaa.Pure
open Go.RowKit Go.Proofs.Ytmbkhbihgnhoaaa.QFnExactQuoteText Go.Proofs.YtmbkhbihgnhoaaaW.PrintWords Go.Proofs.YtmbkhbihgnhoaaaW.PrintLast

set_option linter.unusedSimpArgs false
set_option linter.unusedVariables false

/-- Do d bytes from j on meet p. -/
def allFrom (p : Int → Bool) (s : ByteArray) : Nat → Nat → Bool
  | 0, _ => true
  | d + 1, j => p (bt s (j : Int)) && allFrom p s d (j + 1)

theorem run_le (p : Int → Bool) (s : ByteArray) (d : Nat) : ∀ j, My.runFrom p s d j ≤ j + d := by
  induction d with
  | zero => intro j; simp [My.runFrom]
  | succ d ih =>
    intro j
    have := ih (j + 1)
    unfold My.runFrom
    split <;> omega

theorem run_all (p : Int → Bool) (s : ByteArray) (d : Nat) : ∀ j, ((My.runFrom p s d j : Int) == ((j + d : Nat) : Int)) = allFrom p s d j := by
  induction d with
  | zero => intro j; simp [My.runFrom, allFrom]
  | succ d ih =>
    intro j
    unfold My.runFrom allFrom
    cases h : p (bt s (j : Int))
    · simp only [Bool.false_eq_true, if_false, Bool.false_and]
      exact beq_eq_false_iff_ne.2 (by omega)
    · simp only [if_true, Bool.true_and]
      rw [← ih (j + 1)]
      congr 1
      omega

theorem run_whole (p : Int → Bool) (s : ByteArray) : ((My.runFrom p s s.size 0 : Int) == (s.size : Int)) = allFrom p s s.size 0 := by
  have h := run_all p s s.size 0
  rw [Nat.zero_add] at h
  exact h

theorem bt_in (s : ByteArray) (i : Int) : wrap64 (bt s i) = bt s i := by
  have := bt_range s i
  unfold wrap64
  omega

theorem plain_tells (s : ByteArray) (hs : s.size < 4611686018427387904) (d : Nat) : ∀ (k j : Nat), j + d = s.size → d < k → spec_l02Plain.l0 k s (j : Int) = some (allFrom impl_printable.p s d j && decide (s.size ≤ 60)) := by
  induction d with
  | zero =>
    intro k j hj hk
    obtain ⟨k, rfl⟩ : ∃ m, k = m + 1 := ⟨k - 1, by omega⟩
    simp only [spec_l02Plain.l0]
    rw [if_neg (by omega)]
    simp [allFrom]
    omega
  | succ d ih =>
    intro k j hj hk
    obtain ⟨k, rfl⟩ : ∃ m, k = m + 1 := ⟨k - 1, by omega⟩
    simp only [spec_l02Plain.l0]
    have e : spec_l01In.f (wrap64 (bt s (j : Int))) 32 126 = some (impl_printable.p (bt s (j : Int))) := by
      rw [bt_in, ← impl_printable.p_is]
      unfold spec_l01In.f impl_printable_1.f
      simp only [ge_iff_le]
    rw [if_pos (by omega), if_pos (by omega), e, Plain.next j (by omega), ih k (j + 1) (by omega) (by omega)]
    simp only [Option.bind_some, allFrom]
    cases impl_printable.p (bt s (j : Int)) <;> simp

theorem spec_plain (s : ByteArray) (hs : s.size < 4611686018427387904) (k : Nat) (hk : s.size < k) : spec_l02Plain.f k s = some (allFrom impl_printable.p s s.size 0 && decide (s.size ≤ 60)) := by
  have h := plain_tells s hs s.size k 0 (by omega) hk
  exact h

theorem impl_word (s : ByteArray) (hs : s.size < 4611686018427387904) : impl_wordText.f s = some (allFrom impl_printable.p s s.size 0 && decide (s.size ≤ 60)) := by
  unfold impl_wordText.f impl_printable.f
  by_cases h : (s.size : Int) ≤ 60
  · rw [if_pos h, if_pos (by omega), run_whole, decide_eq_true (by omega : s.size ≤ 60)]
    simp
  · rw [if_neg h, decide_eq_false (by omega : ¬ s.size ≤ 60)]
    simp

theorem quote_tells (s : ByteArray) (hs : s.size ≤ 35184372088832) (d : Nat) : ∀ (k j : Nat), j + d = s.size → d < k → spec_l02Quote.l0 k s (impl_quoteText.upto s j) (j : Int) = some (strOfNums (impl_quoteText.upto s s.size ++ [39])) := by
  induction d with
  | zero =>
    intro k j hj hk
    obtain ⟨k, rfl⟩ : ∃ m, k = m + 1 := ⟨k - 1, by omega⟩
    have hl := impl_quoteText.upto_le s j
    simp only [spec_l02Quote.l0]
    rw [if_neg (by omega), if_pos (by omega), show j = s.size by omega]
  | succ d ih =>
    intro k j hj hk
    obtain ⟨k, rfl⟩ : ∃ m, k = m + 1 := ⟨k - 1, by omega⟩
    have hl := impl_quoteText.upto_le s j
    have h := ih k (j + 1) (by omega) (by omega)
    generalize hF : strOfNums (impl_quoteText.upto s s.size ++ [39]) = F at h ⊢
    unfold impl_quoteText.upto at h
    simp only [spec_l02Quote.l0]
    rw [if_pos (by omega), if_pos (by omega), Plain.next j (by omega)]
    by_cases c1 : bt s (j : Int) = 39
    · rw [if_pos c1, if_pos (by omega)]
      rw [if_pos c1] at h
      simp only [Option.bind_some]
      rw [if_pos (by simp; omega)]
      exact h
    · rw [if_neg c1]
      rw [if_neg c1] at h
      by_cases c2 : bt s (j : Int) = 92
      · rw [if_pos c2, if_pos (by omega)]
        rw [if_pos c2] at h
        simp only [Option.bind_some]
        rw [if_pos (by simp; omega)]
        exact h
      · rw [if_neg c2, if_pos (by omega)]
        rw [if_neg c2] at h
        exact h

theorem spec_quote (s : ByteArray) (hs : s.size ≤ 35184372088832) (k : Nat) (hk : s.size < k) : spec_l02Quote.f k s = some (strOfNums (impl_quoteText.upto s s.size ++ [39])) := by
  have h := quote_tells s hs s.size k 0 (by omega) hk
  exact h
theorem impl_quote (s : ByteArray) (hs : s.size ≤ 35184372088832) : impl_quoteText.f s = some (strOfNums (impl_quoteText.upto s s.size ++ [39])) := by
  unfold impl_quoteText.f
  rw [if_pos hs]

theorem FnExactQuoteText : laws_FnExactQuoteText.Pure := by
  intro s _
  refine ⟨s.size + 1, ?_⟩
  unfold laws_FnExactQuoteText.f
  by_cases hb : (s.size : Int) > 1048576
  · rw [if_pos hb]
  rw [if_neg hb]
  unfold spec_QuoteText.f impl_QuoteText.f
  rw [spec_plain s (by omega) _ (by omega), impl_word s (by omega), spec_quote s (by omega) _ (by omega), impl_quote s (by omega)]
  simp only [Option.bind_some]
  by_cases h1 : (s.size : Int) > 65536
  · rw [if_pos h1]
    simp
  rw [if_neg h1]
  cases (allFrom impl_printable.p s s.size 0 && decide (s.size ≤ 60)) <;> simp

end Go.Proofs.Ytmbkhbihgnhoaaa.Pure
