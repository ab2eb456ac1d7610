/- The law FnExactFuncsOf over plain data; no condition. -/
import Derived.Test.YtngcheicabbpoaaGoalFnExactFuncsOf
import Derived.Test.YtngcheicabbpoaaFamFnExactFuncsOf
namespace Go.Proofs.Ytngcheicabbpoaa.Pure
open Go.RowKit Go.Proofs.Ytngcheicabbpoaa.QFnExactFuncsOf Go.Proofs.YtngcheicabbpoaaW.PrintWords Go.Proofs.YtngcheicabbpoaaW.PrintLast Go.Proofs.Ytngcheicabbpoaa.GoalFnExactFuncsOf Go.Proofs.Ytngcheicabbpoaa

set_option linter.unusedSimpArgs false
set_option linter.unusedVariables false

open Go.Proofs.Ytngcheicabbpoaa.Fam Go.Proofs.Ytngcheicabbpoaa.FamFnExactFuncsOf
namespace NameP
/-- A letter, a digit. -/
def letter (c : Int) : Bool := (impl_isLetter.f c).getD false
def digit (c : Int) : Bool := (impl_isDigit.f c).getD false

theorem letter_is (c : Int) : impl_isLetter.f c = some (letter c) := by
  unfold letter impl_isLetter.f
  repeat' split
  all_goals rfl
theorem digit_is (c : Int) : impl_isDigit.f c = some (digit c) := by
  unfold digit impl_isDigit.f
  repeat' split
  all_goals rfl
theorem letter_is' (c : Int) : spec_l00Letter.f c = some (letter c) := letter_is c
theorem digit_is' (c : Int) : spec_l00Digit.f c = some (digit c) := digit_is c

theorem next (j : Nat) (h : j < 1000000) : wrap64 ((j : Int) + 1) = ((j + 1 : Nat) : Int) := by
  unfold wrap64
  omega

/-- Are d bytes from j on letters or digits. -/
def all (s : ByteArray) : Nat → Nat → Bool
  | 0, _ => true
  | d + 1, j => (letter (bt s (j : Int)) || digit (bt s (j : Int))) && all s d (j + 1)

theorem impl_tells (s : ByteArray) (hs : s.size < 1000000) (d : Nat) : ∀ (k j : Nat), j + d = s.size → d < k → impl_NameOK.l0 k s (s.size : Int) (j : Int) = some (all s d j) := by
  induction d with
  | zero =>
    intro k j hj hk
    obtain ⟨k, rfl⟩ : ∃ m, k = m + 1 := ⟨k - 1, by omega⟩
    simp only [impl_NameOK.l0]
    rw [if_neg (by omega)]
    rfl
  | succ d ih =>
    intro k j hj hk
    obtain ⟨k, rfl⟩ : ∃ m, k = m + 1 := ⟨k - 1, by omega⟩
    simp only [impl_NameOK.l0]
    rw [if_pos (by omega), if_pos (by omega), if_pos (by omega), letter_is, digit_is, next j (by omega), ih k (j + 1) (by omega) (by omega)]
    simp only [Option.bind_some, all]
    cases letter (bt s (j : Int)) <;> cases digit (bt s (j : Int)) <;> simp

theorem spec_tells (s : ByteArray) (hs : s.size < 1000000) (d : Nat) : ∀ (k j : Nat), j + d = s.size → d < k → spec_l00Word.l0 k s (j : Int) = some (all s d j) := by
  induction d with
  | zero =>
    intro k j hj hk
    obtain ⟨k, rfl⟩ : ∃ m, k = m + 1 := ⟨k - 1, by omega⟩
    simp only [spec_l00Word.l0]
    rw [if_neg (by omega)]
    rfl
  | succ d ih =>
    intro k j hj hk
    obtain ⟨k, rfl⟩ : ∃ m, k = m + 1 := ⟨k - 1, by omega⟩
    simp only [spec_l00Word.l0]
    rw [if_pos (by omega), if_pos (by omega), letter_is', digit_is', next j (by omega), ih k (j + 1) (by omega) (by omega)]
    simp only [Option.bind_some, all]
    cases letter (bt s (j : Int)) <;> cases digit (bt s (j : Int)) <;> simp

theorem apart (c : Int) (h : letter c = true) : digit c = false := by
  unfold letter impl_isLetter.f at h
  unfold digit impl_isDigit.f
  by_cases h1 : c ≥ 48
  · rw [if_pos h1]
    simp only [Option.getD_some, decide_eq_false_iff_not]
    intro h2
    rw [if_neg (by omega), if_neg (by omega)] at h
    simp only [Option.getD_some, beq_iff_eq] at h
    omega
  · rw [if_neg h1]
    rfl

/-- What both tell. -/
def name (s : ByteArray) : Bool := decide (1 ≤ s.size ∧ s.size ≤ 40) && letter (bt s 0) && all s (s.size - 1) 1

theorem spec_name (s : ByteArray) (k : Nat) (hk : 60 < k) : spec_NameOK.f k s = some (name s) := by
  obtain ⟨k, rfl⟩ : ∃ m, k = m + 1 := ⟨k - 1, by omega⟩
  unfold spec_NameOK.f spec_l00Word.f name
  by_cases h1 : (s.size : Int) < 1
  · rw [if_pos h1, decide_eq_false (by omega)]
    simp [spec_l00Word.j0]
  · rw [if_neg h1]
    by_cases h2 : (s.size : Int) > 40
    · rw [if_pos h2, decide_eq_false (by omega)]
      simp [spec_l00Word.j0]
    · rw [if_neg h2, if_pos (by omega), letter_is', decide_eq_true (by omega)]
      have h := spec_tells s (by omega) (s.size - 1) k 1 (by omega) (by omega)
      simp only [Option.bind_some, spec_l00Word.j0]
      rw [show spec_l00Word.l0 k s 1 = some (all s (s.size - 1) 1) from h]
      cases letter (bt s 0) <;> simp

theorem impl_name (s : ByteArray) (k : Nat) (hk : 60 < k) : impl_NameOK.f k s = some (name s) := by
  obtain ⟨k, rfl⟩ : ∃ m, k = m + 1 := ⟨k - 1, by omega⟩
  unfold impl_NameOK.f impl_within.f name
  by_cases h1 : (s.size : Int) < 1
  · rw [if_neg (by omega), decide_eq_false (by omega)]
    simp [impl_NameOK.j0]
  · rw [if_pos (by omega)]
    by_cases h2 : (s.size : Int) > 40
    · rw [decide_eq_false (by omega), decide_eq_false (by omega)]
      simp [impl_NameOK.j0]
    · rw [decide_eq_true (by omega), decide_eq_true (by omega)]
      have h := impl_tells s (by omega) s.size k 0 (by omega) (by omega)
      have e : all s s.size 0 = ((letter (bt s 0) || digit (bt s 0)) && all s (s.size - 1) 1) := by
        obtain ⟨d, hd⟩ : ∃ d, s.size = d + 1 := ⟨s.size - 1, by omega⟩
        rw [hd]
        rfl
      simp only [Option.bind_some, if_true]
      rw [if_pos (by omega), digit_is]
      simp only [Option.bind_some, impl_NameOK.j0]
      rw [show impl_NameOK.l0 k s (s.size : Int) 0 = some (all s s.size 0) from h, e]
      cases hl : letter (bt s 0)
      · cases digit (bt s 0) <;> simp
      · rw [apart _ hl]
        simp
end NameP

namespace WordP
/-- The place of the first text that is v, counted from j; -1 without one. -/
def find : List ByteArray → ByteArray → Nat → Int
  | [], _, _ => -1
  | x :: xs, v, j => if x.toList = v.toList then (j : Int) else find xs v (j + 1)

theorem drop_at (l : List ByteArray) (j : Nat) (h : j < l.length) : l.drop j = rdOf ByteArray.empty l (j : Int) :: l.drop (j + 1) := by
  rw [List.drop_eq_getElem_cons h]
  simp [rdOf, h]

theorem next (j : Nat) (h : j < 1000000) : wrap64 ((j : Int) + 1) = ((j + 1 : Nat) : Int) := by
  unfold wrap64
  omega

theorem index_tells (l : List ByteArray) (v : ByteArray) (hl : l.length < 1000000) (d : Nat) : ∀ (k j : Nat), j + d = l.length → d < k →
    slices_Index_string_string.l0 k l v (l.length : Int) (j : Int) = some (find (l.drop j) v j) := by
  induction d with
  | zero =>
    intro k j hj hk
    obtain ⟨k, rfl⟩ : ∃ m, k = m + 1 := ⟨k - 1, by omega⟩
    simp only [slices_Index_string_string.l0]
    rw [if_neg (by omega), List.drop_of_length_le (by omega)]
    rfl
  | succ d ih =>
    intro k j hj hk
    obtain ⟨k, rfl⟩ : ∃ m, k = m + 1 := ⟨k - 1, by omega⟩
    simp only [slices_Index_string_string.l0]
    rw [if_pos (by omega), if_pos (by omega), if_pos (by omega), drop_at l j (by omega), next j (by omega), ih k (j + 1) (by omega) (by omega)]
    simp only [find]
    by_cases e : v.toList = (rdOf ByteArray.empty l (j : Int)).toList
    · rw [if_pos e, if_pos e.symm]
    · rw [if_neg e, if_neg (fun h => e h.symm)]

theorem find_low (l : List ByteArray) (v : ByteArray) (j : Nat) : find l v j = -1 ∨ (j : Int) ≤ find l v j := by
  induction l generalizing j with
  | nil => exact .inl rfl
  | cons x xs ih =>
    simp only [find]
    split
    · exact .inr (by omega)
    · rcases ih (j + 1) with h | h
      · exact .inl h
      · exact .inr (by omega)

theorem spec_tells (l : List ByteArray) (v : ByteArray) (hl : l.length < 1000000) (d : Nat) : ∀ (k j : Nat), j + d = l.length → d < k →
    spec_WordOK.l0 k v l (j : Int) = some (decide (find (l.drop j) v j ≥ 0)) := by
  induction d with
  | zero =>
    intro k j hj hk
    obtain ⟨k, rfl⟩ : ∃ m, k = m + 1 := ⟨k - 1, by omega⟩
    simp only [spec_WordOK.l0]
    rw [if_neg (by omega), List.drop_of_length_le (by omega)]
    rfl
  | succ d ih =>
    intro k j hj hk
    obtain ⟨k, rfl⟩ : ∃ m, k = m + 1 := ⟨k - 1, by omega⟩
    simp only [spec_WordOK.l0]
    rw [if_pos (by omega), if_pos (by omega), drop_at l j (by omega), next j (by omega), ih k (j + 1) (by omega) (by omega)]
    by_cases e : (rdOf ByteArray.empty l (j : Int)).toList = v.toList
    · rw [if_pos e]
      have hf : find (rdOf ByteArray.empty l (j : Int) :: l.drop (j + 1)) v j = (j : Int) := if_pos e
      exact congrArg some (decide_eq_true (by omega)).symm
    · rw [if_neg e]
      exact congrArg (fun z : Int => some (decide (z ≥ 0))) (if_neg e).symm

/-- The words. -/
def W : List ByteArray := (impl_sourceWords.f).getD []

theorem words : impl_sourceWords.f = some W := rfl
theorem words2 : spec_l02Words.f = some W := rfl
theorem W_length : W.length = 12 := rfl

theorem long_none (v : ByteArray) (h : (v.size : Int) > 65536) : ∀ (l : List ByteArray) (j : Nat), (∀ x ∈ l, x.size ≤ 10) → find l v j = -1 := by
  intro l
  induction l with
  | nil => exact fun _ _ => rfl
  | cons x xs ih =>
    intro j hx
    simp only [find]
    rw [if_neg, ih (j + 1) (fun y hy => hx y (List.mem_cons_of_mem _ hy))]
    intro e
    have h1 := hx x (List.mem_cons_self ..)
    have h2 : x.toList.length = v.toList.length := by rw [e]
    rw [ByteArray.toList_eq, ByteArray.toList_eq] at h2
    simp only [Array.length_toList] at h2
    have h3 : x.data.size = x.size := rfl
    have h4 : v.data.size = v.size := rfl
    omega

theorem W_short : ∀ x ∈ W, x.size ≤ 10 := by decide
end WordP

namespace OpP
def find : List ByteArray → ByteArray → Nat → Int
  | [], _, _ => -1
  | x :: xs, v, j => if x.toList = v.toList then (j : Int) else find xs v (j + 1)

theorem drop_at (l : List ByteArray) (j : Nat) (h : j < l.length) : l.drop j = rdOf ByteArray.empty l (j : Int) :: l.drop (j + 1) := by
  rw [List.drop_eq_getElem_cons h]
  simp [rdOf, h]

theorem index_tells (l : List ByteArray) (v : ByteArray) (hl : l.length < 4611686018427387904) (d : Nat) : ∀ (k j : Nat), j + d = l.length → d < k →
    slices_Index_string_string.l0 k l v (l.length : Int) (j : Int) = some (find (l.drop j) v j) := by
  induction d with
  | zero =>
    intro k j hj hk
    obtain ⟨k, rfl⟩ : ∃ m, k = m + 1 := ⟨k - 1, by omega⟩
    simp only [slices_Index_string_string.l0]
    rw [if_neg (by omega), List.drop_of_length_le (by omega)]
    rfl
  | succ d ih =>
    intro k j hj hk
    obtain ⟨k, rfl⟩ : ∃ m, k = m + 1 := ⟨k - 1, by omega⟩
    simp only [slices_Index_string_string.l0]
    rw [if_pos (by omega), if_pos (by omega), if_pos (by omega), drop_at l j (by omega), Plain.next j (by omega), ih k (j + 1) (by omega) (by omega)]
    simp only [find]
    by_cases e : v.toList = (rdOf ByteArray.empty l (j : Int)).toList
    · rw [if_pos e, if_pos e.symm]
    · rw [if_neg e, if_neg (fun h => e h.symm)]

theorem index_is (l : List ByteArray) (v : ByteArray) (hl : l.length < 4611686018427387904) (k : Nat) (hk : l.length < k) : slices_Index_string_string.f k l v = some (find l v 0) := by
  have h := index_tells l v hl l.length k 0 (by omega) hk
  exact h
theorem op_same (k : Nat) (hk : 8 ≤ k) (op : ByteArray) : ∃ b, spec_l01Op.f op = some b ∧ impl_isBinary.f k op = some b := by
  have hb := index_is [⟨#[61, 61]⟩, ⟨#[60]⟩, ⟨#[43]⟩, ⟨#[45]⟩, ⟨#[42]⟩, ⟨#[47]⟩, ⟨#[37]⟩] op (by decide) k (by simp only [List.length_cons, List.length_nil]; omega)
  unfold spec_l01Op.f impl_isBinary.f slices_Contains_string_string.f
  rw [hb]
  simp only [Option.bind_some]
  have t0 : (⟨#[61, 61]⟩ : ByteArray).toList = [61, 61] := by rw [ByteArray.toList_eq]
  have t1 : (⟨#[60]⟩ : ByteArray).toList = [60] := by rw [ByteArray.toList_eq]
  have t2 : (⟨#[43]⟩ : ByteArray).toList = [43] := by rw [ByteArray.toList_eq]
  have t3 : (⟨#[45]⟩ : ByteArray).toList = [45] := by rw [ByteArray.toList_eq]
  have t4 : (⟨#[42]⟩ : ByteArray).toList = [42] := by rw [ByteArray.toList_eq]
  have t5 : (⟨#[47]⟩ : ByteArray).toList = [47] := by rw [ByteArray.toList_eq]
  have t6 : (⟨#[37]⟩ : ByteArray).toList = [37] := by rw [ByteArray.toList_eq]
  simp only [find, t0, t1, t2, t3, t4, t5, t6]
  generalize op.toList = o
  by_cases c0 : [61, 61] = o
  · subst c0; exact ⟨true, by decide, by decide⟩
  by_cases c1 : [60] = o
  · subst c1; exact ⟨true, by decide, by decide⟩
  by_cases c2 : [43] = o
  · subst c2; exact ⟨true, by decide, by decide⟩
  by_cases c3 : [45] = o
  · subst c3; exact ⟨true, by decide, by decide⟩
  by_cases c4 : [42] = o
  · subst c4; exact ⟨true, by decide, by decide⟩
  by_cases c5 : [47] = o
  · subst c5; exact ⟨true, by decide, by decide⟩
  by_cases c6 : [37] = o
  · subst c6; exact ⟨true, by decide, by decide⟩
  refine ⟨false, ?_, ?_⟩
  · rw [if_neg (fun h => c2 h.symm), if_neg (fun h => c3 h.symm), if_neg (fun h => c4 h.symm), if_neg (fun h => c5 h.symm), if_neg (fun h => c6 h.symm), if_neg (fun h => c1 h.symm)]
    exact congrArg some (beq_eq_false_iff_ne.2 (fun h => c0 h.symm))
  · rw [if_neg c0, if_neg c1, if_neg c2, if_neg c3, if_neg c4, if_neg c5, if_neg c6]
    rfl
end OpP

/-- Do d bytes from j on meet p. -/
def allFrom (p : Int → Bool) (s : ByteArray) : Nat → Nat → Bool
  | 0, _ => true
  | d + 1, j => p (bt s (j : Int)) && allFrom p s d (j + 1)

theorem run_le (p : Int → Bool) (s : ByteArray) (d : Nat) : ∀ j, My.runFrom p s d j ≤ j + d := by
  induction d with
  | zero => intro j; simp [My.runFrom]
  | succ d ih =>
    intro j
    have := ih (j + 1)
    unfold My.runFrom
    split <;> omega

theorem run_all (p : Int → Bool) (s : ByteArray) (d : Nat) : ∀ j, ((My.runFrom p s d j : Int) == ((j + d : Nat) : Int)) = allFrom p s d j := by
  induction d with
  | zero => intro j; simp [My.runFrom, allFrom]
  | succ d ih =>
    intro j
    unfold My.runFrom allFrom
    cases h : p (bt s (j : Int))
    · simp only [Bool.false_eq_true, if_false, Bool.false_and]
      exact beq_eq_false_iff_ne.2 (by omega)
    · simp only [if_true, Bool.true_and]
      rw [← ih (j + 1)]
      congr 1
      omega

theorem run_whole (p : Int → Bool) (s : ByteArray) : ((My.runFrom p s s.size 0 : Int) == (s.size : Int)) = allFrom p s s.size 0 := by
  have h := run_all p s s.size 0
  rw [Nat.zero_add] at h
  exact h

theorem bt_in (s : ByteArray) (i : Int) : wrap64 (bt s i) = bt s i := by
  have := bt_range s i
  unfold wrap64
  omega

theorem plain_tells (s : ByteArray) (hs : s.size < 4611686018427387904) (d : Nat) : ∀ (k j : Nat), j + d = s.size → d < k → spec_l02Plain.l0 k s (j : Int) = some (allFrom impl_printable.p s d j && decide (s.size ≤ 60)) := by
  induction d with
  | zero =>
    intro k j hj hk
    obtain ⟨k, rfl⟩ : ∃ m, k = m + 1 := ⟨k - 1, by omega⟩
    simp only [spec_l02Plain.l0]
    rw [if_neg (by omega)]
    simp [allFrom]
    omega
  | succ d ih =>
    intro k j hj hk
    obtain ⟨k, rfl⟩ : ∃ m, k = m + 1 := ⟨k - 1, by omega⟩
    simp only [spec_l02Plain.l0]
    have e : spec_l01In.f (wrap64 (bt s (j : Int))) 32 126 = some (impl_printable.p (bt s (j : Int))) := by
      rw [bt_in, ← impl_printable.p_is]
      unfold spec_l01In.f impl_printable_1.f
      simp only [ge_iff_le]
    rw [if_pos (by omega), if_pos (by omega), e, Plain.next j (by omega), ih k (j + 1) (by omega) (by omega)]
    simp only [Option.bind_some, allFrom]
    cases impl_printable.p (bt s (j : Int)) <;> simp

theorem spec_plain (s : ByteArray) (hs : s.size < 4611686018427387904) (k : Nat) (hk : s.size < k) : spec_l02Plain.f k s = some (allFrom impl_printable.p s s.size 0 && decide (s.size ≤ 60)) := by
  have h := plain_tells s hs s.size k 0 (by omega) hk
  exact h

theorem impl_word (s : ByteArray) (hs : s.size < 4611686018427387904) : impl_wordText.f s = some (allFrom impl_printable.p s s.size 0 && decide (s.size ≤ 60)) := by
  unfold impl_wordText.f impl_printable.f
  by_cases h : (s.size : Int) ≤ 60
  · rw [if_pos h, if_pos (by omega), run_whole, decide_eq_true (by omega : s.size ≤ 60)]
    simp
  · rw [if_neg h, decide_eq_false (by omega : ¬ s.size ≤ 60)]
    simp

/-- Is a text a name that may be given. -/
def ident (s : ByteArray) : Bool := NameP.name s && (decide (s.size ≤ 20) && !decide (WordP.find (WordP.W.drop 0) s 0 ≥ 0))
theorem word_impl (v : ByteArray) (k : Nat) (hk : 30 ≤ k) : impl_WordOK.f k v = some (decide (WordP.find (WordP.W.drop 0) v 0 ≥ 0)) := by
  refine at_rounds (g := fun k => impl_WordOK.f k v) (impl_WordOK.mono v) hk ?_
  have h2 : slices_Index_string_string.f 30 WordP.W v = some (WordP.find (WordP.W.drop 0) v 0) := WordP.index_tells WordP.W v (by rw [WordP.W_length]; omega) 12 30 0 rfl (by omega)
  show impl_WordOK.f 30 v = _
  unfold impl_WordOK.f slices_Contains_string_string.f
  rw [WordP.words]
  simp only [Option.bind_some]
  rw [h2]
  rfl
theorem word_spec (v : ByteArray) (k : Nat) (hk : 30 ≤ k) : spec_WordOK.f k v = some (decide (WordP.find (WordP.W.drop 0) v 0 ≥ 0)) := by
  refine at_rounds (g := fun k => spec_WordOK.f k v) (spec_WordOK.mono v) hk ?_
  show spec_WordOK.f 30 v = _
  unfold spec_WordOK.f
  by_cases hv : (v.size : Int) > 65536
  · rw [if_pos hv, List.drop_zero, WordP.long_none v hv WordP.W 0 WordP.W_short]
    rfl
  · rw [if_neg hv, WordP.words2]
    exact WordP.spec_tells WordP.W v (by rw [WordP.W_length]; omega) 12 30 0 rfl (by omega)
theorem ident_spec (s : ByteArray) (k : Nat) (hk : 60 < k) : spec_l03Name.f k s = some (ident s) := by
  unfold spec_l03Name.f ident
  rw [NameP.spec_name s k hk, word_spec s k (by omega)]
  simp only [Option.bind_some]
  cases NameP.name s
  · rfl
  · by_cases h : (s.size : Int) ≤ 20
    · rw [if_pos rfl, if_pos h, decide_eq_true (show s.size ≤ 20 by omega)]
      rfl
    · rw [if_pos rfl, if_neg h, decide_eq_false (show ¬ s.size ≤ 20 by omega)]
      rfl
theorem ident_impl (s : ByteArray) (k : Nat) (hk : 60 < k) : impl_identOK.f k s = some (ident s) := by
  unfold impl_identOK.f ident
  rw [NameP.impl_name s k hk, word_impl s k (by omega)]
  simp only [Option.bind_some]
  cases NameP.name s
  · rfl
  · by_cases h : (s.size : Int) ≤ 20
    · rw [if_pos rfl, if_pos h, decide_eq_true (show s.size ≤ 20 by omega)]
      rfl
    · rw [if_pos rfl, if_neg h, decide_eq_false (show ¬ s.size ≤ 20 by omega)]
      rfl
theorem names_spec (a0 a1 : Int) (a2 : ByteArray) (l3 : List ByteArray) (l4 : List Int) (hl : l3.length ≤ 4611686018427387904) (d : Nat) : ∀ (j k : Nat), j + d = l3.length → d + 62 < k → spec_l03Node.l0 k (j : Int) a0 a1 a2 l3 l4 = some ((l3.drop j).all ident && ident a2) := by
  induction d with
  | zero =>
    intro j k hj hk
    obtain ⟨k, rfl⟩ : ∃ m, k = m + 1 := ⟨k - 1, by omega⟩
    simp only [spec_l03Node.l0]
    rw [if_neg (by omega), ident_spec a2 k (by omega), List.drop_eq_nil_iff.2 (by omega)]
    rfl
  | succ d ih =>
    intro j k hj hk
    obtain ⟨k, rfl⟩ : ∃ m, k = m + 1 := ⟨k - 1, by omega⟩
    have hj' : j < l3.length := by omega
    have e : rdOf ByteArray.empty l3 (j : Int) = l3[j] := by
      unfold rdOf
      rw [Int.toNat_natCast, List.getD_eq_getElem?_getD, List.getElem?_eq_getElem hj']
      rfl
    have e2 : wrap64 ((j : Int) + 1) = ((j + 1 : Nat) : Int) := by unfold wrap64; omega
    simp only [spec_l03Node.l0]
    rw [if_pos (by omega), if_pos (by omega), e, ident_spec _ k (by omega), e2, List.drop_eq_getElem_cons hj', List.all_cons]
    simp only [Option.bind_some]
    cases hi : ident l3[j]
    · rfl
    · rw [if_pos rfl, ih (j + 1) k (by omega) (by omega)]
      rfl
theorem names_impl (l3 : List ByteArray) (hl : l3.length ≤ 4611686018427387904) (k : Nat) (hk : 60 < k) : impl_Node_fieldsOK.names k l3 = some (l3.all ident) := by
  unfold impl_Node_fieldsOK.names
  rw [if_pos ⟨hl, fun x _ => by rw [ident_impl x k hk]; rfl⟩]
  congr 1
  congr 1
  funext x
  rw [ident_impl x k hk]
  cases ident x <;> rfl
theorem e_toList : (⟨#[]⟩ : ByteArray).toList = [] := by rw [ByteArray.toList_eq]
/-- A node is right by itself: both answer alike. -/
theorem node_same (a0 a1 : Int) (a2 : ByteArray) (l3 : List ByteArray) (l4 : List Int) (ht : a2.size < 4611686018427387904) (hl : l3.length ≤ 4611686018427387904) :
    ∃ b, Tos (fun k => spec_l03Node.f k a0 a1 a2 l3 l4) b ∧ Tos (fun k => impl_Node_fieldsOK.f k a0 a1 a2 l3 l4) b := by
  have hs : ∀ (b : Bool) (K : Nat), (∀ k, K ≤ k → spec_l03Node.f (k + 2) a0 a1 a2 l3 l4 = some b) → Tos (fun k => spec_l03Node.f k a0 a1 a2 l3 l4) b := fun b K h => ⟨K + 2, fun k hk => by
    obtain ⟨k, rfl⟩ : ∃ m, k = m + 2 := ⟨k - 2, by omega⟩
    exact h k (by omega)⟩
  obtain ⟨op, ho1, ho2⟩ := OpP.op_same 8 (Nat.le_refl _) a2
  have ho3 : ∀ k, 8 ≤ k → impl_isBinary.f k a2 = some op := fun k hk => at_rounds (g := fun k => impl_isBinary.f k a2) (impl_isBinary.mono a2) hk ho2
  by_cases c1 : a0 = 1
  · subst c1
    refine ⟨decide (0 ≤ a1) && (decide (a1 ≤ 2147483647) && ((a2.toList == []) && ((l3.length : Int) == 0))), hs _ 0 (fun k _ => ?_), Tos.of fun k => ?_⟩
    · unfold spec_l03Node.f
      simp only [spec_l03Node.j0]
      by_cases h1 : 0 ≤ a1 <;> by_cases h2 : a1 ≤ 2147483647 <;> by_cases h3 : a2.toList = [] <;> simp [spec_l01In.f, h1, h2, h3]
    · unfold impl_Node_fieldsOK.f impl_Node_fieldsOK.bad impl_Node_plain.keptN impl_Node_plain.keptT impl_Node_fieldsOK.keptL
      by_cases h1 : 0 ≤ a1 <;> by_cases h2 : a1 ≤ 2147483647 <;> by_cases h3 : a2.toList = [] <;> by_cases h4 : l3 = [] <;> simp [e_toList, h1, h2, h3, h4, Ne.symm] <;> simp_all [eq_comm]
  by_cases c3 : a0 = 3
  · subst c3
    refine ⟨decide (0 ≤ a1) && (decide (a1 ≤ 1) && ((a2.toList == []) && ((l3.length : Int) == 0))), hs _ 0 (fun k _ => ?_), Tos.of fun k => ?_⟩
    · unfold spec_l03Node.f
      simp only [spec_l03Node.j0]
      by_cases h1 : 0 ≤ a1 <;> by_cases h2 : a1 ≤ 1 <;> by_cases h3 : a2.toList = [] <;> simp [spec_l01In.f, h1, h2, h3]
    · unfold impl_Node_fieldsOK.f impl_Node_fieldsOK.bad impl_Node_plain.keptN impl_Node_plain.keptT impl_Node_fieldsOK.keptL
      by_cases h1 : 0 ≤ a1 <;> by_cases h2 : a1 ≤ 1 <;> by_cases h3 : a2.toList = [] <;> by_cases h4 : l3 = [] <;> simp [e_toList, h1, h2, h3, h4, Ne.symm] <;> simp_all [eq_comm]
  by_cases hn : a1 = 0
  case neg =>
    refine ⟨false, hs _ 0 (fun k _ => ?_), Tos.of fun k => ?_⟩
    · unfold spec_l03Node.f
      simp only [spec_l03Node.j0, spec_l03Node.j1]
      simp [c1, c3, hn]
    · unfold impl_Node_fieldsOK.f impl_Node_fieldsOK.bad impl_Node_plain.keptN
      simp [c1, c3, Ne.symm hn]
  subst hn
  by_cases c20 : a0 = 20
  · subst c20
    refine ⟨l3.all ident && ident a2, hs _ (l3.length + 70) (fun k hk => ?_), 70, fun k hk => ?_⟩
    · have h := names_spec 20 0 a2 l3 l4 hl l3.length 0 k (by omega) (by omega)
      rw [List.drop_zero] at h
      unfold spec_l03Node.f
      simp only [spec_l03Node.j0, spec_l03Node.j1]
      simpa using h
    · show impl_Node_fieldsOK.f k 20 0 a2 l3 l4 = _
      unfold impl_Node_fieldsOK.f impl_Node_fieldsOK.bad impl_Node_plain.keptN impl_Node_plain.keptT impl_Node_fieldsOK.keptL
      rw [ident_impl a2 k (by omega), names_impl l3 hl k (by omega)]
      cases ident a2 <;> simp
  by_cases h4 : l3 = []
  case neg =>
    have h5 : 0 < l3.length := List.length_pos_iff.mpr h4
    refine ⟨false, hs _ 0 (fun k _ => ?_), Tos.of fun k => ?_⟩
    · unfold spec_l03Node.f
      simp only [spec_l03Node.j0, spec_l03Node.j1]
      have h6 : (l3.length : Int) > 0 := by omega
      simp [c1, c3, c20, h5]
    · unfold impl_Node_fieldsOK.f impl_Node_fieldsOK.bad impl_Node_fieldsOK.keptL
      have h6 : ((0 : Int) != (l3.length : Int)) = true := bne_iff_ne.mpr (by omega)
      simp [c20, h6]
  subst h4
  by_cases c2 : a0 = 2
  · subst c2
    refine ⟨allFrom impl_printable.p a2 a2.size 0 && decide (a2.size ≤ 60), hs _ (a2.size + 1) (fun k hk => ?_), Tos.of fun k => ?_⟩
    · unfold spec_l03Node.f
      simp only [spec_l03Node.j0, spec_l03Node.j1]
      rw [spec_plain a2 ht k (by omega)]
      simp
    · unfold impl_Node_fieldsOK.f impl_Node_fieldsOK.bad impl_Node_plain.keptN impl_Node_plain.keptT impl_Node_fieldsOK.keptL
      rw [impl_word a2 ht]
      simp
  by_cases c6 : a0 = 6
  · subst c6
    refine ⟨(a2.toList == [33]) || (a2.toList == [45]), hs _ 0 (fun k hk => ?_), Tos.of fun k => ?_⟩
    · unfold spec_l03Node.f
      simp only [spec_l03Node.j0, spec_l03Node.j1]
      by_cases h : a2.toList = [33] <;> simp [h]
    · unfold impl_Node_fieldsOK.f impl_Node_fieldsOK.bad impl_Node_plain.keptN impl_Node_plain.keptT impl_Node_fieldsOK.keptL impl_isUnary.f
      by_cases h : a2.toList = [33] <;> simp [h]
  by_cases c7 : a0 = 7
  · subst c7
    refine ⟨op, hs _ 0 (fun k hk => ?_), 8, fun k hk => ?_⟩
    · unfold spec_l03Node.f
      simp only [spec_l03Node.j0, spec_l03Node.j1]
      rw [ho1]
      simp
    · show impl_Node_fieldsOK.f k 7 0 a2 [] l4 = _
      unfold impl_Node_fieldsOK.f impl_Node_fieldsOK.bad impl_Node_plain.keptN impl_Node_plain.keptT impl_Node_fieldsOK.keptL
      rw [ho3 k hk]
      simp
  by_cases cn : a0 = 5 ∨ a0 = 10 ∨ a0 = 11 ∨ a0 = 12 ∨ a0 = 17
  · have hnil : ∀ k, 70 ≤ k → spec_l03Node.l0 k 0 a0 0 a2 [] l4 = some (ident a2) := fun k hk => by
      have h := names_spec a0 0 a2 [] l4 (by decide) 0 0 k rfl (by omega)
      simpa using h
    refine ⟨ident a2, hs _ 70 (fun k hk => ?_), 70, fun k hk => ?_⟩
    · have h := hnil k hk
      unfold spec_l03Node.f
      rcases cn with rfl | rfl | rfl | rfl | rfl <;> simp only [spec_l03Node.j0, spec_l03Node.j1] <;> simpa using h
    · show impl_Node_fieldsOK.f k a0 0 a2 [] l4 = _
      unfold impl_Node_fieldsOK.f impl_Node_fieldsOK.bad impl_Node_plain.keptN impl_Node_plain.keptT impl_Node_fieldsOK.keptL
      rw [ident_impl a2 k (by omega)]
      rcases cn with rfl | rfl | rfl | rfl | rfl <;> simp
  have c5 : a0 ≠ 5 := fun e => cn (.inl e)
  have c10 : a0 ≠ 10 := fun e => cn (.inr (.inl e))
  have c11 : a0 ≠ 11 := fun e => cn (.inr (.inr (.inl e)))
  have c12 : a0 ≠ 12 := fun e => cn (.inr (.inr (.inr (.inl e))))
  have c17 : a0 ≠ 17 := fun e => cn (.inr (.inr (.inr (.inr e))))
  refine ⟨(a2.toList == []) && decide (4 ≤ a0 ∧ a0 ≤ 19), hs _ 0 (fun k hk => ?_), Tos.of fun k => ?_⟩
  · unfold spec_l03Node.f
    simp only [spec_l03Node.j0, spec_l03Node.j1]
    by_cases h : a2.toList = [] <;> by_cases h1 : 4 ≤ a0 <;> simp [spec_l01In.f, c1, c2, c3, c5, c6, c7, c10, c11, c12, c17, c20, h, h1]
  · unfold impl_Node_fieldsOK.f impl_Node_fieldsOK.bad impl_Node_plain.keptN impl_Node_plain.keptT impl_Node_fieldsOK.keptL
    by_cases h : a2.toList = [] <;> simp [c1, c2, c3, c5, c6, c7, c10, c11, c12, c17, c20, h, e_toList]
    all_goals exact fun e => absurd e.symm h

/-- A sort's letter. -/
def letterOf (s : Int) : Int := if s = 1 then 101 else if s = 2 then 98 else 115
theorem kids_many (a0 a1 : Int) (a2 : ByteArray) (l3 : List ByteArray) (l4 : List Int) (hl : l4.length ≤ 17592186044416) (v : Int) (hv : v = if a0 = 18 then 3 else 1) (d : Nat) : ∀ (j k : Nat) (o : List Int), j + d = l4.length → o.length = j → d + 5 < k → spec_l03Kids.l0 k o (j : Int) a0 a1 a2 l3 l4 = some (o ++ List.replicate d v) := by
  induction d with
  | zero =>
    intro j k o hj ho hk
    obtain ⟨k, rfl⟩ : ∃ m, k = m + 1 := ⟨k - 1, by omega⟩
    simp only [spec_l03Kids.l0]
    rw [if_neg (by omega)]
    simp
  | succ d ih =>
    intro j k o hj ho hk
    obtain ⟨k, rfl⟩ : ∃ m, k = m + 1 := ⟨k - 1, by omega⟩
    have e2 : wrap64 ((j : Int) + 1) = ((j + 1 : Nat) : Int) := by unfold wrap64; omega
    have e3 : (spec_l01Bit.f (a0 == 18)) = some (if a0 = 18 then 1 else 0) := by
      unfold spec_l01Bit.f
      by_cases h : a0 = 18 <;> simp [h]
    have e4 : wrap64 (1 + wrap64 (2 * (if a0 = 18 then 1 else 0))) = v := by
      rw [hv]
      by_cases h : a0 = 18 <;> simp [h, wrap64]
    simp only [spec_l03Kids.l0]
    rw [if_pos (by omega), e3]
    simp only [Option.bind_some]
    rw [if_pos (by omega), e4, e2, ih (j + 1) k (o ++ [v]) (by omega) (by simp [ho]) (by omega), List.append_assoc]
    rfl

theorem repeat_bytes (b : UInt8) (n : Nat) : bytesOf ⟨(Lib.repeatL [b] n).toArray⟩ = List.replicate n (b.toNat : Int) := by
  unfold bytesOf
  show (Lib.repeatL [b] n).map _ = _
  induction n with
  | zero => rfl
  | succ n ih => simp [Lib.repeatL, List.replicate_succ, ih]
theorem kids_same (a0 a1 : Int) (a2 : ByteArray) (l3 : List ByteArray) (l4 : List Int) (hl : l4.length ≤ 17592186044415) :
    ∃ (sorts : List Int) (kinds : ByteArray), Tos (fun k => spec_l03Kids.f k a0 a1 a2 l3 l4) sorts ∧ Tos (fun k => impl_kidKinds.f k a0 a1 a2 l3 l4) kinds ∧ (sorts.length = l4.length ↔ kinds.size = l4.length) ∧ (sorts.length = l4.length → bytesOf kinds = sorts.map letterOf) ∧ (∀ s ∈ sorts, s = 1 ∨ s = 2 ∨ s = 3) := by
  have hs : ∀ (x : List Int) (K : Nat), (∀ k, K ≤ k → spec_l03Kids.f (k + 3) a0 a1 a2 l3 l4 = some x) → Tos (fun k => spec_l03Kids.f k a0 a1 a2 l3 l4) x := fun b K h => ⟨K + 3, fun k hk => by
    obtain ⟨k, rfl⟩ : ∃ m, k = m + 3 := ⟨k - 3, by omega⟩
    exact h k (by omega)⟩
  have hi : ∀ (x : ByteArray), (∀ k, impl_kidKinds.f (k + 3) a0 a1 a2 l3 l4 = some x) → Tos (fun k => impl_kidKinds.f k a0 a1 a2 l3 l4) x := fun b h => ⟨3, fun k hk => by
    obtain ⟨k, rfl⟩ : ∃ m, k = m + 3 := ⟨k - 3, by omega⟩
    exact h k⟩
  by_cases h1 : a0 = 6 ∨ a0 = 11 ∨ a0 = 12 ∨ a0 = 15 ∨ a0 = 16 ∨ a0 = 19
  · refine ⟨[1], ⟨#[101]⟩, hs _ 0 (fun k _ => ?_), hi _ (fun k => ?_), Iff.rfl, fun _ => rfl, by simp⟩
    · unfold spec_l03Kids.f
      rcases h1 with rfl | rfl | rfl | rfl | rfl | rfl <;> simp [spec_l03Kids.j0]
    · unfold impl_kidKinds.f
      rcases h1 with rfl | rfl | rfl | rfl | rfl | rfl <;> simp [impl_kidKinds.j0]
  by_cases h2 : a0 = 7 ∨ a0 = 8 ∨ a0 = 9
  · refine ⟨[1, 1], ⟨#[101, 101]⟩, hs _ 0 (fun k _ => ?_), hi _ (fun k => ?_), Iff.rfl, fun _ => rfl, by simp⟩
    · unfold spec_l03Kids.f
      rcases h2 with rfl | rfl | rfl <;> simp [spec_l03Kids.j0, spec_l03Kids.j1]
    · unfold impl_kidKinds.f
      rcases h2 with rfl | rfl | rfl <;> simp [impl_kidKinds.j0, impl_kidKinds.j1]
  by_cases h3 : a0 = 10
  · subst h3
    refine ⟨List.replicate l4.length 1, ⟨(Lib.repeatL [101] l4.length).toArray⟩, hs _ (l4.length + 10) (fun k hk => ?_), hi _ (fun k => ?_), ?_, fun _ => ?_, fun s h => .inl (List.eq_of_mem_replicate h)⟩
    · have h := kids_many 10 a1 a2 l3 l4 (by omega) 1 rfl l4.length 0 k [] (by omega) rfl (by omega)
      unfold spec_l03Kids.f
      simp [spec_l03Kids.j0, spec_l03Kids.j1, spec_l03Kids.j2]
      simpa using h
    · unfold impl_kidKinds.f
      simp [impl_kidKinds.j0, impl_kidKinds.j1, strings_Repeat.f]
      first
        | (show 1 * _ ≤ _; omega)
        | (refine ⟨by omega, ?_⟩; show 1 * _ ≤ _; omega)
    · rw [← bytesOf_length, repeat_bytes, List.length_replicate, List.length_replicate]
    · rw [repeat_bytes, List.map_replicate]
      rfl
  by_cases h4 : a0 = 18
  · subst h4
    refine ⟨List.replicate l4.length 3, ⟨(Lib.repeatL [115] l4.length).toArray⟩, hs _ (l4.length + 10) (fun k hk => ?_), hi _ (fun k => ?_), ?_, fun _ => ?_, fun s h => .inr (.inr (List.eq_of_mem_replicate h))⟩
    · have h := kids_many 18 a1 a2 l3 l4 (by omega) 3 rfl l4.length 0 k [] (by omega) rfl (by omega)
      unfold spec_l03Kids.f
      simp [spec_l03Kids.j0, spec_l03Kids.j1, spec_l03Kids.j2]
      simpa using h
    · unfold impl_kidKinds.f
      simp [impl_kidKinds.j0, impl_kidKinds.j1, strings_Repeat.f]
      first
        | (show 1 * _ ≤ _; omega)
        | (refine ⟨by omega, ?_⟩; show 1 * _ ≤ _; omega)
    · rw [← bytesOf_length, repeat_bytes, List.length_replicate, List.length_replicate]
    · rw [repeat_bytes, List.map_replicate]
      rfl
  by_cases h5 : a0 = 14
  · subst h5
    refine ⟨[1, 2], ⟨#[101, 98]⟩, hs _ 0 (fun k _ => ?_), hi _ (fun k => ?_), Iff.rfl, fun _ => rfl, by simp⟩
    · unfold spec_l03Kids.f
      simp [spec_l03Kids.j0, spec_l03Kids.j1]
    · unfold impl_kidKinds.f
      simp [impl_kidKinds.j0, impl_kidKinds.j1]
  by_cases h6 : a0 = 17
  · subst h6
    refine ⟨[2, 2], ⟨#[98, 98]⟩, hs _ 0 (fun k _ => ?_), hi _ (fun k => ?_), Iff.rfl, fun _ => rfl, by simp⟩
    · unfold spec_l03Kids.f
      simp [spec_l03Kids.j0, spec_l03Kids.j1]
    · unfold impl_kidKinds.f
      simp [impl_kidKinds.j0, impl_kidKinds.j1]
  by_cases h7 : a0 = 20
  · subst h7
    refine ⟨[2], ⟨#[98]⟩, hs _ 0 (fun k _ => ?_), hi _ (fun k => ?_), Iff.rfl, fun _ => rfl, by simp⟩
    · unfold spec_l03Kids.f
      simp [spec_l03Kids.j0, spec_l03Kids.j1]
    · unfold impl_kidKinds.f
      simp [impl_kidKinds.j0, impl_kidKinds.j1]
  by_cases h8 : a0 = 13
  · subst h8
    by_cases hl3 : l4.length = 3
    · refine ⟨[1, 2, 2], ⟨#[101, 98, 98]⟩, hs _ 0 (fun k _ => ?_), hi _ (fun k => ?_), Iff.rfl, fun _ => rfl, by simp⟩
      · unfold spec_l03Kids.f
        simp [spec_l03Kids.j0, spec_l03Kids.j1, hl3]
      · unfold impl_kidKinds.f
        simp [impl_kidKinds.j0, impl_kidKinds.j1, hl3, mn, mx]
        rfl
    · by_cases hl2 : l4.length ≤ 2
      · refine ⟨[1, 2], ⟨#[101, 98]⟩, hs _ 0 (fun k _ => ?_), hi _ (fun k => ?_), Iff.rfl, fun _ => rfl, by simp⟩
        · unfold spec_l03Kids.f
          have h9 : ¬ (l4.length : Int) = 3 := by omega
          simp [spec_l03Kids.j0, spec_l03Kids.j1, h9]
        · unfold impl_kidKinds.f
          have e : mn (mx (l4.length : Int) 2) 3 = 2 := by unfold mn mx; omega
          simp [impl_kidKinds.j0, impl_kidKinds.j1, e]
          rfl
      · refine ⟨[1, 2], ⟨#[101, 98, 98]⟩, hs _ 0 (fun k _ => ?_), hi _ (fun k => ?_), ⟨fun h => ?_, fun h => ?_⟩, fun h => ?_, by simp⟩
        · unfold spec_l03Kids.f
          have h9 : ¬ (l4.length : Int) = 3 := by omega
          simp [spec_l03Kids.j0, spec_l03Kids.j1, h9]
        · unfold impl_kidKinds.f
          have e : mn (mx (l4.length : Int) 2) 3 = 3 := by unfold mn mx; omega
          simp [impl_kidKinds.j0, impl_kidKinds.j1, e]
          rfl
        · simp at h; omega
        · have : (3 : Nat) = l4.length := h
          omega
        · simp at h; omega
  · refine ⟨[], ⟨#[]⟩, hs _ 0 (fun k _ => ?_), hi _ (fun k => ?_), Iff.rfl, fun _ => rfl, by simp⟩
    · unfold spec_l03Kids.f
      simp only [not_or] at h1 h2
      simp [spec_l03Kids.j0, spec_l03Kids.j1, spec_l03Kids.j2, h1, h2, h3, h4, h5, h6, h7, h8]
    · unfold impl_kidKinds.f
      simp only [not_or] at h1 h2
      simp [impl_kidKinds.j0, impl_kidKinds.j1, h1, h2, h3, h4, h5, h6, h7, h8]

section
variable (l : List S52) (root : Int) (good : Int → Bool) (sorts : Int → List Int)
def fineF (k s : Int) : Bool := spec_l03Look_walk.rightB (rd_T52 l k).f0 s && (good k && decide ((sorts k).length = (rd_T52 l k).f4.length))
def kidsF (k : Int) : List (Int × Int) := spec_l03Look_walk.kidsOf (k == root) (sorts k) (rd_T52 l k).f4
/-- How deep it is below a place. -/
def H (kids : Int → List (Int × Int)) : Nat → Int → Int
  | 0, _ => 0
  | d + 1, k => (kids k).foldl (fun m p => max m (H kids d p.1)) 0 + 1
end

theorem fineF_iff (l : List S52) (good : Int → Bool) (sorts : Int → List Int) (k s : Int) : fineF l good sorts k s = true ↔ spec_l03Look_walk.rightB (rd_T52 l k).f0 s = true ∧ good k = true ∧ (sorts k).length = (rd_T52 l k).f4.length := by
  unfold fineF
  rw [Bool.and_eq_true, Bool.and_eq_true, decide_eq_true_eq]

variable {l : List S52} {root : Int} {good : Int → Bool} {sorts : Int → List Int}
theorem spec_false (L : List (Int × Int)) (deep : Int) (st : List Bool × Bool × Int) (h : st.2.1 = false) : Tos (fun r => Tw.fold (fun st k s => spec_l03Look_walk.SW l root r st k s deep) L st) st := by
  refine ⟨1, fun r hr => ?_⟩
  obtain ⟨r, rfl⟩ : ∃ m, r = m + 1 := ⟨r - 1, by omega⟩
  show Tw.fold (fun st k s => spec_l03Look_walk.SW l root (r + 1) st k s deep) L st = some st
  obtain ⟨a, b, c⟩ := st
  cases h
  induction L with
  | nil => rfl
  | cons p t ih =>
    show (spec_l03Look_walk.SW l root (r + 1) (a, false, c) p.1 p.2 deep).bind _ = _
    rw [spec_l03Look_walk.SW, if_neg (by rintro ⟨h, _⟩; cases h)]
    exact ih

theorem spec_fold (d : Nat) (deep : Int)
    (IH : ∀ (seen : List Bool) (most k s : Int), ∃ res : List Bool × Bool × Int, Tos (fun r => spec_l03Look_walk.SW l root r (seen, true, most) k s (deep + 1)) res ∧
      (∀ t, Tw.W l.length (fineF l good sorts) (kidsF l root sorts) d seen k s = some t → res = (t, true, max most (deep + 1 - 1 + H (kidsF l root sorts) d k))) ∧
      (Tw.W l.length (fineF l good sorts) (kidsF l root sorts) d seen k s = none → res.2.1 = false)) (most : Int) :
    ∀ (L : List (Int × Int)) (seen : List Bool) (x : Int), ∃ res : List Bool × Bool × Int, Tos (fun r => Tw.fold (fun st k s => spec_l03Look_walk.SW l root r st k s (deep + 1)) L (seen, true, max most (deep + x))) res ∧
      (∀ t, Tw.fold (Tw.W l.length (fineF l good sorts) (kidsF l root sorts) d) L seen = some t → res = (t, true, max most (deep + L.foldl (fun m p => max m (H (kidsF l root sorts) d p.1)) x))) ∧
      (Tw.fold (Tw.W l.length (fineF l good sorts) (kidsF l root sorts) d) L seen = none → res.2.1 = false)
  | [], seen, x => ⟨_, Tos.pure _, fun t h => by cases h; rfl, fun h => by cases h⟩
  | p :: L, seen, x => by
    obtain ⟨res1, h1, h2, h3⟩ := IH seen (max most (deep + x)) p.1 p.2
    cases e : Tw.W l.length (fineF l good sorts) (kidsF l root sorts) d seen p.1 p.2 with
    | none =>
      refine ⟨res1, Tos.bind h1 (spec_false L (deep + 1) res1 (h3 e)), fun t h => ?_, fun _ => h3 e⟩
      obtain ⟨s', h4, _⟩ := Tw.fold_some h
      rw [e] at h4
      cases h4
    | some t' =>
      obtain rfl := h2 t' e
      have em : max (max most (deep + x)) (deep + 1 - 1 + H (kidsF l root sorts) d p.1) = max most (deep + max x (H (kidsF l root sorts) d p.1)) := by omega
      rw [em] at h1
      obtain ⟨res2, g1, g2, g3⟩ := spec_fold d deep IH most L t' (max x (H (kidsF l root sorts) d p.1))
      have ef : Tw.fold (Tw.W l.length (fineF l good sorts) (kidsF l root sorts) d) (p :: L) seen = Tw.fold (Tw.W l.length (fineF l good sorts) (kidsF l root sorts) d) L t' := by
        show (Tw.W l.length (fineF l good sorts) (kidsF l root sorts) d seen p.1 p.2).bind _ = _
        rw [e]
        rfl
      rw [ef]
      exact ⟨res2, Tos.bind h1 g1, g2, g3⟩

/-- The reference's walk answers as the plain one. -/
theorem spec_walk (hgood : ∀ k, Tos (fun r => spec_l03Node.f r (rd_T52 l k).f0 (rd_T52 l k).f1 (rd_T52 l k).f2 (rd_T52 l k).f3 (rd_T52 l k).f4) (good k)) (hsorts : ∀ k, Tos (fun r => spec_l03Kids.f r (rd_T52 l k).f0 (rd_T52 l k).f1 (rd_T52 l k).f2 (rd_T52 l k).f3 (rd_T52 l k).f4) (sorts k)) :
    ∀ (d : Nat) (seen : List Bool) (most k s deep : Int), deep + d = 201 → ∃ res : List Bool × Bool × Int, Tos (fun r => spec_l03Look_walk.SW l root r (seen, true, most) k s deep) res ∧
      (∀ t, Tw.W l.length (fineF l good sorts) (kidsF l root sorts) d seen k s = some t → res = (t, true, max most (deep - 1 + H (kidsF l root sorts) d k))) ∧
      (Tw.W l.length (fineF l good sorts) (kidsF l root sorts) d seen k s = none → res.2.1 = false)
  | 0, seen, most, k, s, deep, hd => by
    refine ⟨(seen, false, most), ⟨1, fun r hr => ?_⟩, fun t h => by simp [Tw.W] at h, fun _ => rfl⟩
    obtain ⟨r, rfl⟩ : ∃ m, r = m + 1 := ⟨r - 1, by omega⟩
    show spec_l03Look_walk.SW l root (r + 1) (seen, true, most) k s deep = _
    rw [spec_l03Look_walk.SW, if_neg (by rintro ⟨_, _, _, _, h⟩; omega)]
  | d + 1, seen, most, k, s, deep, hd => by
    by_cases hc : 0 ≤ k ∧ k < (l.length : Int) ∧ rdOf false seen k = false
    case neg =>
      refine ⟨(seen, false, most), ⟨1, fun r hr => ?_⟩, fun t h => ?_, fun _ => rfl⟩
      · obtain ⟨r, rfl⟩ : ∃ m, r = m + 1 := ⟨r - 1, by omega⟩
        show spec_l03Look_walk.SW l root (r + 1) (seen, true, most) k s deep = _
        rw [spec_l03Look_walk.SW, if_neg (by rintro ⟨_, h1, h2, h3, _⟩; exact hc ⟨h1, h2, h3⟩)]
      · obtain ⟨_, _, h1, h2, h3, _⟩ := Tw.W_some h
        exact absurd ⟨h1, by omega, h3⟩ hc
    case pos =>
      obtain ⟨c1, c2, c3⟩ := hc
      have hstep : ∀ r, spec_l03Look_walk.SW l root (r + 1) (seen, true, most) k s deep = (spec_l03Kids.f r (rd_T52 l k).f0 (rd_T52 l k).f1 (rd_T52 l k).f2 (rd_T52 l k).f3 (rd_T52 l k).f4).bind fun sorts =>
        (spec_l03Node.f r (rd_T52 l k).f0 (rd_T52 l k).f1 (rd_T52 l k).f2 (rd_T52 l k).f3 (rd_T52 l k).f4).bind fun q =>
          if spec_l03Look_walk.rightB (rd_T52 l k).f0 s = true ∧ q = true ∧ sorts.length = (rd_T52 l k).f4.length then
            Tw.fold (fun st k s => spec_l03Look_walk.SW l root r st k s (deep + 1)) (spec_l03Look_walk.kidsOf (k == root) sorts (rd_T52 l k).f4) (seen.set k.toNat true, true, max most deep)
          else some (seen.set k.toNat true, false, max most deep) := fun r => by
        rw [spec_l03Look_walk.SW, if_pos ⟨rfl, c1, c2, c3, by omega⟩]
      by_cases hf : fineF l good sorts k s = true
      · have hf2 := (fineF_iff l good sorts k s).1 hf
        obtain ⟨res, g1, g2, g3⟩ := spec_fold (root := root) d deep (fun seen most k s => spec_walk hgood hsorts d seen most k s (deep + 1) (by omega)) most (kidsF l root sorts k) (seen.set k.toNat true) 0
        have ew : Tw.W l.length (fineF l good sorts) (kidsF l root sorts) (d + 1) seen k s = Tw.fold (Tw.W l.length (fineF l good sorts) (kidsF l root sorts) d) (kidsF l root sorts k) (seen.set k.toNat true) := by
          rw [Tw.W, if_pos ⟨c1, by omega, c3, hf⟩]
        have eh : deep - 1 + H (kidsF l root sorts) (d + 1) k = deep + (kidsF l root sorts k).foldl (fun m p => max m (H (kidsF l root sorts) d p.1)) 0 := by
          rw [H]; omega
        rw [Int.add_zero] at g1
        rw [ew, eh]
        exact ⟨res, Tos.step (Tos.bind (hsorts k) (Tos.bind (hgood k) (Tos.ifPos hf2 g1))) hstep, g2, g3⟩
      · have hf2 := fun h => hf ((fineF_iff l good sorts k s).2 h)
        refine ⟨_, Tos.step (Tos.bind (hsorts k) (Tos.bind (hgood k) (Tos.ifNeg hf2 (Tos.pure _)))) hstep, fun t h => ?_, fun _ => rfl⟩
        obtain ⟨_, _, _, _, _, h4, _⟩ := Tw.W_some h
        exact absurd h4 hf

theorem fits_right (a s : Int) (top : Bool) (h : s = 1 ∨ s = 2 ∨ s = 3) : impl_checker_walk.fits a (letterOf s) top = spec_l03Look_walk.rightB a (if top = true ∧ s = 3 then 4 else s) := by
  unfold impl_checker_walk.fits spec_l03Look_walk.rightB letterOf
  rcases h with rfl | rfl | rfl
  · by_cases h1 : 1 ≤ a <;> by_cases h2 : a ≤ 10 <;> simp [h1, h2]
  · simp
  · cases top <;> by_cases h1 : 11 ≤ a <;> by_cases h2 : a ≤ 19 <;> simp [h1, h2]

theorem impl_fold (d : Nat) (deep : Int) (top : Bool)
    (IH : ∀ (seen : List Bool) (k s : Int), 0 ≤ k → k < (l.length : Int) → spec_l03Look_walk.rightB (rd_T52 l k).f0 s = true → ∃ res : List Bool × Bool, Tos (fun r => impl_checker_walk.W l root r seen k (deep + 1)) res ∧
      (∀ t, Tw.W l.length (fineF l good sorts) (kidsF l root sorts) d seen k s = some t → res = (t, true)) ∧
      (Tw.W l.length (fineF l good sorts) (kidsF l root sorts) d seen k s = none → res.2 = false)) :
    ∀ (K : List Int) (S : List Int) (seen : List Bool), (∀ s ∈ S, s = 1 ∨ s = 2 ∨ s = 3) → ∃ res : List Bool × Bool, Tos (fun r => impl_checker_walk.fold l top (fun seen k => impl_checker_walk.W l root r seen k (deep + 1)) (K.zip (S.map letterOf)) seen) res ∧
      (∀ t, Tw.fold (Tw.W l.length (fineF l good sorts) (kidsF l root sorts) d) (spec_l03Look_walk.kidsOf top S K) seen = some t → res = (t, true)) ∧
      (Tw.fold (Tw.W l.length (fineF l good sorts) (kidsF l root sorts) d) (spec_l03Look_walk.kidsOf top S K) seen = none → res.2 = false)
  | [], S, seen, _ => ⟨(seen, true), Tos.of fun _ => by rw [List.zip_nil_left]; rfl, fun t h => by cases h; rfl, fun h => by cases h⟩
  | k :: K, [], seen, _ => ⟨(seen, true), Tos.of fun _ => rfl, fun t h => by cases h; rfl, fun h => by cases h⟩
  | k :: K, s :: S, seen, hS => by
    have hs := hS s List.mem_cons_self
    have ek : spec_l03Look_walk.kidsOf top (s :: S) (k :: K) = (k, if top = true ∧ s = 3 then 4 else s) :: spec_l03Look_walk.kidsOf top S K := rfl
    have ez : (k :: K).zip ((s :: S).map letterOf) = (k, letterOf s) :: K.zip (S.map letterOf) := rfl
    rw [ek, ez]
    have bad : (∀ t, Tw.W l.length (fineF l good sorts) (kidsF l root sorts) d seen k (if top = true ∧ s = 3 then 4 else s) ≠ some t) → ∀ t, Tw.fold (Tw.W l.length (fineF l good sorts) (kidsF l root sorts) d) ((k, if top = true ∧ s = 3 then 4 else s) :: spec_l03Look_walk.kidsOf top S K) seen ≠ some t := fun hb t h => by
      obtain ⟨s', h4, _⟩ := Tw.fold_some h
      exact hb _ h4
    by_cases hr : 0 ≤ k ∧ k < (l.length : Int)
    case neg =>
      refine ⟨(seen, false), Tos.of fun r => ?_, fun t h => absurd h (bad (fun t h => ?_) t), fun _ => rfl⟩
      · rw [impl_checker_walk.fold, if_neg hr]
      · obtain ⟨_, _, h1, h2, _⟩ := Tw.W_some h
        exact hr ⟨h1, by omega⟩
    by_cases hf : impl_checker_walk.fits (rd_T52 l k).f0 (letterOf s) top = true
    case neg =>
      refine ⟨(seen, false), Tos.of fun r => ?_, fun t h => absurd h (bad (fun t h => ?_) t), fun _ => rfl⟩
      · rw [impl_checker_walk.fold, if_pos hr, if_neg hf]
      · obtain ⟨_, _, _, _, _, h4, _⟩ := Tw.W_some h
        rw [fits_right _ _ _ hs] at hf
        exact hf ((fineF_iff l good sorts _ _).1 h4).1
    have hf2 := hf
    rw [fits_right _ _ _ hs] at hf2
    obtain ⟨res1, h1, h2, h3⟩ := IH seen k _ hr.1 hr.2 hf2
    have hstep : ∀ r, impl_checker_walk.fold l top (fun seen k => impl_checker_walk.W l root r seen k (deep + 1)) ((k, letterOf s) :: K.zip (S.map letterOf)) seen = (impl_checker_walk.W l root r seen k (deep + 1)).bind fun res => if res.2 = true then impl_checker_walk.fold l top (fun seen k => impl_checker_walk.W l root r seen k (deep + 1)) (K.zip (S.map letterOf)) res.1 else some (res.1, false) := fun r => by
      rw [impl_checker_walk.fold, if_pos hr, if_pos hf]
    cases e : Tw.W l.length (fineF l good sorts) (kidsF l root sorts) d seen k (if top = true ∧ s = 3 then 4 else s) with
    | none =>
      have h4 := h3 e
      refine ⟨(res1.1, false), ?_, fun t h => absurd h (bad (fun t h => by rw [e] at h; cases h) t), fun _ => rfl⟩
      simp only [hstep]
      exact Tos.bind h1 (Tos.ifNeg (by rw [h4]; decide) (Tos.pure _))
    | some t' =>
      obtain rfl := h2 t' e
      obtain ⟨res2, g1, g2, g3⟩ := impl_fold d deep top IH K S t' (fun s h => hS s (List.mem_cons_of_mem _ h))
      have ef : Tw.fold (Tw.W l.length (fineF l good sorts) (kidsF l root sorts) d) ((k, if top = true ∧ s = 3 then 4 else s) :: spec_l03Look_walk.kidsOf top S K) seen = Tw.fold (Tw.W l.length (fineF l good sorts) (kidsF l root sorts) d) (spec_l03Look_walk.kidsOf top S K) t' := by
        show (Tw.W l.length (fineF l good sorts) (kidsF l root sorts) d seen k _).bind _ = _
        rw [e]
        rfl
      rw [ef]
      simp only [hstep]
      exact ⟨res2, Tos.bind h1 (Tos.ifPos rfl g1), g2, g3⟩

/-- The program's walk answers as the plain one. -/
theorem impl_walk (hgood : ∀ k, Tos (fun r => impl_Node_fieldsOK.f r (rd_T52 l k).f0 (rd_T52 l k).f1 (rd_T52 l k).f2 (rd_T52 l k).f3 (rd_T52 l k).f4) (good k))
    (hsorts : ∀ k, ∃ kinds : ByteArray, Tos (fun r => impl_kidKinds.f r (rd_T52 l k).f0 (rd_T52 l k).f1 (rd_T52 l k).f2 (rd_T52 l k).f3 (rd_T52 l k).f4) kinds ∧ ((sorts k).length = (rd_T52 l k).f4.length ↔ kinds.size = (rd_T52 l k).f4.length) ∧ ((sorts k).length = (rd_T52 l k).f4.length → bytesOf kinds = (sorts k).map letterOf) ∧ (∀ s ∈ sorts k, s = 1 ∨ s = 2 ∨ s = 3)) :
    ∀ (d : Nat) (seen : List Bool) (k s deep : Int), deep + d = 201 → 0 ≤ k → k < (l.length : Int) → spec_l03Look_walk.rightB (rd_T52 l k).f0 s = true → ∃ res : List Bool × Bool, Tos (fun r => impl_checker_walk.W l root r seen k deep) res ∧
      (∀ t, Tw.W l.length (fineF l good sorts) (kidsF l root sorts) d seen k s = some t → res = (t, true)) ∧
      (Tw.W l.length (fineF l good sorts) (kidsF l root sorts) d seen k s = none → res.2 = false)
  | 0, seen, k, s, deep, hd, h0, h1, hs => by
    refine ⟨(seen, false), ⟨1, fun r hr => ?_⟩, fun t h => by simp [Tw.W] at h, fun _ => rfl⟩
    obtain ⟨r, rfl⟩ : ∃ m, r = m + 1 := ⟨r - 1, by omega⟩
    show impl_checker_walk.W l root (r + 1) seen k deep = _
    rw [impl_checker_walk.W, if_pos ⟨h0, h1⟩, if_neg (by rintro ⟨_, h⟩; omega)]
  | d + 1, seen, k, s, deep, hd, h0, h1, hs => by
    cases hq : rdOf false seen k with
    | true =>
      refine ⟨(seen, false), ⟨1, fun r hr => ?_⟩, fun t h => ?_, fun _ => rfl⟩
      · obtain ⟨r, rfl⟩ : ∃ m, r = m + 1 := ⟨r - 1, by omega⟩
        show impl_checker_walk.W l root (r + 1) seen k deep = _
        rw [impl_checker_walk.W, if_pos ⟨h0, h1⟩, if_neg (by rintro ⟨h, _⟩; rw [hq] at h; cases h)]
      · obtain ⟨_, _, _, _, h3, _⟩ := Tw.W_some h
        rw [hq] at h3
        cases h3
    | false =>
      obtain ⟨kinds, k1, k2, k3, k4⟩ := hsorts k
      have hstep : ∀ r, impl_checker_walk.W l root (r + 1) seen k deep = (impl_Node_fieldsOK.f r (rd_T52 l k).f0 (rd_T52 l k).f1 (rd_T52 l k).f2 (rd_T52 l k).f3 (rd_T52 l k).f4).bind fun q =>
          if q = true then
            (impl_kidKinds.f r (rd_T52 l k).f0 (rd_T52 l k).f1 (rd_T52 l k).f2 (rd_T52 l k).f3 (rd_T52 l k).f4).bind fun kinds =>
              if kinds.size = (rd_T52 l k).f4.length then
                impl_checker_walk.fold l (k == root) (fun seen k => impl_checker_walk.W l root r seen k (deep + 1)) (impl_checker_walk.kids kinds (rd_T52 l k).f4) (seen.set k.toNat true)
              else some (seen.set k.toNat true, false)
          else some (seen, false) := fun r => by
        rw [impl_checker_walk.W, if_pos ⟨h0, h1⟩, if_pos ⟨hq, by omega⟩]
      have nf : fineF l good sorts k s ≠ true → ∀ t, Tw.W l.length (fineF l good sorts) (kidsF l root sorts) (d + 1) seen k s = some t → False := fun hf t h => by
        obtain ⟨_, _, _, _, _, h4, _⟩ := Tw.W_some h
        exact hf h4
      by_cases hg : good k = true
      case neg =>
        refine ⟨(seen, false), Tos.step (Tos.bind (hgood k) (Tos.ifNeg hg (Tos.pure _))) hstep, fun t h => (nf (fun hf => hg ((fineF_iff l good sorts k s).1 hf).2.1) t h).elim, fun _ => rfl⟩
      by_cases hl : (sorts k).length = (rd_T52 l k).f4.length
      case neg =>
        refine ⟨(seen.set k.toNat true, false), Tos.step (Tos.bind (hgood k) (Tos.ifPos hg (Tos.bind k1 (Tos.ifNeg (fun h => hl (k2.2 h)) (Tos.pure _))))) hstep, fun t h => (nf (fun hf => hl ((fineF_iff l good sorts k s).1 hf).2.2) t h).elim, fun _ => rfl⟩
      have hf : fineF l good sorts k s = true := (fineF_iff l good sorts k s).2 ⟨hs, hg, hl⟩
      obtain ⟨res, g1, g2, g3⟩ := impl_fold (root := root) (good := good) (sorts := sorts) d deep (k == root) (fun seen k s h0 h1 hs => impl_walk hgood hsorts d seen k s (deep + 1) (by omega) h0 h1 hs) (rd_T52 l k).f4 (sorts k) (seen.set k.toNat true) k4
      have ew : Tw.W l.length (fineF l good sorts) (kidsF l root sorts) (d + 1) seen k s = Tw.fold (Tw.W l.length (fineF l good sorts) (kidsF l root sorts) d) (spec_l03Look_walk.kidsOf (k == root) (sorts k) (rd_T52 l k).f4) (seen.set k.toNat true) := by
        rw [Tw.W, if_pos ⟨h0, by omega, hq, hf⟩]
        rfl
      have ekk : impl_checker_walk.kids kinds (rd_T52 l k).f4 = (rd_T52 l k).f4.zip ((sorts k).map letterOf) := by
        unfold impl_checker_walk.kids
        rw [k3 hl]
      rw [← ekk] at g1
      rw [ew]
      exact ⟨res, Tos.step (Tos.bind (hgood k) (Tos.ifPos hg (Tos.bind k1 (Tos.ifPos (k2.1 hl) g1)))) hstep, g2, g3⟩

theorem has_false (l : List Bool) (hl : l.length ≤ 4611686018427387904) (d : Nat) : ∀ (j k : Nat), j + d = l.length → d < k → ∃ v : Int, slices_Index_bool_bool.l0 k l false (l.length : Int) (j : Int) = some v ∧ decide (v ≥ 0) = !(l.drop j).all id := by
  induction d with
  | zero =>
    intro j k hj hk
    obtain ⟨k, rfl⟩ : ∃ m, k = m + 1 := ⟨k - 1, by omega⟩
    refine ⟨-1, ?_, ?_⟩
    · rw [slices_Index_bool_bool.l0, if_neg (by omega)]
    · rw [List.drop_eq_nil_iff.2 (by omega)]
      rfl
  | succ d ih =>
    intro j k hj hk
    obtain ⟨k, rfl⟩ : ∃ m, k = m + 1 := ⟨k - 1, by omega⟩
    have hj' : j < l.length := by omega
    have e : rdOf false l (j : Int) = l[j] := by
      unfold rdOf
      rw [Int.toNat_natCast, List.getD_eq_getElem?_getD, List.getElem?_eq_getElem hj']
      rfl
    have e2 : wrap64 ((j : Int) + 1) = ((j + 1 : Nat) : Int) := by unfold wrap64; omega
    rw [slices_Index_bool_bool.l0, if_pos (by omega), if_pos (by omega), if_pos (by omega), e, e2, List.drop_eq_getElem_cons hj', List.all_cons]
    cases hb : l[j] with
    | false => exact ⟨(j : Int), by rw [if_pos (by decide)], by simp⟩
    | true =>
      rw [if_neg (by decide)]
      obtain ⟨v, h1, h2⟩ := ih (j + 1) k (by omega) (by omega)
      exact ⟨v, h1, by rw [h2]; rfl⟩
theorem contains_false (l : List Bool) (hl : l.length ≤ 4611686018427387904) : Tos (fun k => slices_Contains_bool_bool.f k l false) (!(l.all id)) := by
  refine ⟨l.length + 1, fun k hk => ?_⟩
  show slices_Contains_bool_bool.f k l false = _
  obtain ⟨v, h1, h2⟩ := has_false l hl l.length 0 k (by omega) (by omega)
  unfold slices_Contains_bool_bool.f slices_Index_bool_bool.f
  rw [show (0 : Int) = ((0 : Nat) : Int) from rfl, h1]
  rw [List.drop_zero] at h2
  show some (decide (v ≥ 0)) = _
  rw [h2]

/-- A node whose lists fit. -/
def Small (x : S52) : Prop := x.f2.size ≤ 1048576 ∧ x.f3.length ≤ 1048576 ∧ x.f4.length ≤ 1048576
theorem small_rd {l : List S52} (h : ∀ x ∈ l, Small x) (k : Int) : Small (rd_T52 l k) := by
  have hz : Small (rd_T52 [] k) := by
    show Small z52
    unfold Small z52
    decide
  by_cases hk : k.toNat < l.length
  · have e : rd_T52 l k = l[k.toNat] := by
      show l.getD k.toNat _ = _
      rw [List.getD_eq_getElem?_getD, List.getElem?_eq_getElem hk]
      rfl
    rw [e]
    exact h _ (List.getElem_mem hk)
  · have e : rd_T52 l k = rd_T52 [] k := by
      show l.getD k.toNat _ = ([] : List S52).getD k.toNat _
      rw [List.getD_eq_getElem?_getD, List.getElem?_eq_none (by omega)]
      rfl
    rw [e]
    exact hz

/-- A tree is right: both answer alike; a right one is walked whole. -/
theorem tree_same (l : List S52) (root : Int) (hl : ∀ x ∈ l, Small x) : ∃ (ok : Bool) (n : Int) (good : Int → Bool) (sorts : Int → List Int), Tos (fun k => spec_l03Tree.f k l root) (ok, n) ∧ Tos (fun k => impl_TreeOK.f k l root) ok ∧
    (ok = true → l.length ≤ 200 ∧ ∃ t, Tw.W l.length (fineF l good sorts) (kidsF l root sorts) 200 (List.replicate l.length false) root 2 = some t ∧ t.all id = true ∧ n = H (kidsF l root sorts) 200 root) := by
  obtain ⟨good, hgood⟩ := Classical.skolem.1 (fun k : Int => node_same (rd_T52 l k).f0 (rd_T52 l k).f1 (rd_T52 l k).f2 (rd_T52 l k).f3 (rd_T52 l k).f4 (by have := (small_rd hl k).1; omega) (by have := (small_rd hl k).2.1; omega))
  obtain ⟨sorts, hsorts⟩ := Classical.skolem.1 (fun k : Int => kids_same (rd_T52 l k).f0 (rd_T52 l k).f1 (rd_T52 l k).f2 (rd_T52 l k).f3 (rd_T52 l k).f4 (by have := (small_rd hl k).2.2; omega))
  by_cases hn : l.length ≤ 200
  case neg =>
    refine ⟨false, 0, good, sorts, Tos.of fun k => ?_, Tos.of fun k => ?_, fun h => by cases h⟩
    · unfold spec_l03Tree.f
      rw [if_neg hn]
    · unfold impl_TreeOK.f
      rw [if_neg (fun h => hn h.1)]
  obtain ⟨res, h1, h2, h3⟩ := spec_walk (root := root) (fun k => (hgood k).1) (fun k => (hsorts k).choose_spec.1) 200 (List.replicate l.length false) 0 root 2 1 (by decide)
  have hspec : Tos (fun k => spec_l03Tree.f k l root) (res.2.1 && res.1.all id, res.2.2) := by
    unfold spec_l03Tree.f
    exact Tos.ifPos hn (Tos.bind h1 (Tos.pure _))
  by_cases hc : 0 ≤ root ∧ root < (l.length : Int) ∧ (rd_T52 l root).f0 = 18
  case neg =>
    have hw : Tw.W l.length (fineF l good sorts) (kidsF l root sorts) 200 (List.replicate l.length false) root 2 = none := by
      cases e : Tw.W l.length (fineF l good sorts) (kidsF l root sorts) 200 (List.replicate l.length false) root 2 with
      | none => rfl
      | some t =>
        obtain ⟨_, _, c1, c2, _, c4, _⟩ := Tw.W_some e
        have c5 := ((fineF_iff l good sorts _ _).1 c4).1
        exact absurd ⟨c1, by omega, by simpa [spec_l03Look_walk.rightB] using c5⟩ hc
    have hr := h3 hw
    refine ⟨false, res.2.2, good, sorts, ?_, Tos.of fun k => ?_, fun h => by cases h⟩
    · rw [hr] at hspec
      exact hspec
    · unfold impl_TreeOK.f
      rw [if_neg (fun h => hc h.2)]
  obtain ⟨c1, c2, c3⟩ := hc
  obtain ⟨res2, g1, g2, g3⟩ := impl_walk (root := root) (good := good) (sorts := sorts) (fun k => (hgood k).2) (fun k => by obtain ⟨kinds, a1, a2, a3, a4, a5⟩ := hsorts k; exact ⟨kinds, a2, a3, a4, a5⟩) 200 (List.replicate l.length false) root 2 1 (by decide) c1 c2 (by rw [c3]; decide)
  cases e : Tw.W l.length (fineF l good sorts) (kidsF l root sorts) 200 (List.replicate l.length false) root 2 with
  | none =>
    have hr := h3 e
    have hr2 := g3 e
    refine ⟨false, res.2.2, good, sorts, ?_, ?_, fun h => by cases h⟩
    · rw [hr] at hspec
      exact hspec
    · unfold impl_TreeOK.f
      exact Tos.ifPos ⟨hn, c1, c2, c3⟩ (Tos.bind g1 (Tos.ifNeg (by rw [hr2]; decide) (Tos.pure _)))
  | some t =>
    obtain rfl := h2 t e
    obtain rfl := g2 t e
    have ht : t.length = l.length := by rw [Tw.W_len _ _ _ _ _ e, List.length_replicate]
    refine ⟨t.all id, _, good, sorts, hspec, ?_, fun h => ⟨hn, t, e, h, ?_⟩⟩
    · unfold impl_TreeOK.f
      refine Tos.ifPos ⟨hn, c1, c2, c3⟩ (Tos.bind g1 (Tos.ifPos rfl ?_))
      have := Tos.bind (G := fun _ b => some (!b)) (contains_false t (by omega)) (Tos.pure (!!t.all id))
      rw [Bool.not_not] at this
      exact this
    · have hh : 0 ≤ H (kidsF l root sorts) 200 root := by
        have : ∀ (L : List (Int × Int)) (h : Int × Int → Int) (x : Int), x ≤ L.foldl (fun m p => max m (h p)) x := by
          intro L h
          induction L with
          | nil => intro x; exact Int.le_refl _
          | cons p t ih => intro x; exact Int.le_trans (Int.le_max_left _ _) (ih _)
        have := this (kidsF l root sorts root) (fun p => H (kidsF l root sorts) 199 p.1) 0
        rw [H]
        omega
      show max 0 (1 - 1 + _) = _
      omega

theorem in_spec (a b c : Int) : spec_l01In.f a b c = some (decide (b ≤ a ∧ a ≤ c)) := by
  unfold spec_l01In.f
  by_cases h : b ≤ a <;> by_cases h2 : a ≤ c <;> simp [h, h2]
theorem in_impl (a b c : Int) : impl_within.f a b c = some (decide (b ≤ a ∧ a ≤ c)) := by
  unfold impl_within.f
  by_cases h : b ≤ a <;> by_cases h2 : a ≤ c <;> simp [h, h2]

theorem small_tree (l : List S65) (r : Int) (h : Sm_Tree l r) : ∀ x ∈ (g_Tree l r).1, Small x := by
  intro y hy
  obtain ⟨x, hx, rfl⟩ := List.mem_map.mp hy
  have hx := h.1.2 x hx
  refine ⟨hx.1, ?_, ?_⟩
  · show (g_StringS x.f3).length ≤ _
    unfold g_StringS
    rw [List.length_map]
    exact hx.2.1.1
  · show (g_IntS x.f4).length ≤ _
    unfold g_IntS
    rw [List.length_map]
    exact hx.2.2.1.1
theorem fold_each {σ : Type} {g : σ → Int → Int → Option σ} : ∀ (L : List (Int × Int)) (s r : σ), Tw.fold g L s = some r → ∀ p ∈ L, ∃ s' r', g s' p.1 p.2 = some r'
  | [], _, _, _, p, hp => by simp at hp
  | q :: t, s, r, h, p, hp => by
    obtain ⟨s', h1, h2⟩ := Tw.fold_some h
    rcases List.mem_cons.1 hp with rfl | hp
    · exact ⟨s, s', h1⟩
    · exact fold_each t s' r h2 p hp
/-- A place that is seen newly was walked from. -/
theorem W_at {n : Nat} {fine : Int → Int → Bool} {kids : Int → List (Int × Int)} : ∀ (d : Nat) (seen r : List Bool) (k s : Int), Tw.W n fine kids d seen k s = some r → ∀ j, 0 ≤ j → rdOf false r j = true → rdOf false seen j = false → ∃ d' seen' s' r', Tw.W n fine kids d' seen' j s' = some r'
  | 0, seen, r, k, s, h => by simp [Tw.W] at h
  | d + 1, seen, r, k, s, h => by
    obtain ⟨d', e, hk, hk1, _, _, hf⟩ := Tw.W_some h
    obtain rfl : d = d' := by omega
    intro j hj hr hs
    by_cases e : j = k
    · subst e
      exact ⟨_, _, _, _, h⟩
    have key : ∀ (L : List (Int × Int)) (a b : List Bool), Tw.fold (Tw.W n fine kids d) L a = some b → rdOf false b j = true → rdOf false a j = false → ∃ d' seen' s' r', Tw.W n fine kids d' seen' j s' = some r' := by
      intro L
      induction L with
      | nil =>
        intro a b hf hb ha
        unfold Tw.fold at hf
        obtain rfl := Option.some.inj hf
        rw [ha] at hb
        cases hb
      | cons p t ih =>
        intro a b hf hb ha
        obtain ⟨a', h1, h2⟩ := Tw.fold_some hf
        cases hq : rdOf false a' j with
        | true => exact W_at d a a' p.1 p.2 h1 j hj hq ha
        | false => exact ih a' b h2 hb hq
    exact key _ _ _ hf hr (by rw [Tw.rd_set_ne _ _ _ hk hj e]; exact hs)
theorem rd_all {t : List Bool} (h : t.all id = true) (j : Int) (hj : j.toNat < t.length) : rdOf false t j = true := by
  unfold rdOf
  rw [List.getD_eq_getElem?_getD, List.getElem?_eq_getElem hj]
  exact List.all_eq_true.1 h _ (List.getElem_mem hj)
theorem rd_none (n : Nat) (j : Int) : rdOf false (List.replicate n false) j = false := by
  unfold rdOf
  rw [List.getD_eq_getElem?_getD]
  by_cases h : j.toNat < n
  · rw [List.getElem?_eq_getElem (by rw [List.length_replicate]; exact h), List.getElem_replicate]
    rfl
  · rw [List.getElem?_eq_none (by rw [List.length_replicate]; omega)]
    rfl
/-- The kids of a place that was walked from. -/
theorem kids_of {l : List S52} {root : Int} {good : Int → Bool} {sorts : Int → List Int} {d : Nat} {seen r : List Bool} {k s : Int} (h : Tw.W l.length (fineF l good sorts) (kidsF l root sorts) d seen k s = some r) : (sorts k).length = (rd_T52 l k).f4.length := by
  obtain ⟨_, _, _, _, _, h4, _⟩ := Tw.W_some h
  exact ((fineF_iff l good sorts k s).1 h4).2.2
theorem kid_mem {l : List S52} {root : Int} {sorts : Int → List Int} {k : Int} (h : (sorts k).length = (rd_T52 l k).f4.length) (x : Nat) (hx : x < (rd_T52 l k).f4.length) : ∃ q, (rd (rd_T52 l k).f4 (x : Int), q) ∈ kidsF l root sorts k := by
  have e : (kidsF l root sorts k).drop x = _ := spec_l03Look_walk.kidsOf_drop (k == root) (sorts k) (rd_T52 l k).f4 x h (by omega)
  refine ⟨if (k == root) = true ∧ rd (sorts k) (x : Int) = 3 then 4 else rd (sorts k) (x : Int), List.mem_of_mem_drop (i := x) ?_⟩
  rw [e]
  exact List.mem_cons_self

theorem spec_ok {l : List S52} {root : Int} {ok : Bool} {n : Int} (h : Tos (fun k => spec_l03Tree.f k l root) (ok, n)) : Tos (fun k => spec_TreeOK.f k l root) ok := by
  unfold spec_TreeOK.f
  exact Tos.bind h (Tos.pure _)

theorem rd_at (l : List Int) (j : Nat) (h : j < l.length) : rd l (j : Int) = l[j] := by
  unfold rd
  rw [Int.toNat_natCast, List.getD_eq_getElem?_getD, List.getElem?_eq_getElem h]
  rfl
/-- A mark's text comes. -/
theorem mark_l0 (n : Nat) : ∀ (x : ByteArray), x.size + n ≤ 4611686018427387904 → ∃ t, Tos (fun k => laws_markText.l0 k (n : Int) x) t := by
  induction n using Nat.strongRecOn with
  | _ n ih =>
    intro x hx
    by_cases hn : n = 0
    · subst hn
      refine ⟨(⟨#[109]⟩ : ByteArray) ++ x, Tos.step (G := fun _ => some ((⟨#[109]⟩ : ByteArray) ++ x)) (Tos.pure _) (fun k => ?_)⟩
      rw [laws_markText.l0, if_neg (by omega), if_pos (by omega)]
    · have e1 : wrap64 (Int.tdiv (n : Int) 10) = ((n / 10 : Nat) : Int) := by
        rw [Int.tdiv_eq_ediv_of_nonneg (by omega)]
        unfold wrap64
        omega
      have hs : (strOfNums [(wrap64 (48 + (Int.tmod (n : Int) 10))) % 256]).size = 1 := rfl
      obtain ⟨t, ht⟩ := ih (n / 10) (by omega) (strOfNums [(wrap64 (48 + (Int.tmod (n : Int) 10))) % 256] ++ x) (by rw [ByteArray.size_append, hs]; omega)
      refine ⟨t, Tos.step ht (fun k => ?_)⟩
      rw [laws_markText.l0, if_pos (by omega)]
      simp only [Option.bind_some]
      rw [if_pos (by rw [hs]; omega), e1]
theorem mark_text (a : Int) (h : 0 ≤ a ∧ a ≤ 4611686018427387904) : ∃ t, Tos (fun k => laws_markText.f k a) t := by
  unfold laws_markText.f
  by_cases h0 : a ≤ 0
  · exact ⟨_, Tos.ifPos h0 (Tos.pure _)⟩
  · obtain ⟨t, ht⟩ := mark_l0 a.toNat ⟨#[]⟩ (by show 0 + a.toNat ≤ _; omega)
    rw [Int.toNat_of_nonneg (by omega)] at ht
    exact ⟨t, Tos.ifNeg h0 ht⟩
theorem mark_strings (T : Int → ByteArray) (hT : ∀ a, 0 ≤ a ∧ a ≤ 4611686018427387904 → Tos (fun k => laws_markText.f k a) (T a)) :
    ∀ (d j : Nat) (a : Int) (cur : List ByteArray), j + d = cur.length → cur.length ≤ 4611686018427387904 → 0 ≤ a → a + d ≤ 4611686018427387904 → ∃ res : List ByteArray, Tos (fun k => laws_markStringS.l0 k cur a (j : Int)) (a + d, res) ∧ res.length = cur.length ∧ (∀ i, i < j → res[i]? = cur[i]?) ∧ (∀ i : Nat, j ≤ i → i < cur.length → res[i]? = some (T (a + ((i - j : Nat) : Int))))
  | 0, j, a, cur, hj, hl, h0, h1 => by
    refine ⟨cur, Tos.step (G := fun _ => some (a + ((0 : Nat) : Int), cur)) (Tos.pure _) (fun k => ?_), rfl, fun _ _ => rfl, fun i h2 h3 => by omega⟩
    rw [laws_markStringS.l0, if_neg (by omega), show ((0 : Nat) : Int) = 0 from rfl, Int.add_zero]
  | d + 1, j, a, cur, hj, hl, h0, h1 => by
    have e1 : wrap64 (a + 1) = a + 1 := by unfold wrap64; omega
    have e2 : wrap64 ((j : Int) + 1) = ((j + 1 : Nat) : Int) := by unfold wrap64; omega
    obtain ⟨res, g1, g2, g3, g4⟩ := mark_strings T hT d (j + 1) (a + 1) (cur.set j (T a)) (by rw [List.length_set]; omega) (by rw [List.length_set]; omega) (by omega) (by omega)
    rw [List.length_set] at g2 g4
    refine ⟨res, ?_, g2, fun i hi => ?_, fun i h2 h3 => ?_⟩
    · have e3 : a + 1 + (d : Int) = a + ((d + 1 : Nat) : Int) := by omega
      rw [e3] at g1
      refine Tos.step (Tos.bind (hT a ⟨h0, by omega⟩) (G := fun k t => laws_markStringS.l0 k (cur.set j t) (wrap64 (a + 1)) (wrap64 ((j : Int) + 1))) (z := (a + ((d + 1 : Nat) : Int), res)) ?_) (fun k => ?_)
      · rw [e1, e2]
        exact g1
      · rw [laws_markStringS.l0, if_pos (by omega)]
        first | rfl | (congr 1; done) | (congr 1; funext t; rw [if_pos (by omega), Int.toNat_natCast])
    · rw [g3 i (by omega), List.getElem?_set_ne (by omega)]
    · by_cases e : i = j
      · subst e
        rw [g3 i (by omega), List.getElem?_set_self (by omega), Nat.sub_self]
        show some (T a) = some (T (a + 0))
        rw [Int.add_zero]
      · rw [g4 i (by omega) h3]
        congr 2
        omega
theorem held_strings (T : Int → ByteArray) (hT : ∀ a, 0 ≤ a ∧ a ≤ 4611686018427387904 → Tos (fun k => laws_markText.f k a) (T a)) :
    ∀ (d j : Nat) (a : Int) (res : List ByteArray), j + d = res.length → res.length ≤ 4611686018427387904 → 0 ≤ a → a + d ≤ 4611686018427387904 → (∀ i : Nat, j ≤ i → i < res.length → res[i]? = some (T (a + ((i - j : Nat) : Int)))) → Tos (fun k => laws_heldStringS.l0 k res a (j : Int)) (a + d)
  | 0, j, a, res, hj, hl, h0, h1, h => by
    refine Tos.step (G := fun _ => some (a + ((0 : Nat) : Int))) (Tos.pure _) (fun k => ?_)
    rw [laws_heldStringS.l0, if_neg (by omega), show ((0 : Nat) : Int) = 0 from rfl, Int.add_zero]
  | d + 1, j, a, res, hj, hl, h0, h1, h => by
    have e1 : wrap64 (a + 1) = a + 1 := by unfold wrap64; omega
    have e2 : wrap64 ((j : Int) + 1) = ((j + 1 : Nat) : Int) := by unfold wrap64; omega
    have hj' : j < res.length := by omega
    have g := held_strings T hT d (j + 1) (a + 1) res (by omega) hl (by omega) (by omega) (fun i h2 h3 => by rw [h i (by omega) h3]; congr 2; omega)
    have e3 : a + 1 + (d : Int) = a + ((d + 1 : Nat) : Int) := by omega
    rw [e3] at g
    have hr : rdOf ByteArray.empty res (j : Int) = T a := by
      unfold rdOf
      rw [Int.toNat_natCast, List.getD_eq_getElem?_getD, h j (Nat.le_refl _) hj', Nat.sub_self]
      show T (a + 0) = T a
      rw [Int.add_zero]
    refine Tos.step (Tos.bind (hT a ⟨h0, by omega⟩) (G := fun k t => if (rdOf ByteArray.empty res (j : Int)).toList = t.toList then laws_heldStringS.l0 k res (wrap64 (a + 1)) (wrap64 ((j : Int) + 1)) else some (-1)) (z := a + ((d + 1 : Nat) : Int)) ?_) (fun k => ?_)
    · rw [e1, e2]
      exact Tos.ifPos (by rw [hr]) g
    · rw [laws_heldStringS.l0, if_pos (by omega), if_pos (by omega)]
theorem mark_ints : ∀ (d j : Nat) (a : Int) (cur : List Int), j + d = cur.length → cur.length ≤ 4611686018427387904 → 0 ≤ a → a + d ≤ 4611686018427387904 → ∃ res : List Int, Tos (fun k => laws_markIntS.l0 k cur a (j : Int)) (a + d, res)
  | 0, j, a, cur, hj, hl, h0, h1 => by
    refine ⟨cur, Tos.step (G := fun _ => some (a + ((0 : Nat) : Int), cur)) (Tos.pure _) (fun k => ?_)⟩
    rw [laws_markIntS.l0, if_neg (by omega), show ((0 : Nat) : Int) = 0 from rfl, Int.add_zero]
  | d + 1, j, a, cur, hj, hl, h0, h1 => by
    have e1 : wrap64 (a + 1) = a + 1 := by unfold wrap64; omega
    have e2 : wrap64 ((j : Int) + 1) = ((j + 1 : Nat) : Int) := by unfold wrap64; omega
    obtain ⟨res, g⟩ := mark_ints d (j + 1) (a + 1) (cur.set j a) (by rw [List.length_set]; omega) (by rw [List.length_set]; omega) (by omega) (by omega)
    have e3 : a + 1 + (d : Int) = a + ((d + 1 : Nat) : Int) := by omega
    rw [e3] at g
    refine ⟨res, Tos.step g (fun k => ?_)⟩
    rw [laws_markIntS.l0, if_pos (by omega), if_pos (by omega), Int.toNat_natCast, e1, e2]
theorem mark_nodes (T : Int → ByteArray) (hT : ∀ a, 0 ≤ a ∧ a ≤ 4611686018427387904 → Tos (fun k => laws_markText.f k a) (T a)) (l : List S52) (hl : ∀ x ∈ l, Small x) :
    ∀ (d x : Nat) (a : Int), x + d = l.length → 0 ≤ a → a + d * 3000000 ≤ 4611686018427387904 → ∃ r : Int, 0 ≤ r ∧ Tos (fun k => laws_markNodeS.l0 k l a x) r
  | 0, x, a, hx, h0, h1 => by
    refine ⟨a, h0, Tos.step (G := fun _ => some a) (Tos.pure _) (fun k => ?_)⟩
    rw [laws_markNodeS.l0, if_neg (by omega)]
  | d + 1, x, a, hx, h0, h1 => by
    have e1 : wrap64 (a + 1) = a + 1 := by unfold wrap64; omega
    have e2 : wrap64 (a + 1 + 1) = a + 1 + 1 := by unfold wrap64; omega
    have e3 : wrap64 (a + 1 + 1 + 1) = a + 1 + 1 + 1 := by unfold wrap64; omega
    have hs := small_rd hl (x : Int)
    have s1 := hs.2.1
    have s2 := hs.2.2
    obtain ⟨r3, g3, _⟩ := mark_strings T hT (rd_T52 l (x : Int)).f3.length 0 (a + 1 + 1 + 1) (rd_T52 l (x : Int)).f3 (by omega) (by omega) (by omega) (by omega)
    obtain ⟨r4, g4⟩ := mark_ints (rd_T52 l (x : Int)).f4.length 0 (a + 1 + 1 + 1 + ((rd_T52 l (x : Int)).f3.length : Int)) (rd_T52 l (x : Int)).f4 (by omega) (by omega) (by omega) (by omega)
    obtain ⟨r, hr, g⟩ := mark_nodes T hT l hl d (x + 1) (a + 1 + 1 + 1 + ((rd_T52 l (x : Int)).f3.length : Int) + ((rd_T52 l (x : Int)).f4.length : Int)) (by omega) (by omega) (by omega)
    refine ⟨r, hr, Tos.step (G := fun k => (laws_markText.f k (a + 1 + 1)).bind fun _ => (laws_markStringS.f k (rd_T52 l (x : Int)).f3 (a + 1 + 1 + 1)).bind fun m => (laws_markIntS.f k (rd_T52 l (x : Int)).f4 m.1).bind fun n => laws_markNodeS.l0 k l n.1 (x + 1)) ?_ (fun k => ?_)⟩
    · exact Tos.bind (hT (a + 1 + 1) ⟨by omega, by omega⟩) (Tos.bind (F := fun k => laws_markStringS.f k (rd_T52 l (x : Int)).f3 (a + 1 + 1 + 1)) g3 (Tos.bind (F := fun k => laws_markIntS.f k (rd_T52 l (x : Int)).f4 (a + 1 + 1 + 1 + ((rd_T52 l (x : Int)).f3.length : Int))) g4 g))
    · rw [laws_markNodeS.l0, if_pos (by omega), e1, e2, e3]
section
variable (l : List S52)
def isF (c : Int) : Bool := decide ((rd_T52 l c).f0 = 20)
def tx (c : Int) : ByteArray := (rd_T52 l c).f2
end
theorem spec_names {l : List S52} {root : Int} (K : List Int) (hK : ∀ c ∈ K, 0 ≤ c ∧ c < (l.length : Int)) (hn : K.length ≤ 1048576) :
    ∀ (d j : Nat) (acc : List ByteArray), j + d = K.length → acc.length ≤ j → Tos (fun k => spec_FuncsOf.l0 k acc K (j : Int) l root) (acc ++ (((K.drop j).filter (isF l)).map (tx l)), 0)
  | 0, j, acc, hj, ha => by
    rw [List.drop_eq_nil_iff.2 (by omega)]
    refine Tos.step (G := fun _ => some (acc ++ [], 0)) (Tos.pure _) (fun k => ?_)
    rw [spec_FuncsOf.l0, if_neg (by omega), List.append_nil]
  | d + 1, j, acc, hj, ha => by
    have hj' : j < K.length := by omega
    have e2 : wrap64 ((j : Int) + 1) = ((j + 1 : Nat) : Int) := by unfold wrap64; omega
    have hc := hK K[j] (List.getElem_mem hj')
    rw [List.drop_eq_getElem_cons hj', List.filter_cons]
    by_cases hf : (rd_T52 l K[j]).f0 = 20
    · rw [if_pos (show isF l K[j] = true from decide_eq_true hf), List.map_cons]
      have g := spec_names (root := root) K hK hn d (j + 1) (acc ++ [tx l K[j]]) (by omega) (by rw [List.length_append, List.length_singleton]; omega)
      rw [List.append_assoc] at g
      refine Tos.step g (fun k => ?_)
      rw [spec_FuncsOf.l0, if_pos (by omega), if_pos (by omega), rd_at K j hj', if_pos hc.1, if_pos hc.2, if_pos hf, if_pos (by omega), e2]
      rfl
    · rw [if_neg (show ¬ isF l K[j] = true from fun h => hf (of_decide_eq_true h))]
      refine Tos.step (spec_names (root := root) K hK hn d (j + 1) acc (by omega) (by omega)) (fun k => ?_)
      rw [spec_FuncsOf.l0, if_pos (by omega), if_pos (by omega), rd_at K j hj', if_pos hc.1, if_pos hc.2, if_neg hf, e2]
theorem impl_funcs {l : List S52} {root : Int} (K : List Int) (hK : ∀ c ∈ K, 0 ≤ c ∧ c < (l.length : Int)) (hn : K.length ≤ 1048576) :
    ∀ (d j : Nat) (acc : List Int), j + d = K.length → acc.length ≤ j → Tos (fun k => impl_Tree_functions.l0 k acc K (K.length : Int) (j : Int) l root) (acc ++ (K.drop j).filter (isF l), root)
  | 0, j, acc, hj, ha => by
    rw [List.drop_eq_nil_iff.2 (by omega)]
    refine Tos.step (G := fun _ => some (acc ++ [], root)) (Tos.pure _) (fun k => ?_)
    rw [impl_Tree_functions.l0, if_neg (by omega), List.append_nil]
  | d + 1, j, acc, hj, ha => by
    have hj' : j < K.length := by omega
    have e2 : wrap64 ((j : Int) + 1) = ((j + 1 : Nat) : Int) := by unfold wrap64; omega
    have hc := hK K[j] (List.getElem_mem hj')
    rw [List.drop_eq_getElem_cons hj', List.filter_cons]
    by_cases hf : (rd_T52 l K[j]).f0 = 20
    · rw [if_pos (show isF l K[j] = true from decide_eq_true hf)]
      have g := impl_funcs (root := root) K hK hn d (j + 1) (acc ++ [K[j]]) (by omega) (by rw [List.length_append, List.length_singleton]; omega)
      rw [List.append_assoc] at g
      refine Tos.step g (fun k => ?_)
      rw [impl_Tree_functions.l0, if_pos (by omega), if_pos (by omega), if_pos (by omega), rd_at K j hj', if_pos hc.1, if_pos hc.2, if_pos hf, if_pos (by omega), e2]
    · rw [if_neg (show ¬ isF l K[j] = true from fun h => hf (of_decide_eq_true h))]
      refine Tos.step (impl_funcs K hK hn d (j + 1) acc (by omega) (by omega)) (fun k => ?_)
      rw [impl_Tree_functions.l0, if_pos (by omega), if_pos (by omega), if_pos (by omega), rd_at K j hj', if_pos hc.1, if_pos hc.2, if_neg hf, e2]
theorem impl_names {l : List S52} {root : Int} (K : List Int) (hK : ∀ c ∈ K, 0 ≤ c ∧ c < (l.length : Int)) (hn : K.length ≤ 1048576) :
    ∀ (d j : Nat) (acc : List ByteArray), j + d = K.length → acc.length ≤ j → Tos (fun k => impl_Tree_funcNames.l0 k acc K (K.length : Int) (j : Int) l root) (acc ++ (K.drop j).map (tx l), root)
  | 0, j, acc, hj, ha => by
    rw [List.drop_eq_nil_iff.2 (by omega)]
    refine Tos.step (G := fun _ => some (acc ++ [], root)) (Tos.pure _) (fun k => ?_)
    rw [impl_Tree_funcNames.l0, if_neg (by omega), List.append_nil]
  | d + 1, j, acc, hj, ha => by
    have hj' : j < K.length := by omega
    have e2 : wrap64 ((j : Int) + 1) = ((j + 1 : Nat) : Int) := by unfold wrap64; omega
    have hc := hK K[j] (List.getElem_mem hj')
    rw [List.drop_eq_getElem_cons hj', List.map_cons]
    have g := impl_names (root := root) K hK hn d (j + 1) (acc ++ [tx l K[j]]) (by omega) (by rw [List.length_append, List.length_singleton]; omega)
    rw [List.append_assoc] at g
    refine Tos.step g (fun k => ?_)
    rw [impl_Tree_funcNames.l0, if_pos (by omega), if_pos (by omega), if_pos (by omega), rd_at K j hj', if_pos hc.1, if_pos hc.2, if_pos (by omega), e2]
    rfl
theorem same (l : List S52) (root : Int) (hl : ∀ x ∈ l, Small x) : ∃ (v : List ByteArray) (z : Int), v.length ≤ 1048576 ∧ Tos (fun k => spec_FuncsOf.f k l root) (v, z) ∧ Tos (fun k => impl_FuncsOf.f k l root) (v, z) := by
  obtain ⟨ok, n, good, sorts, e1, e2, e4⟩ := tree_same l root hl
  have e3 := spec_ok e1
  unfold spec_FuncsOf.f impl_FuncsOf.f
  cases ok with
  | false => exact ⟨[], 1, by decide, Tos.bind e3 (Tos.ifNeg (by decide) (Tos.pure _)), Tos.bind e2 (Tos.ifNeg (by decide) (Tos.pure _))⟩
  | true =>
    obtain ⟨_, t, hw, _, _⟩ := e4 rfl
    have hs := kids_of hw
    obtain ⟨d', _, k0, k1, _, _, hf⟩ := Tw.W_some hw
    have hn := (small_rd hl root).2.2
    have hK : ∀ c ∈ (rd_T52 l root).f4, 0 ≤ c ∧ c < (l.length : Int) := fun c hc => by
      obtain ⟨x, hx, e⟩ := List.getElem_of_mem hc
      obtain ⟨q, hq⟩ := kid_mem (root := root) hs x hx
      rw [rd_at _ _ hx, e] at hq
      obtain ⟨s', r', h2⟩ := fold_each _ _ _ hf _ hq
      obtain ⟨_, _, c0, c1, _⟩ := Tw.W_some h2
      exact ⟨c0, by omega⟩
    have h1 := spec_names (root := root) _ hK hn (rd_T52 l root).f4.length 0 [] (by omega) (by simp)
    have h2 := impl_funcs (root := root) _ hK hn (rd_T52 l root).f4.length 0 [] (by omega) (by simp)
    have hF : ∀ c ∈ (rd_T52 l root).f4.filter (isF l), 0 ≤ c ∧ c < (l.length : Int) := fun c hc => hK c ((List.mem_filter.1 hc).1)
    have hFn : ((rd_T52 l root).f4.filter (isF l)).length ≤ 1048576 := Nat.le_trans (List.length_filter_le _ _) hn
    have h3 := impl_names (root := root) _ hF hFn ((rd_T52 l root).f4.filter (isF l)).length 0 [] (by omega) (by simp)
    rw [List.drop_zero, List.nil_append] at h1 h2 h3
    refine ⟨((rd_T52 l root).f4.filter (isF l)).map (tx l), 0, by rw [List.length_map]; exact hFn, ?_, ?_⟩
    · exact Tos.bind e3 (Tos.ifPos rfl (Tos.ifPos k0 (Tos.ifPos (by omega) h1)))
    · refine Tos.bind e2 (Tos.ifPos rfl (Tos.bind (y := (((rd_T52 l root).f4.filter (isF l)).map (tx l), root)) ?_ (Tos.pure _)))
      unfold impl_Tree_funcNames.f impl_Tree_functions.f
      exact Tos.bind (Tos.ifPos k0 (Tos.ifPos (by omega) h2)) h3
theorem FnExactFuncsOf : GoalFnExactFuncsOf.Pure := by
  intro l r hl _
  refine Tos.at (F := fun k => laws_FnExactFuncsOf.f k l r) ?_
  unfold laws_FnExactFuncsOf.f
  obtain ⟨z, hz, ht⟩ := sz_Tree l r hl 1048576 (by omega) (by omega)
  rcases hz with rfl | ⟨hz0, hz1, hs⟩
  · exact Tos.bind ht (Tos.ifPos (by decide) (Tos.pure _))
  refine Tos.bind ht (Tos.ifNeg (by omega) ?_)
  have h6 := to_Tree l r hs
  have h7 := eq_Tree _ _ (el_Tree l r hs)
  have h8 := small_tree l r hs
  have h9 : (g_Tree l r).1.length ≤ 1048576 := by
    have := hs.1.1
    show (g_NodeS l).length ≤ _
    unfold g_NodeS
    rw [List.length_map]
    omega
  generalize g_Tree l r = m at *
  obtain ⟨v, z, hv, e1, e2⟩ := same m.1 m.2 h8
  obtain ⟨T, hT⟩ := Classical.skolem.1 (fun a : Int => show ∃ t, 0 ≤ a ∧ a ≤ 4611686018427387904 → Tos (fun k => laws_markText.f k a) t from by
    by_cases h : 0 ≤ a ∧ a ≤ 4611686018427387904
    · obtain ⟨t, ht⟩ := mark_text a h
      exact ⟨t, fun _ => ht⟩
    · exact ⟨⟨#[]⟩, fun h2 => absurd h2 h⟩)
  obtain ⟨mk, hmk, g1⟩ := mark_nodes T hT m.1 h8 m.1.length 0 1 (by omega) (by decide) (by omega)
  obtain ⟨ms, g2, g3, _, g4⟩ := mark_strings T hT v.length 0 1 v (by omega) (by omega) (by decide) (by omega)
  have g5 := held_strings T hT ms.length 0 1 ms (by omega) (by omega) (by decide) (by omega) (fun i h2 h3 => g4 i h2 (by omega))
  rw [g3] at g5
  obtain ⟨Kq, q1⟩ := eq_StringS v ⟨by omega, trivial⟩
  obtain ⟨Kt, q2⟩ := h7
  obtain ⟨Kh, q3⟩ := g5
  refine Tos.bind h6 (Tos.bind e1 (Tos.bind e2 (Tos.bind (F := fun k => laws_markNodeS.f k m.1 1) g1 (Tos.bind (F := fun k => laws_markStringS.f k v 1) g2 ⟨Kq + Kt + Kh, fun k hk => ?_⟩))))
  show (if _ then _ else _) = _
  exact if_pos ⟨q1 k (by omega), rfl, q2 k (by omega), hmk, by show (0 : Int) ≤ 1 + v.length; omega, q3 k (by omega), by omega⟩

end Go.Proofs.Ytngcheicabbpoaa.Pure
