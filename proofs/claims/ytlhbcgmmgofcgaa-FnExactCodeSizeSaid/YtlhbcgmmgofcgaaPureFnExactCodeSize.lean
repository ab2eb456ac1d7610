/- The law FnExactCodeSize over plain data; no condition. -/
import Derived.Test.YtlhbcgmmgofcgaaGoalFnExactCodeSize
import Derived.Test.YtlhbcgmmgofcgaaFamFnExactCodeSize
namespace Go.Proofs.Ytlhbcgmmgofcgaa.Pure
open Go.RowKit Go.Proofs.Ytlhbcgmmgofcgaa.QFnExactProgramOK Go.Proofs.YtlhbcgmmgofcgaaW.PrintWords Go.Proofs.YtlhbcgmmgofcgaaW.PrintLast Go.Proofs.Ytlhbcgmmgofcgaa.GoalFnExactCodeSize Go.Proofs.Ytlhbcgmmgofcgaa

set_option linter.unusedSimpArgs false
set_option linter.unusedVariables false

open Go.Proofs.Ytlhbcgmmgofcgaa.Fam Go.Proofs.Ytlhbcgmmgofcgaa.FamFnExactCodeSize
namespace NameP
/-- A letter, a digit. -/
def letter (c : Int) : Bool := (impl_isLetter.f c).getD false
def digit (c : Int) : Bool := (impl_isDigit.f c).getD false

theorem letter_is (c : Int) : impl_isLetter.f c = some (letter c) := by
  unfold letter impl_isLetter.f
  repeat' split
  all_goals rfl
theorem digit_is (c : Int) : impl_isDigit.f c = some (digit c) := by
  unfold digit impl_isDigit.f
  repeat' split
  all_goals rfl
theorem letter_is' (c : Int) : spec_l00Letter.f c = some (letter c) := letter_is c
theorem digit_is' (c : Int) : spec_l00Digit.f c = some (digit c) := digit_is c

theorem next (j : Nat) (h : j < 1000000) : wrap64 ((j : Int) + 1) = ((j + 1 : Nat) : Int) := by
  unfold wrap64
  omega

/-- Are d bytes from j on letters or digits. -/
def all (s : ByteArray) : Nat → Nat → Bool
  | 0, _ => true
  | d + 1, j => (letter (bt s (j : Int)) || digit (bt s (j : Int))) && all s d (j + 1)

theorem impl_tells (s : ByteArray) (hs : s.size < 1000000) (d : Nat) : ∀ (k j : Nat), j + d = s.size → d < k → impl_NameOK.l0 k s (s.size : Int) (j : Int) = some (all s d j) := by
  induction d with
  | zero =>
    intro k j hj hk
    obtain ⟨k, rfl⟩ : ∃ m, k = m + 1 := ⟨k - 1, by omega⟩
    simp only [impl_NameOK.l0]
    rw [if_neg (by omega)]
    rfl
  | succ d ih =>
    intro k j hj hk
    obtain ⟨k, rfl⟩ : ∃ m, k = m + 1 := ⟨k - 1, by omega⟩
    simp only [impl_NameOK.l0]
    rw [if_pos (by omega), if_pos (by omega), if_pos (by omega), letter_is, digit_is, next j (by omega), ih k (j + 1) (by omega) (by omega)]
    simp only [Option.bind_some, all]
    cases letter (bt s (j : Int)) <;> cases digit (bt s (j : Int)) <;> simp

theorem spec_tells (s : ByteArray) (hs : s.size < 1000000) (d : Nat) : ∀ (k j : Nat), j + d = s.size → d < k → spec_l00Word.l0 k s (j : Int) = some (all s d j) := by
  induction d with
  | zero =>
    intro k j hj hk
    obtain ⟨k, rfl⟩ : ∃ m, k = m + 1 := ⟨k - 1, by omega⟩
    simp only [spec_l00Word.l0]
    rw [if_neg (by omega)]
    rfl
  | succ d ih =>
    intro k j hj hk
    obtain ⟨k, rfl⟩ : ∃ m, k = m + 1 := ⟨k - 1, by omega⟩
    simp only [spec_l00Word.l0]
    rw [if_pos (by omega), if_pos (by omega), letter_is', digit_is', next j (by omega), ih k (j + 1) (by omega) (by omega)]
    simp only [Option.bind_some, all]
    cases letter (bt s (j : Int)) <;> cases digit (bt s (j : Int)) <;> simp

theorem apart (c : Int) (h : letter c = true) : digit c = false := by
  unfold letter impl_isLetter.f at h
  unfold digit impl_isDigit.f
  by_cases h1 : c ≥ 48
  · rw [if_pos h1]
    simp only [Option.getD_some, decide_eq_false_iff_not]
    intro h2
    rw [if_neg (by omega), if_neg (by omega)] at h
    simp only [Option.getD_some, beq_iff_eq] at h
    omega
  · rw [if_neg h1]
    rfl

/-- What both tell. -/
def name (s : ByteArray) : Bool := decide (1 ≤ s.size ∧ s.size ≤ 40) && letter (bt s 0) && all s (s.size - 1) 1

theorem spec_name (s : ByteArray) (k : Nat) (hk : 60 < k) : spec_NameOK.f k s = some (name s) := by
  obtain ⟨k, rfl⟩ : ∃ m, k = m + 1 := ⟨k - 1, by omega⟩
  unfold spec_NameOK.f spec_l00Word.f name
  by_cases h1 : (s.size : Int) < 1
  · rw [if_pos h1, decide_eq_false (by omega)]
    simp [spec_l00Word.j0]
  · rw [if_neg h1]
    by_cases h2 : (s.size : Int) > 40
    · rw [if_pos h2, decide_eq_false (by omega)]
      simp [spec_l00Word.j0]
    · rw [if_neg h2, if_pos (by omega), letter_is', decide_eq_true (by omega)]
      have h := spec_tells s (by omega) (s.size - 1) k 1 (by omega) (by omega)
      simp only [Option.bind_some, spec_l00Word.j0]
      rw [show spec_l00Word.l0 k s 1 = some (all s (s.size - 1) 1) from h]
      cases letter (bt s 0) <;> simp

theorem impl_name (s : ByteArray) (k : Nat) (hk : 60 < k) : impl_NameOK.f k s = some (name s) := by
  obtain ⟨k, rfl⟩ : ∃ m, k = m + 1 := ⟨k - 1, by omega⟩
  unfold impl_NameOK.f impl_within.f name
  by_cases h1 : (s.size : Int) < 1
  · rw [if_neg (by omega), decide_eq_false (by omega)]
    simp [impl_NameOK.j0]
  · rw [if_pos (by omega)]
    by_cases h2 : (s.size : Int) > 40
    · rw [decide_eq_false (by omega), decide_eq_false (by omega)]
      simp [impl_NameOK.j0]
    · rw [decide_eq_true (by omega), decide_eq_true (by omega)]
      have h := impl_tells s (by omega) s.size k 0 (by omega) (by omega)
      have e : all s s.size 0 = ((letter (bt s 0) || digit (bt s 0)) && all s (s.size - 1) 1) := by
        obtain ⟨d, hd⟩ : ∃ d, s.size = d + 1 := ⟨s.size - 1, by omega⟩
        rw [hd]
        rfl
      simp only [Option.bind_some, if_true]
      rw [if_pos (by omega), digit_is]
      simp only [Option.bind_some, impl_NameOK.j0]
      rw [show impl_NameOK.l0 k s (s.size : Int) 0 = some (all s s.size 0) from h, e]
      cases hl : letter (bt s 0)
      · cases digit (bt s 0) <;> simp
      · rw [apart _ hl]
        simp
end NameP

namespace WordP
/-- The place of the first text that is v, counted from j; -1 without one. -/
def find : List ByteArray → ByteArray → Nat → Int
  | [], _, _ => -1
  | x :: xs, v, j => if x.toList = v.toList then (j : Int) else find xs v (j + 1)

theorem drop_at (l : List ByteArray) (j : Nat) (h : j < l.length) : l.drop j = rdOf ByteArray.empty l (j : Int) :: l.drop (j + 1) := by
  rw [List.drop_eq_getElem_cons h]
  simp [rdOf, h]

theorem next (j : Nat) (h : j < 1000000) : wrap64 ((j : Int) + 1) = ((j + 1 : Nat) : Int) := by
  unfold wrap64
  omega

theorem index_tells (l : List ByteArray) (v : ByteArray) (hl : l.length < 1000000) (d : Nat) : ∀ (k j : Nat), j + d = l.length → d < k →
    slices_Index_string_string.l0 k l v (l.length : Int) (j : Int) = some (find (l.drop j) v j) := by
  induction d with
  | zero =>
    intro k j hj hk
    obtain ⟨k, rfl⟩ : ∃ m, k = m + 1 := ⟨k - 1, by omega⟩
    simp only [slices_Index_string_string.l0]
    rw [if_neg (by omega), List.drop_of_length_le (by omega)]
    rfl
  | succ d ih =>
    intro k j hj hk
    obtain ⟨k, rfl⟩ : ∃ m, k = m + 1 := ⟨k - 1, by omega⟩
    simp only [slices_Index_string_string.l0]
    rw [if_pos (by omega), if_pos (by omega), if_pos (by omega), drop_at l j (by omega), next j (by omega), ih k (j + 1) (by omega) (by omega)]
    simp only [find]
    by_cases e : v.toList = (rdOf ByteArray.empty l (j : Int)).toList
    · rw [if_pos e, if_pos e.symm]
    · rw [if_neg e, if_neg (fun h => e h.symm)]

theorem find_low (l : List ByteArray) (v : ByteArray) (j : Nat) : find l v j = -1 ∨ (j : Int) ≤ find l v j := by
  induction l generalizing j with
  | nil => exact .inl rfl
  | cons x xs ih =>
    simp only [find]
    split
    · exact .inr (by omega)
    · rcases ih (j + 1) with h | h
      · exact .inl h
      · exact .inr (by omega)

theorem spec_tells (l : List ByteArray) (v : ByteArray) (hl : l.length < 1000000) (d : Nat) : ∀ (k j : Nat), j + d = l.length → d < k →
    spec_WordOK.l0 k v l (j : Int) = some (decide (find (l.drop j) v j ≥ 0)) := by
  induction d with
  | zero =>
    intro k j hj hk
    obtain ⟨k, rfl⟩ : ∃ m, k = m + 1 := ⟨k - 1, by omega⟩
    simp only [spec_WordOK.l0]
    rw [if_neg (by omega), List.drop_of_length_le (by omega)]
    rfl
  | succ d ih =>
    intro k j hj hk
    obtain ⟨k, rfl⟩ : ∃ m, k = m + 1 := ⟨k - 1, by omega⟩
    simp only [spec_WordOK.l0]
    rw [if_pos (by omega), if_pos (by omega), drop_at l j (by omega), next j (by omega), ih k (j + 1) (by omega) (by omega)]
    by_cases e : (rdOf ByteArray.empty l (j : Int)).toList = v.toList
    · rw [if_pos e]
      have hf : find (rdOf ByteArray.empty l (j : Int) :: l.drop (j + 1)) v j = (j : Int) := if_pos e
      exact congrArg some (decide_eq_true (by omega)).symm
    · rw [if_neg e]
      exact congrArg (fun z : Int => some (decide (z ≥ 0))) (if_neg e).symm

/-- The words. -/
def W : List ByteArray := (impl_sourceWords.f).getD []

theorem words : impl_sourceWords.f = some W := rfl
theorem words2 : spec_l02Words.f = some W := rfl
theorem W_length : W.length = 12 := rfl

theorem long_none (v : ByteArray) (h : (v.size : Int) > 65536) : ∀ (l : List ByteArray) (j : Nat), (∀ x ∈ l, x.size ≤ 10) → find l v j = -1 := by
  intro l
  induction l with
  | nil => exact fun _ _ => rfl
  | cons x xs ih =>
    intro j hx
    simp only [find]
    rw [if_neg, ih (j + 1) (fun y hy => hx y (List.mem_cons_of_mem _ hy))]
    intro e
    have h1 := hx x (List.mem_cons_self ..)
    have h2 : x.toList.length = v.toList.length := by rw [e]
    rw [ByteArray.toList_eq, ByteArray.toList_eq] at h2
    simp only [Array.length_toList] at h2
    have h3 : x.data.size = x.size := rfl
    have h4 : v.data.size = v.size := rfl
    omega

theorem W_short : ∀ x ∈ W, x.size ≤ 10 := by decide
end WordP

namespace OpP
def find : List ByteArray → ByteArray → Nat → Int
  | [], _, _ => -1
  | x :: xs, v, j => if x.toList = v.toList then (j : Int) else find xs v (j + 1)

theorem drop_at (l : List ByteArray) (j : Nat) (h : j < l.length) : l.drop j = rdOf ByteArray.empty l (j : Int) :: l.drop (j + 1) := by
  rw [List.drop_eq_getElem_cons h]
  simp [rdOf, h]

theorem index_tells (l : List ByteArray) (v : ByteArray) (hl : l.length < 4611686018427387904) (d : Nat) : ∀ (k j : Nat), j + d = l.length → d < k →
    slices_Index_string_string.l0 k l v (l.length : Int) (j : Int) = some (find (l.drop j) v j) := by
  induction d with
  | zero =>
    intro k j hj hk
    obtain ⟨k, rfl⟩ : ∃ m, k = m + 1 := ⟨k - 1, by omega⟩
    simp only [slices_Index_string_string.l0]
    rw [if_neg (by omega), List.drop_of_length_le (by omega)]
    rfl
  | succ d ih =>
    intro k j hj hk
    obtain ⟨k, rfl⟩ : ∃ m, k = m + 1 := ⟨k - 1, by omega⟩
    simp only [slices_Index_string_string.l0]
    rw [if_pos (by omega), if_pos (by omega), if_pos (by omega), drop_at l j (by omega), Plain.next j (by omega), ih k (j + 1) (by omega) (by omega)]
    simp only [find]
    by_cases e : v.toList = (rdOf ByteArray.empty l (j : Int)).toList
    · rw [if_pos e, if_pos e.symm]
    · rw [if_neg e, if_neg (fun h => e h.symm)]

theorem index_is (l : List ByteArray) (v : ByteArray) (hl : l.length < 4611686018427387904) (k : Nat) (hk : l.length < k) : slices_Index_string_string.f k l v = some (find l v 0) := by
  have h := index_tells l v hl l.length k 0 (by omega) hk
  exact h
theorem op_same (k : Nat) (hk : 8 ≤ k) (op : ByteArray) : ∃ b, spec_l01Op.f op = some b ∧ impl_isBinary.f k op = some b := by
  have hb := index_is [⟨#[61, 61]⟩, ⟨#[60]⟩, ⟨#[43]⟩, ⟨#[45]⟩, ⟨#[42]⟩, ⟨#[47]⟩, ⟨#[37]⟩] op (by decide) k (by simp only [List.length_cons, List.length_nil]; omega)
  unfold spec_l01Op.f impl_isBinary.f slices_Contains_string_string.f
  rw [hb]
  simp only [Option.bind_some]
  have t0 : (⟨#[61, 61]⟩ : ByteArray).toList = [61, 61] := by rw [ByteArray.toList_eq]
  have t1 : (⟨#[60]⟩ : ByteArray).toList = [60] := by rw [ByteArray.toList_eq]
  have t2 : (⟨#[43]⟩ : ByteArray).toList = [43] := by rw [ByteArray.toList_eq]
  have t3 : (⟨#[45]⟩ : ByteArray).toList = [45] := by rw [ByteArray.toList_eq]
  have t4 : (⟨#[42]⟩ : ByteArray).toList = [42] := by rw [ByteArray.toList_eq]
  have t5 : (⟨#[47]⟩ : ByteArray).toList = [47] := by rw [ByteArray.toList_eq]
  have t6 : (⟨#[37]⟩ : ByteArray).toList = [37] := by rw [ByteArray.toList_eq]
  simp only [find, t0, t1, t2, t3, t4, t5, t6]
  generalize op.toList = o
  by_cases c0 : [61, 61] = o
  · subst c0; exact ⟨true, by decide, by decide⟩
  by_cases c1 : [60] = o
  · subst c1; exact ⟨true, by decide, by decide⟩
  by_cases c2 : [43] = o
  · subst c2; exact ⟨true, by decide, by decide⟩
  by_cases c3 : [45] = o
  · subst c3; exact ⟨true, by decide, by decide⟩
  by_cases c4 : [42] = o
  · subst c4; exact ⟨true, by decide, by decide⟩
  by_cases c5 : [47] = o
  · subst c5; exact ⟨true, by decide, by decide⟩
  by_cases c6 : [37] = o
  · subst c6; exact ⟨true, by decide, by decide⟩
  refine ⟨false, ?_, ?_⟩
  · rw [if_neg (fun h => c2 h.symm), if_neg (fun h => c3 h.symm), if_neg (fun h => c4 h.symm), if_neg (fun h => c5 h.symm), if_neg (fun h => c6 h.symm), if_neg (fun h => c1 h.symm)]
    exact congrArg some (beq_eq_false_iff_ne.2 (fun h => c0 h.symm))
  · rw [if_neg c0, if_neg c1, if_neg c2, if_neg c3, if_neg c4, if_neg c5, if_neg c6]
    rfl
end OpP

/-- Is a text a name that may be given. -/
def ident (s : ByteArray) : Bool := NameP.name s && (decide (s.size ≤ 20) && !decide (WordP.find (WordP.W.drop 0) s 0 ≥ 0))
theorem word_impl (v : ByteArray) (k : Nat) (hk : 30 ≤ k) : impl_WordOK.f k v = some (decide (WordP.find (WordP.W.drop 0) v 0 ≥ 0)) := by
  refine at_rounds (g := fun k => impl_WordOK.f k v) (impl_WordOK.mono v) hk ?_
  have h2 : slices_Index_string_string.f 30 WordP.W v = some (WordP.find (WordP.W.drop 0) v 0) := WordP.index_tells WordP.W v (by rw [WordP.W_length]; omega) 12 30 0 rfl (by omega)
  show impl_WordOK.f 30 v = _
  unfold impl_WordOK.f slices_Contains_string_string.f
  rw [WordP.words]
  simp only [Option.bind_some]
  rw [h2]
  rfl
theorem word_spec (v : ByteArray) (k : Nat) (hk : 30 ≤ k) : spec_WordOK.f k v = some (decide (WordP.find (WordP.W.drop 0) v 0 ≥ 0)) := by
  refine at_rounds (g := fun k => spec_WordOK.f k v) (spec_WordOK.mono v) hk ?_
  show spec_WordOK.f 30 v = _
  unfold spec_WordOK.f
  by_cases hv : (v.size : Int) > 65536
  · rw [if_pos hv, List.drop_zero, WordP.long_none v hv WordP.W 0 WordP.W_short]
    rfl
  · rw [if_neg hv, WordP.words2]
    exact WordP.spec_tells WordP.W v (by rw [WordP.W_length]; omega) 12 30 0 rfl (by omega)
theorem ident_spec (s : ByteArray) (k : Nat) (hk : 60 < k) : spec_l03Name.f k s = some (ident s) := by
  unfold spec_l03Name.f ident
  rw [NameP.spec_name s k hk, word_spec s k (by omega)]
  simp only [Option.bind_some]
  cases NameP.name s
  · rfl
  · by_cases h : (s.size : Int) ≤ 20
    · rw [if_pos rfl, if_pos h, decide_eq_true (show s.size ≤ 20 by omega)]
      rfl
    · rw [if_pos rfl, if_neg h, decide_eq_false (show ¬ s.size ≤ 20 by omega)]
      rfl
theorem ident_impl (s : ByteArray) (k : Nat) (hk : 60 < k) : impl_identOK.f k s = some (ident s) := by
  unfold impl_identOK.f ident
  rw [NameP.impl_name s k hk, word_impl s k (by omega)]
  simp only [Option.bind_some]
  cases NameP.name s
  · rfl
  · by_cases h : (s.size : Int) ≤ 20
    · rw [if_pos rfl, if_pos h, decide_eq_true (show s.size ≤ 20 by omega)]
      rfl
    · rw [if_pos rfl, if_neg h, decide_eq_false (show ¬ s.size ≤ 20 by omega)]
      rfl

namespace PrP
theorem e_toList : (⟨#[]⟩ : ByteArray).toList = [] := by rw [ByteArray.toList_eq]
theorem value_same (k n : Int) (t : ByteArray) : ∃ q, spec_ValueOK.f k n t = some q ∧ impl_ValueOK.f k n t = some q ∧ ((k == 0 && (n == 0 && (t.toList == ([] : List UInt8)))) = true → q = true) := by
  unfold spec_ValueOK.f impl_ValueOK.f spec_l01In.f impl_within.f
  by_cases h0 : k = 0
  · subst h0
    by_cases hn : n = 0 <;> by_cases ht : t.toList = [] <;> simp [hn, ht]
  by_cases h1 : k = 1
  · subst h1
    by_cases ha : -2147483648 ≤ n <;> by_cases hb : n ≤ 2147483647 <;> by_cases ht : t.toList = [] <;> simp [ha, hb, ht]
  by_cases h2 : k = 2
  · subst h2
    by_cases ha : 0 ≤ n <;> by_cases hb : n ≤ 1 <;> by_cases ht : t.toList = [] <;> simp [ha, hb, ht]
  by_cases h3 : k = 3
  · subst h3
    by_cases hn : n = 0 <;> simp [hn]
  simp [h0, h1, h2, h3]
theorem kinds_is (t : ByteArray) : ∃ ks ok, impl_builtinKinds.f 64 t = some (ks, ok) ∧ (ok && (0 : Int) == 0) = decide (0 ≤ spec_l05Ins.cnt t) ∧ (ok = true → (ks.length : Int) = spec_l05Ins.cnt t) := by
  unfold impl_builtinKinds.f spec_l05Ins.cnt
  simp only [impl_builtinKinds.j0]
  generalize t.toList = q
  by_cases c1 : q = ([108, 101, 110] : List UInt8)
  · subst c1; exact ⟨_, _, rfl, by decide, by decide⟩
  by_cases c2 : q = ([115, 116, 114] : List UInt8)
  · subst c2; exact ⟨_, _, rfl, by decide, by decide⟩
  by_cases c3 : q = ([97, 98, 115] : List UInt8)
  · subst c3; exact ⟨_, _, rfl, by decide, by decide⟩
  by_cases c4 : q = ([97, 116] : List UInt8)
  · subst c4; exact ⟨_, _, rfl, by decide, by decide⟩
  by_cases c5 : q = ([109, 97, 120] : List UInt8)
  · subst c5; exact ⟨_, _, rfl, by decide, by decide⟩
  by_cases c6 : q = ([109, 105, 110] : List UInt8)
  · subst c6; exact ⟨_, _, rfl, by decide, by decide⟩
  by_cases c7 : q = ([99, 117, 116] : List UInt8)
  · subst c7; exact ⟨_, _, rfl, by decide, by decide⟩
  simp [c1, c2, c3, c4, c5, c6, c7]

theorem bareV (a0 a1 a2 : Int) (a3 : ByteArray) (v0 v1 : Int) (v2 : ByteArray) (h : a0 ≠ 1) : (impl_Ins_bare.v a0 a1 a2 a3 v0 v1 v2).2.2.2.2 = (0, 0, ⟨#[]⟩) := by
  unfold impl_Ins_bare.v
  rw [if_neg h]
  split
  · rfl
  split
  · rfl
  split
  · rfl
  split <;> rfl
theorem some_of {A B : Option Bool} (h : A = B) (h2 : B.isSome = true) : ∃ b, A = some b ∧ B = some b := by
  obtain ⟨b, hb⟩ := Option.isSome_iff_exists.1 h2
  exact ⟨b, by rw [h, hb], hb⟩
theorem ins_same (hop : ∀ t : ByteArray, ∃ b, spec_l01Op.f t = some b ∧ impl_isBinary.f 64 t = some b) (ps : List S57) (slots : Int) (n : Nat) (i : S61) : ∃ b, impl_Program_insOK.f ps slots n i = some b ∧ spec_l05Ins.f ps slots n i = some b := by
  obtain ⟨i0, i1, i2, i3, v0, v1, v2⟩ := i
  obtain ⟨q, hq1, hq2, hq3⟩ := value_same v0 v1 v2
  obtain ⟨ob, ho1, ho2⟩ := hop i3
  obtain ⟨ks, kok, hk1, hk2, hk3⟩ := kinds_is i3
  have hlead : impl_leads.f 64 i0 = some (impl_Ins_bare.lead i0) := impl_Ins_bare.leads_is i0 64 (by decide)
  obtain ⟨bn, hbn⟩ : ∃ bn, bn = (i1 == 0) := ⟨_, rfl⟩
  obtain ⟨bm, hbm⟩ : ∃ bm, bm = (i2 == 0) := ⟨_, rfl⟩
  obtain ⟨bt, hbt⟩ : ∃ bt, bt = (i3.toList == ([] : List UInt8)) := ⟨_, rfl⟩
  have hV := bareV i0 i1 i2 i3 v0 v1 v2
  unfold impl_Program_insOK.f spec_l05Ins.f impl_Ins_bare.f impl_Program_insOK.same spec_l05Ins.bad
  simp only [hq1, hq2, hk1, ho1, ho2, hlead, Option.bind_some, impl_isUnary.f]
  by_cases h1 : i0 = 1
  · subst h1
    clear hV
    refine some_of ?_ ?_
    · simp [impl_Ins_bare.v, e_toList, ← hbn, ← hbm, ← hbt]
      cases bn <;> cases bm <;> cases bt <;> cases q <;> rfl
    · simp [← hbn, ← hbm, ← hbt]
      cases bn <;> cases bm <;> cases bt <;> cases q <;> rfl
  have hV := hV h1
  rw [hV]
  have b1 : (i0 == 1) = false := beq_eq_false_iff_ne.mpr h1
  simp only [e_toList, b1]
  cases hz : (v0 == 0 && (v1 == 0 && (v2.toList == ([] : List UInt8)))) with
  | false => exact ⟨false, by simp, by simp⟩
  | true =>
    obtain rfl := hq3 hz
    clear hz hq3 hV hq1 hq2
    refine some_of ?_ ?_
    · skip

      by_cases h2 : i0 = 2
      · subst h2
        simp [impl_Ins_bare.v, impl_Ins_bare.lead, e_toList, ← hbn, ← hbm, ← hbt]
        all_goals (cases bn <;> cases bm <;> cases bt <;> first | rfl | (simp; done) | simp_all)
      by_cases h3 : i0 = 3
      · subst h3
        simp [impl_Ins_bare.v, impl_Ins_bare.lead, e_toList, ← hbn, ← hbm, ← hbt]
        all_goals (cases bn <;> cases bm <;> cases bt <;> first | rfl | (simp; done) | simp_all)
      by_cases h4 : i0 = 4
      · subst h4
        simp [impl_Ins_bare.v, impl_Ins_bare.lead, e_toList, ← hbn, ← hbm, ← hbt]
        cases bn <;> cases bm <;> first | rfl | skip
        by_cases g : i3.toList = [33]
        · simp [g]
        · simp [g]
      by_cases h5 : i0 = 5
      · subst h5
        simp [impl_Ins_bare.v, impl_Ins_bare.lead, e_toList, ← hbn, ← hbm, ← hbt]
        all_goals (cases bn <;> cases bm <;> cases bt <;> first | rfl | (simp; done) | simp_all)
      by_cases h6 : i0 = 6
      · subst h6
        simp [impl_Ins_bare.v, impl_Ins_bare.lead, e_toList, ← hbn, ← hbm, ← hbt]
        all_goals (cases bn <;> cases bm <;> cases bt <;> first | rfl | (simp; done) | simp_all)
      by_cases h7 : i0 = 7
      · subst h7
        simp [impl_Ins_bare.v, impl_Ins_bare.lead, e_toList, ← hbn, ← hbm, ← hbt]
        all_goals (cases bn <;> cases bm <;> cases bt <;> first | rfl | (simp; done) | simp_all)
      by_cases h8 : i0 = 8
      · subst h8
        simp [impl_Ins_bare.v, impl_Ins_bare.lead, e_toList, ← hbn, ← hbm, ← hbt]
        all_goals (cases bn <;> cases bm <;> cases bt <;> first | rfl | (simp; done) | simp_all)
      by_cases h9 : i0 = 9
      · subst h9
        simp [impl_Ins_bare.v, impl_Ins_bare.lead, e_toList, ← hbn, ← hbm, ← hbt]
        all_goals (cases bn <;> cases bm <;> cases bt <;> first | rfl | (simp; done) | simp_all)
      by_cases h14 : i0 = 14
      · subst h14
        simp [impl_Ins_bare.v, impl_Ins_bare.lead, e_toList, ← hbn, ← hbm, ← hbt]
        all_goals (cases bn <;> cases bm <;> cases bt <;> first | rfl | (simp; done) | simp_all)
      by_cases h10 : i0 = 10
      · subst h10
        simp [impl_Ins_bare.v, impl_Ins_bare.lead, e_toList, ← hbn, ← hbm, ← hbt]
        all_goals (cases bn <;> cases bm <;> cases bt <;> first | rfl | (simp; done) | simp_all)
      by_cases h11 : i0 = 11
      · subst h11
        simp [impl_Ins_bare.v, impl_Ins_bare.lead, e_toList, ← hbn, ← hbm, ← hbt]
        cases bm
        · rfl
        · have hk4 : kok = decide (0 ≤ spec_l05Ins.cnt i3) := by rw [← hk2]; simp
          cases kok with
          | false => rw [← hk4]; simp
          | true => rw [← hk4, hk3 rfl]
      by_cases h12 : i0 = 12
      · subst h12
        simp [impl_Ins_bare.v, impl_Ins_bare.lead, e_toList, ← hbn, ← hbm, ← hbt]
        all_goals (cases bn <;> cases bm <;> cases bt <;> first | rfl | (simp; done) | simp_all)
      by_cases h13 : i0 = 13
      · subst h13
        simp [impl_Ins_bare.v, impl_Ins_bare.lead, e_toList, ← hbn, ← hbm, ← hbt]
        all_goals (cases bn <;> cases bm <;> cases bt <;> first | rfl | (simp; done) | simp_all)
      by_cases h15 : i0 = 15
      · subst h15
        simp [impl_Ins_bare.v, impl_Ins_bare.lead, e_toList, ← hbn, ← hbm, ← hbt]
        all_goals (cases bn <;> cases bm <;> cases bt <;> first | rfl | (simp; done) | simp_all)
      by_cases h16 : i0 = 16
      · subst h16
        simp [impl_Ins_bare.v, impl_Ins_bare.lead, e_toList, ← hbn, ← hbm, ← hbt]
        all_goals (cases bn <;> cases bm <;> cases bt <;> first | rfl | (simp; done) | simp_all)
      have hr : (decide (1 ≤ i0) && decide (i0 ≤ 16)) = false := by rw [← Bool.decide_and]; exact decide_eq_false (by omega)
      rw [hr]
      simp [h1, h2, h3, h4, h5, h6, h7, h8, h9, h10, h11, h14]
    · clear hlead hk1 hk2 hk3 ho1 ho2 hop hbn hbm hbt
      split
      · rfl
      split
      · rfl
      split
      · rfl
      split
      · rfl
      split
      · rfl
      split
      · rfl
      split <;> rfl
end PrP

namespace FlP
def tk (op N M : Int) : Int := if op = 10 then M else if op = 11 then N else if op = 5 then 2 else if op = 3 ∨ op = 4 ∨ op = 7 ∨ op = 8 ∨ op = 9 ∨ op = 12 ∨ op = 13 ∨ op = 16 then 1 else 0
def pt (op : Int) : Int := if op = 1 ∨ op = 2 ∨ op = 4 ∨ op = 5 ∨ op = 10 ∨ op = 11 then 1 else 0
theorem needs_is (op N M : Int) (T : ByteArray) (a b : Int) (c : ByteArray) : impl_Ins_needs.f 64 op N M T a b c = some (tk op N M, pt op) := by
  unfold impl_Ins_needs.f tk pt
  simp only [impl_Ins_needs.j0, impl_Ins_needs.j1]
  by_cases h1 : op = 1
  · subst h1; rfl
  by_cases h2 : op = 2
  · subst h2; rfl
  by_cases h3 : op = 3
  · subst h3; rfl
  by_cases h4 : op = 4
  · subst h4; rfl
  by_cases h5 : op = 5
  · subst h5; rfl
  by_cases h7 : op = 7
  · subst h7; rfl
  by_cases h8 : op = 8
  · subst h8; rfl
  by_cases h9 : op = 9
  · subst h9; rfl
  by_cases h10 : op = 10
  · subst h10; rfl
  by_cases h11 : op = 11
  · subst h11; rfl
  by_cases h12 : op = 12
  · subst h12; rfl
  by_cases h13 : op = 13
  · subst h13; rfl
  by_cases h16 : op = 16
  · subst h16; rfl
  simp [h1, h2, h3, h4, h5, h7, h8, h9, h10, h11, h12, h13, h16]
theorem grow_is (op N M : Int) (T : ByteArray) (a b : Int) (c : ByteArray) : spec_l05Grow.f 64 op N M T a b c = some (tk op N M, pt op) := by
  unfold spec_l05Grow.f tk pt
  simp only [spec_l05Grow.j0, spec_l05Grow.j1]
  by_cases h1 : op = 1
  · subst h1; rfl
  by_cases h2 : op = 2
  · subst h2; rfl
  by_cases h3 : op = 3
  · subst h3; rfl
  by_cases h4 : op = 4
  · subst h4; rfl
  by_cases h5 : op = 5
  · subst h5; rfl
  by_cases h7 : op = 7
  · subst h7; rfl
  by_cases h8 : op = 8
  · subst h8; rfl
  by_cases h9 : op = 9
  · subst h9; rfl
  by_cases h10 : op = 10
  · subst h10; rfl
  by_cases h11 : op = 11
  · subst h11; rfl
  by_cases h12 : op = 12
  · subst h12; rfl
  by_cases h13 : op = 13
  · subst h13; rfl
  by_cases h16 : op = 16
  · subst h16; rfl
  simp [h1, h2, h3, h4, h5, h7, h8, h9, h10, h11, h12, h13, h16]
/-- The ways on, in plain. -/
def onward (op N M k h t : Int) : List S80 × Bool :=
  if tk op N M > h ∨ (op = 15 ∧ t = 0) then ([], false)
  else if op = 12 ∨ op = 13 then ([], true)
  else if op = 6 then ([⟨N, ⟨wrap64 (wrap64 (h - tk op N M) + pt op), t⟩⟩], true)
  else if op = 7 then ([⟨wrap64 (k + 1), ⟨wrap64 (wrap64 (h - tk op N M) + pt op), t⟩⟩, ⟨N, ⟨wrap64 (wrap64 (h - tk op N M) + pt op), t⟩⟩], true)
  else if op = 8 ∨ op = 9 then ([⟨wrap64 (k + 1), ⟨wrap64 (wrap64 (h - tk op N M) + pt op), t⟩⟩, ⟨N, ⟨h, t⟩⟩], true)
  else if op = 14 then ([⟨wrap64 (k + 1), ⟨h, wrap64 (t + 1)⟩⟩, ⟨N, ⟨wrap64 (h + 1), t⟩⟩], true)
  else if op = 15 then ([⟨wrap64 (k + 1), ⟨wrap64 (wrap64 (h - tk op N M) + pt op), wrap64 (t - 1)⟩⟩], true)
  else ([⟨wrap64 (k + 1), ⟨wrap64 (wrap64 (h - tk op N M) + pt op), t⟩⟩], true)
theorem onward_is (op N M : Int) (T : ByteArray) (a b : Int) (c : ByteArray) (k h t : Int) : impl_Ins_onward.f 64 op N M T a b c k h t = some (onward op N M k h t) := by
  unfold impl_Ins_onward.f onward
  rw [needs_is]
  simp only [Option.bind_some, impl_Ins_onward.j0, impl_Ins_onward.j1, impl_Ins_onward.j2]
  generalize tk op N M = x
  generalize pt op = y
  by_cases hx : x > h
  · simp [hx]
  by_cases h15 : op = 15
  · subst h15
    by_cases ht : t = 0
    · simp [hx, ht]
    · simp [hx, ht]
  by_cases h12 : op = 12
  · subst h12; simp [hx]
  by_cases h13 : op = 13
  · subst h13; simp [hx]
  by_cases h6 : op = 6
  · subst h6; simp [hx]
  by_cases h7 : op = 7
  · subst h7; simp [hx]
  by_cases h8 : op = 8
  · subst h8; simp [hx]
  by_cases h9 : op = 9
  · subst h9; simp [hx]
  by_cases h14 : op = 14
  · subst h14; simp [hx]
  simp [hx, h15, h12, h13, h6, h7, h8, h9, h14]
end FlP

namespace FlP
theorem wrap_in (x : Int) (h : -9223372036854775808 ≤ x ∧ x < 9223372036854775808) : wrap64 x = x := by unfold wrap64; omega
/-- What a right instruction tells of its numbers. -/
structure Facts (ps : List S57) (n : Nat) (i : S61) : Prop where
  few : i.f0 = 11 → 0 ≤ i.f1 ∧ i.f1 ≤ 3
  lead : (i.f0 = 6 ∨ i.f0 = 7 ∨ i.f0 = 8 ∨ i.f0 = 9 ∨ i.f0 = 14) → 0 ≤ i.f1 ∧ i.f1 ≤ (n : Int) - 1
  call : i.f0 = 10 → 1 ≤ i.f1 ∧ i.f1 ≤ (ps.length : Int) - 1 ∧ i.f2 = (rd_T57 ps i.f1).f1
theorem cnt_most (t : ByteArray) : spec_l05Ins.cnt t ≤ 3 := by
  unfold spec_l05Ins.cnt
  split
  · decide
  split
  · decide
  split <;> decide
theorem facts_of {ps : List S57} {slots : Int} {n : Nat} {i : S61} (h : spec_l05Ins.f ps slots n i = some true) : Facts ps n i := by
  unfold spec_l05Ins.f at h
  obtain ⟨q, _, h⟩ := Option.bind_eq_some_iff.1 h
  split at h
  · cases h
  obtain ⟨i0, i1, i2, i3, v⟩ := i
  simp only at h
  refine ⟨fun e => ?_, fun e => ?_, fun e => ?_⟩
  · simp only at e ⊢
    subst e
    simp at h
    have := cnt_most i3
    omega
  · simp only at e ⊢
    rcases e with rfl | rfl | rfl | rfl | rfl <;> · simp at h; omega
  · simp only at e ⊢
    subst e
    simp at h
    exact ⟨h.1.1, h.1.2, h.2⟩
theorem tk_in {ps : List S57} {n : Nat} {i : S61} (h : Facts ps n i) (hc : i.f0 = 10 → 0 ≤ i.f2 ∧ i.f2 ≤ 4) : 0 ≤ tk i.f0 i.f1 i.f2 ∧ tk i.f0 i.f1 i.f2 ≤ 4 := by
  unfold tk
  split
  · exact hc (by assumption)
  split
  · have := h.few (by assumption)
    omega
  split
  · omega
  split <;> omega
theorem pt_in (op : Int) : 0 ≤ pt op ∧ pt op ≤ 1 := by
  unfold pt
  split <;> omega
theorem onward_in {ps : List S57} {n : Nat} {i : S61} (hf : Facts ps n i) (T : Prop) (hT : T → i.f0 = 10 → 0 ≤ i.f2 ∧ i.f2 ≤ 4) (k h t : Int) (k0 : 0 ≤ k) (k1 : k < n) (hn : n ≤ 4611686018427387904) (h1 : h ≤ 200) (t0 : 0 ≤ t) (t1 : t ≤ 20) :
    (onward i.f0 i.f1 i.f2 k h t).1.length ≤ 2 ∧ ∀ y ∈ (onward i.f0 i.f1 i.f2 k h t).1, 0 ≤ y.f0 ∧ (0 ≤ y.f1.f0 ∨ ((onward i.f0 i.f1 i.f2 k h t).1.length ≤ 1 ∧ y.f0 = k + 1 ∧ ¬ T)) ∧ 0 ≤ y.f1.f1 := by
  obtain ⟨p0, p1⟩ := pt_in i.f0
  have ek : wrap64 (k + 1) = k + 1 := wrap_in _ (by omega)
  have et : wrap64 (t + 1) = t + 1 := wrap_in _ (by omega)
  by_cases hz : tk i.f0 i.f1 i.f2 > h ∨ (i.f0 = 15 ∧ t = 0)
  · unfold onward
    rw [if_pos hz]
    exact ⟨by simp, fun y hy => by simp at hy⟩
  by_cases h10 : i.f0 = 10 ∧ ¬ (0 ≤ i.f2 ∧ i.f2 ≤ 4)
  · have hnT : ¬ T := fun hh => h10.2 (hT hh h10.1)
    have e := h10.1
    unfold onward
    rw [if_neg hz]
    simp only [e]
    rw [if_neg (by decide), if_neg (by decide), if_neg (by decide), if_neg (by decide), if_neg (by decide), if_neg (by decide), ek]
    refine ⟨by simp, fun y hy => ?_⟩
    rw [List.mem_singleton] at hy
    subst hy
    exact ⟨by simp only; omega, .inr ⟨by simp, rfl, hnT⟩, t0⟩
  · obtain ⟨q0, q1⟩ := tk_in hf (fun e => Decidable.byContradiction (fun hh => h10 ⟨e, hh⟩))
    have eH : wrap64 (wrap64 (h - tk i.f0 i.f1 i.f2) + pt i.f0) = h - tk i.f0 i.f1 i.f2 + pt i.f0 := by
      have : wrap64 (h - tk i.f0 i.f1 i.f2) = h - tk i.f0 i.f1 i.f2 := wrap_in _ (by omega)
      rw [this]
      exact wrap_in _ (by omega)
    have eh : wrap64 (h + 1) = h + 1 := wrap_in _ (by omega)
    have hl := hf.lead
    unfold onward
    rw [if_neg hz, eH, ek, et, eh]
    generalize tk i.f0 i.f1 i.f2 = x at *
    generalize pt i.f0 = p at *
    by_cases h12 : i.f0 = 12 ∨ i.f0 = 13
    · rw [if_pos h12]
      exact ⟨by simp, fun y hy => by simp at hy⟩
    rw [if_neg h12]
    by_cases h6 : i.f0 = 6
    · rw [if_pos h6]
      refine ⟨by simp, fun y hy => ?_⟩
      rw [List.mem_singleton] at hy
      subst hy
      exact ⟨(hl (.inl h6)).1, .inl (by simp only; omega), t0⟩
    rw [if_neg h6]
    by_cases h7 : i.f0 = 7
    · rw [if_pos h7]
      refine ⟨by simp, fun y hy => ?_⟩
      simp only [List.mem_cons, List.not_mem_nil, or_false] at hy
      rcases hy with rfl | rfl
      · exact ⟨by simp only; omega, .inl (by simp only; omega), t0⟩
      · exact ⟨(hl (.inr (.inl h7))).1, .inl (by simp only; omega), t0⟩
    rw [if_neg h7]
    by_cases h8 : i.f0 = 8 ∨ i.f0 = 9
    · rw [if_pos h8]
      refine ⟨by simp, fun y hy => ?_⟩
      simp only [List.mem_cons, List.not_mem_nil, or_false] at hy
      rcases hy with rfl | rfl
      · exact ⟨by simp only; omega, .inl (by simp only; omega), t0⟩
      · exact ⟨(hl (by rcases h8 with e | e; exact .inr (.inr (.inl e)); exact .inr (.inr (.inr (.inl e))))).1, .inl (by simp only; omega), t0⟩
    rw [if_neg h8]
    by_cases h14 : i.f0 = 14
    · rw [if_pos h14]
      refine ⟨by simp, fun y hy => ?_⟩
      simp only [List.mem_cons, List.not_mem_nil, or_false] at hy
      rcases hy with rfl | rfl
      · exact ⟨by simp only; omega, .inl (by simp only; omega), by simp only; omega⟩
      · exact ⟨(hl (.inr (.inr (.inr (.inr h14))))).1, .inl (by simp only; omega), t0⟩
    rw [if_neg h14]
    by_cases h15 : i.f0 = 15
    · rw [if_pos h15]
      have ht : t ≠ 0 := fun e => hz (.inr ⟨h15, e⟩)
      have e2 : wrap64 (t - 1) = t - 1 := wrap_in _ (by omega)
      rw [e2]
      refine ⟨by simp, fun y hy => ?_⟩
      rw [List.mem_singleton] at hy
      subst hy
      exact ⟨by simp only; omega, .inl (by simp only; omega), by simp only; omega⟩
    rw [if_neg h15]
    refine ⟨by simp, fun y hy => ?_⟩
    rw [List.mem_singleton] at hy
    subst hy
    exact ⟨by simp only; omega, .inl (by simp only; omega), t0⟩
end FlP

namespace FlP
/-- The ways on as the reference has them. -/
def nxS (l : List S61) (n : Nat) (k : Nat) (s : Int × Int) : Option (List (Nat × (Int × Int))) :=
  if k < n then
    if wrap64 (s.1 - tk (rd_T61 l k).f0 (rd_T61 l k).f1 (rd_T61 l k).f2) < 0 then none
    else match spec_l05Over.ways (rd_T61 l k).f0 (rd_T61 l k).f1 k (wrap64 (s.1 - tk (rd_T61 l k).f0 (rd_T61 l k).f1 (rd_T61 l k).f2)) (pt (rd_T61 l k).f0) s.2 with
      | none => some []
      | some ws => if ws.all (fun p => spec_l05Flow_come.inr n p.1 p.2.1 p.2.2) = true then some (ws.map fun p => (p.1.toNat, (p.2.1, p.2.2))) else none
  else none
/-- A label that may be. -/
def Lab (s : Int × Int) : Prop := 0 ≤ s.1 ∧ s.1 ≤ 200 ∧ 0 ≤ s.2 ∧ s.2 ≤ 20
theorem inr_iff (n : Nat) (k h t : Int) : spec_l05Flow_come.inr n k h t = true ↔ (0 ≤ k ∧ k ≤ (n : Int) - 1) ∧ 0 ≤ h ∧ h ≤ 200 ∧ 0 ≤ t ∧ t ≤ 20 := by
  unfold spec_l05Flow_come.inr
  simp [and_assoc]
theorem inb_iff (n : Nat) (y : S80) : impl_Func_flow.inb n y = true ↔ y.f0 < n ∧ y.f1.f0 ≤ 200 ∧ y.f1.f1 ≤ 20 := by
  unfold impl_Func_flow.inb
  simp [and_assoc]
theorem nxS_lab {l : List S61} {n k : Nat} {s : Int × Int} {ws : List (Nat × (Int × Int))} (h : nxS l n k s = some ws) : ∀ p ∈ ws, p.1 < n ∧ Lab p.2 := by
  unfold nxS at h
  split at h
  · split at h
    · cases h
    · split at h
      · rw [← Option.some.inj h]
        intro p hp
        simp at hp
      · split at h
        · rename_i vs _ hall
          rw [← Option.some.inj h]
          intro p hp
          obtain ⟨q, hq, rfl⟩ := List.mem_map.1 hp
          have h2 := (inr_iff n q.1 q.2.1 q.2.2).1 (List.all_eq_true.1 hall q hq)
          exact ⟨by simp only; omega, h2.2.1, h2.2.2.1, h2.2.2.2.1, h2.2.2.2.2⟩
        · cases h
  · cases h
theorem all2 {α : Type} (p : α → Bool) (x y : α) : [x, y].all p = (p x && p y) := by simp
theorem nx_no {n : Nat} {on : Nat → Int × Int → List S80 × Bool} {k : Nat} {s : Int × Int} {gs : List S80} (h : on k s = (gs, false)) : impl_Func_flow.nx n on k s = none := by
  unfold impl_Func_flow.nx
  rw [h, if_neg (fun e => Bool.noConfusion e.2.1)]
theorem nx_yes {n : Nat} {on : Nat → Int × Int → List S80 × Bool} {k : Nat} {s : Int × Int} {gs : List S80} (h : on k s = (gs, true)) (hk : k < n) : impl_Func_flow.nx n on k s = if gs.all (impl_Func_flow.inb n) = true then some (gs.map impl_Func_flow.fw) else none := by
  unfold impl_Func_flow.nx
  rw [h]
  by_cases e : gs.all (impl_Func_flow.inb n) = true
  · rw [if_pos e, if_pos ⟨hk, rfl, e⟩]
  · rw [if_neg e, if_neg (fun e2 => e e2.2.2)]
theorem ite_iff {α : Type} {p q : Prop} [Decidable p] [Decidable q] {a b c : α} (h : p ↔ q) (e : p → a = b) : (if p then a else c) = if q then b else c := by
  by_cases hp : p
  · rw [if_pos hp, if_pos (h.1 hp), e hp]
  · rw [if_neg hp, if_neg (fun hq => hp (h.2 hq))]
theorem nx_same {ps : List S57} {l : List S61} {n : Nat} (on : Nat → Int × Int → List S80 × Bool) (k : Nat) (s : Int × Int) (hs : Lab s) (hn : n ≤ 400) (hf : Facts ps n (rd_T61 l k)) (hM : (rd_T61 l k).f0 = 10 → 0 ≤ (rd_T61 l k).f2 ∧ (rd_T61 l k).f2 ≤ 4) (hon : on k s = onward (rd_T61 l k).f0 (rd_T61 l k).f1 (rd_T61 l k).f2 k s.1 s.2) (hk : k < n) :
    impl_Func_flow.nx n on k s = nxS l n k s := by
  obtain ⟨h, t⟩ := s
  obtain ⟨q0, q1⟩ := tk_in hf hM
  obtain ⟨p0, p1⟩ := pt_in (rd_T61 l k).f0
  obtain ⟨h0, h1, t0, t1⟩ := hs
  simp only at h0 h1 t0 t1
  have hl := hf.lead
  have hp15 : (rd_T61 l k).f0 = 15 → pt (rd_T61 l k).f0 = 0 ∧ tk (rd_T61 l k).f0 (rd_T61 l k).f1 (rd_T61 l k).f2 = 0 := fun e => by rw [e]; exact ⟨rfl, rfl⟩
  have hp67 : ((rd_T61 l k).f0 = 6 ∨ (rd_T61 l k).f0 = 14) → pt (rd_T61 l k).f0 = 0 ∧ tk (rd_T61 l k).f0 (rd_T61 l k).f1 (rd_T61 l k).f2 = 0 := fun e => by rcases e with e | e <;> rw [e] <;> exact ⟨rfl, rfl⟩
  have hp789 : ((rd_T61 l k).f0 = 7 ∨ (rd_T61 l k).f0 = 8 ∨ (rd_T61 l k).f0 = 9) → pt (rd_T61 l k).f0 = 0 ∧ tk (rd_T61 l k).f0 (rd_T61 l k).f1 (rd_T61 l k).f2 = 1 := fun e => by rcases e with e | e | e <;> rw [e] <;> exact ⟨rfl, rfl⟩
  unfold onward at hon
  unfold nxS spec_l05Over.ways
  rw [if_pos hk]
  simp only at hon ⊢
  generalize tk (rd_T61 l k).f0 (rd_T61 l k).f1 (rd_T61 l k).f2 = x at *
  generalize pt (rd_T61 l k).f0 = p at *
  generalize (rd_T61 l k).f1 = N at *
  generalize (rd_T61 l k).f0 = op at *
  have e1 : wrap64 (h - x) = h - x := wrap_in _ (by omega)
  have e2 : wrap64 (h - x + p) = h - x + p := wrap_in _ (by omega)
  have e3 : wrap64 ((k : Int) + 1) = (k : Int) + 1 := wrap_in _ (by omega)
  have e4 : wrap64 (t + 1) = t + 1 := wrap_in _ (by omega)
  have e5 : wrap64 (h + 1) = h + 1 := wrap_in _ (by omega)
  have e6 : wrap64 (t - 1) = t - 1 := wrap_in _ (by omega)
  have e7 : wrap64 (h - x + 1) = h - x + 1 := wrap_in _ (by omega)
  simp only [e1, e2, e3, e4, e5, e6, e7] at hon ⊢
  clear e1 e2 e3 e4 e5 e6 e7
  by_cases hx : x > h
  · rw [if_pos (.inl hx)] at hon
    rw [nx_no hon, if_pos (show h - x < 0 by omega)]
  rw [if_neg (show ¬ h - x < 0 by omega)]
  by_cases h15 : op = 15
  · obtain ⟨rfl, rfl⟩ := hp15 h15
    rw [if_neg (show ¬ (op = 12 ∨ op = 13) by omega), if_neg (show ¬ op = 6 by omega), if_neg (show ¬ op = 7 by omega), if_neg (show ¬ (op = 8 ∨ op = 9) by omega), if_neg (show ¬ op = 14 by omega), if_pos h15]
    simp only [List.all_cons, List.all_nil, Bool.and_true, List.map_cons, List.map_nil]
    by_cases ht : t = 0
    · rw [if_pos (.inr ⟨h15, ht⟩)] at hon
      rw [nx_no hon, if_neg (by rw [inr_iff]; omega)]
    · rw [if_neg (by omega), if_neg (show ¬ (op = 12 ∨ op = 13) by omega), if_neg (show ¬ op = 6 by omega), if_neg (show ¬ op = 7 by omega), if_neg (show ¬ (op = 8 ∨ op = 9) by omega), if_neg (show ¬ op = 14 by omega), if_pos h15] at hon
      rw [nx_yes hon hk]
      simp only [List.all_cons, List.all_nil, Bool.and_true, List.map_cons, List.map_nil, impl_Func_flow.fw]
      refine ite_iff ?_ (fun _ => ?_)
      · rw [inb_iff, inr_iff]
        simp only
        omega
      · simp
  rw [if_neg (show ¬ (x > h ∨ (op = 15 ∧ t = 0)) by omega)] at hon
  by_cases h12 : op = 12 ∨ op = 13
  · rw [if_pos h12] at hon
    rw [if_pos h12, nx_yes hon hk]
    simp
  rw [if_neg h12] at hon
  rw [if_neg h12]
  simp only
  by_cases h6 : op = 6
  · obtain ⟨rfl, rfl⟩ := hp67 (.inl h6)
    rw [if_pos h6] at hon
    rw [if_pos h6, nx_yes hon hk]
    simp only [List.all_cons, List.all_nil, Bool.and_true, List.map_cons, List.map_nil, impl_Func_flow.fw]
    refine ite_iff ?_ (fun _ => ?_)
    · rw [inb_iff, inr_iff]
      have hN := hl (.inl h6)
      simp only
      omega
    · simp
  rw [if_neg h6] at hon
  rw [if_neg h6]
  by_cases h7 : op = 7
  · obtain ⟨rfl, rfl⟩ := hp789 (.inl h7)
    have hN := hl (.inr (.inl h7))
    rw [if_pos h7] at hon
    rw [if_pos h7, nx_yes hon hk]
    simp only [List.all_cons, List.all_nil, Bool.and_true, List.map_cons, List.map_nil, impl_Func_flow.fw, Bool.and_eq_true]
    refine ite_iff ?_ (fun _ => ?_)
    · rw [inb_iff, inr_iff, inb_iff, inr_iff]
      simp only
      omega
    · simp
  rw [if_neg h7] at hon
  rw [if_neg h7]
  by_cases h8 : op = 8 ∨ op = 9
  · obtain ⟨rfl, rfl⟩ := hp789 (.inr h8)
    have hN := hl (by rcases h8 with e | e; exact .inr (.inr (.inl e)); exact .inr (.inr (.inr (.inl e))))
    rw [if_pos h8] at hon
    rw [if_pos h8, nx_yes hon hk]
    simp only [List.all_cons, List.all_nil, Bool.and_true, List.map_cons, List.map_nil, impl_Func_flow.fw, Bool.and_eq_true]
    refine ite_iff ?_ (fun _ => ?_)
    · rw [inb_iff, inr_iff, inb_iff, inr_iff]
      simp only
      omega
    · simp
  rw [if_neg h8] at hon
  rw [if_neg h8]
  by_cases h14 : op = 14
  · obtain ⟨rfl, rfl⟩ := hp67 (.inr h14)
    have hN := hl (.inr (.inr (.inr (.inr h14))))
    rw [if_pos h14] at hon
    rw [if_pos h14, nx_yes hon hk]
    simp only [List.all_cons, List.all_nil, Bool.and_true, List.map_cons, List.map_nil, impl_Func_flow.fw, Bool.and_eq_true]
    refine ite_iff ?_ (fun _ => ?_)
    · rw [inb_iff, inr_iff, inb_iff, inr_iff]
      simp only
      omega
    · simp
  rw [if_neg h14, if_neg h15] at hon
  rw [if_neg h14, if_neg h15]
  rw [nx_yes hon hk]
  simp only [List.all_cons, List.all_nil, Bool.and_true, List.map_cons, List.map_nil, impl_Func_flow.fw]
  refine ite_iff ?_ (fun _ => ?_)
  · rw [inb_iff, inr_iff]
    simp only
    omega
  · simp
end FlP

namespace FlP
/-- The labels that are set. -/
def lab (n : Nat) (st : spec_l05Over.T) (k : Nat) : Option (Int × Int) := if k < n ∧ 0 ≤ rd st.1 k then some (rd st.1 k, rd st.2.1 k) else none
def unl (l : List Int) : Nat := l.countP fun x => decide (x < 0)
theorem rd_set (l : List Int) (j : Nat) (k : Nat) (v : Int) (hj : j < l.length) : rd (l.set j v) (k : Int) = if k = j then v else rd l k := by
  unfold rd
  rw [Int.toNat_natCast, List.getD_eq_getElem?_getD, List.getD_eq_getElem?_getD, List.getElem?_set]
  by_cases e : j = k
  · rw [if_pos e, if_pos hj, if_pos e.symm]; rfl
  · rw [if_neg e, if_neg (fun h => e h.symm)]
theorem rd_int (l : List Int) (k : Int) (h : 0 ≤ k) : rd l k = rd l (k.toNat : Int) := by
  rw [Int.toNat_of_nonneg h]
theorem unl_set (l : List Int) (j : Nat) (v : Int) (hj : j < l.length) (hv : 0 ≤ v) (h : rd l (j : Int) < 0) : unl (l.set j v) + 1 = unl l := by
  have hr : rd l (j : Int) = l[j] := by
    unfold rd
    rw [Int.toNat_natCast, List.getD_eq_getElem?_getD, List.getElem?_eq_getElem hj]
    rfl
  rw [hr] at h
  have hp : 0 < unl l := List.countP_pos_iff.2 ⟨l[j], List.getElem_mem hj, decide_eq_true h⟩
  unfold unl at hp ⊢
  rw [List.countP_set (h := hj), if_pos (show decide (l[j] < 0) = true from decide_eq_true h), if_neg (show ¬ decide (v < 0) = true from fun e => by have := of_decide_eq_true e; omega)]
  omega
theorem lab_max (n : Nat) (st : spec_l05Over.T) (b : Bool) (m : Int) : lab n (st.1, st.2.1, b, m) = lab n st := rfl
/-- What stays from state to state. -/
structure Step (n : Nat) (st st' : spec_l05Over.T) (todo todo' : List Int) : Prop where
  lh : st'.1.length = n
  lt : st'.2.1.length = n
  sum : unl st'.1 + todo'.length = unl st.1 + todo.length
  inn : (∀ k ∈ todo, 0 ≤ k ∧ k < (n : Int)) → ∀ k ∈ todo', 0 ≤ k ∧ k < (n : Int)
theorem come_step {n : Nat} {st : spec_l05Over.T} (lh : st.1.length = n) (lt : st.2.1.length = n) (todo : List Int) (k h t : Int) :
    Step n st (spec_l05Flow_come.come n st k h t).1 todo (if (spec_l05Flow_come.come n st k h t).2 = true then todo ++ [k] else todo) := by
  unfold spec_l05Flow_come.come
  by_cases h1 : spec_l05Flow_come.inr n k h t = true
  · rw [if_pos h1]
    obtain ⟨⟨a1, a2⟩, a3, a4, a5, a6⟩ := (inr_iff n k h t).1 h1
    have hk : k.toNat < n := by omega
    by_cases h2 : rd st.1 k < 0
    · rw [if_pos h2]
      simp only [if_true]
      rw [rd_int _ _ a1] at h2
      refine ⟨by simp [lh], by simp [lt], ?_, fun hi j hj => ?_⟩
      · have := unl_set st.1 k.toNat h (by omega) a3 h2
        simp only [List.length_append, List.length_cons, List.length_nil]
        omega
      · rcases List.mem_append.1 hj with hj | hj
        · exact hi j hj
        · rw [List.mem_singleton.1 hj]; omega
    · rw [if_neg h2]
      by_cases h3 : rd st.1 k = h ∧ rd st.2.1 k = t
      · rw [if_pos h3]
        exact ⟨lh, lt, rfl, fun h => h⟩
      · rw [if_neg h3]
        exact ⟨lh, lt, rfl, fun h => h⟩
  · rw [if_neg h1]
    exact ⟨lh, lt, rfl, fun h => h⟩
theorem comes_step {n : Nat} : ∀ (ws : List (Int × Int × Int)) (st : spec_l05Over.T) (todo : List Int), st.1.length = n → st.2.1.length = n → Step n st (spec_l05Over.comes n ws (st, todo)).1 todo (spec_l05Over.comes n ws (st, todo)).2
  | [], st, todo, lh, lt => ⟨lh, lt, rfl, fun h => h⟩
  | p :: ws, st, todo, lh, lt => by
    have h1 := come_step lh lt todo p.1 p.2.1 p.2.2
    have h2 := comes_step ws _ (if (spec_l05Flow_come.come n st p.1 p.2.1 p.2.2).2 = true then todo ++ [p.1] else todo) h1.lh h1.lt
    exact ⟨h2.lh, h2.lt, h2.sum.trans h1.sum, fun h => h2.inn (h1.inn h)⟩
/-- One that is not all right stays so. -/
theorem come_bad {n : Nat} {st : spec_l05Over.T} (h0 : st.2.2.1 = false) (k h t : Int) : (spec_l05Flow_come.come n st k h t).1.2.2.1 = false := by
  unfold spec_l05Flow_come.come
  split
  · split
    · exact h0
    · split
      · exact h0
      · rfl
  · rfl
theorem comes_bad {n : Nat} : ∀ (ws : List (Int × Int × Int)) (st : spec_l05Over.T) (todo : List Int), st.2.2.1 = false → (spec_l05Over.comes n ws (st, todo)).1.2.2.1 = false
  | [], _, _, h => h
  | _ :: ws, _, _, h => comes_bad ws _ _ (come_bad h _ _ _)
/-- A way comes: the labels. -/
theorem come_lab {n : Nat} {st : spec_l05Over.T} (lh : st.1.length = n) (lt : st.2.1.length = n) (k h t : Int) (h1 : spec_l05Flow_come.inr n k h t = true) :
    ((spec_l05Flow_come.come n st k h t).1.2.2.1 = false ∧ Fl.come (lab n st) k.toNat (h, t) = none) ∨
    ((spec_l05Flow_come.come n st k h t).1.2.2.1 = st.2.2.1 ∧ Fl.come (lab n st) k.toNat (h, t) = some (lab n (spec_l05Flow_come.come n st k h t).1, if (spec_l05Flow_come.come n st k h t).2 = true then [k.toNat] else [])) := by
  unfold spec_l05Flow_come.come
  rw [if_pos h1]
  obtain ⟨⟨a1, a2⟩, a3, a4, a5, a6⟩ := (inr_iff n k h t).1 h1
  have hk : k.toNat < n := by omega
  rw [rd_int st.1 k a1, rd_int st.2.1 k a1]
  by_cases h2 : rd st.1 (k.toNat : Int) < 0
  · rw [if_pos h2]
    right
    refine ⟨rfl, ?_⟩
    have e : lab n st k.toNat = none := by unfold lab; rw [if_neg (by omega)]
    unfold Fl.come
    rw [e]
    simp only [if_true]
    congr 2
    funext j
    unfold lab
    simp only
    by_cases e2 : j = k.toNat
    · subst e2
      rw [if_pos rfl, rd_set _ _ _ _ (by omega), rd_set _ _ _ _ (by omega), if_pos rfl, if_pos rfl, if_pos ⟨hk, a3⟩]
    · rw [if_neg e2, rd_set _ _ _ _ (by omega), rd_set _ _ _ _ (by omega), if_neg e2, if_neg e2]
  · rw [if_neg h2]
    have e : lab n st k.toNat = some (rd st.1 (k.toNat : Int), rd st.2.1 (k.toNat : Int)) := by unfold lab; rw [if_pos ⟨hk, by omega⟩]
    by_cases h3 : rd st.1 (k.toNat : Int) = h ∧ rd st.2.1 (k.toNat : Int) = t
    · rw [if_pos h3]
      right
      refine ⟨rfl, ?_⟩
      unfold Fl.come
      rw [e]
      simp only [h3.1, h3.2, if_true]
      rfl
    · rw [if_neg h3]
      left
      refine ⟨rfl, ?_⟩
      unfold Fl.come
      rw [e]
      simp only
      rw [if_neg (fun e2 => h3 ⟨congrArg Prod.fst e2, congrArg Prod.snd e2⟩)]
def fw3 (p : Int × Int × Int) : Nat × (Int × Int) := (p.1.toNat, (p.2.1, p.2.2))
theorem comes_lab {n : Nat} : ∀ (ws : List (Int × Int × Int)) (st : spec_l05Over.T) (todo : List Int), st.1.length = n → st.2.1.length = n → st.2.2.1 = true →
    ((spec_l05Over.comes n ws (st, todo)).1.2.2.1 = false ∧ (ws.all (fun p => spec_l05Flow_come.inr n p.1 p.2.1 p.2.2) = true → Fl.comes (ws.map fw3) (lab n st) = none)) ∨
    ((spec_l05Over.comes n ws (st, todo)).1.2.2.1 = true ∧ ws.all (fun p => spec_l05Flow_come.inr n p.1 p.2.1 p.2.2) = true ∧ ∃ new : List Int, (spec_l05Over.comes n ws (st, todo)).2 = todo ++ new ∧ Fl.comes (ws.map fw3) (lab n st) = some (lab n (spec_l05Over.comes n ws (st, todo)).1, new.map Int.toNat))
  | [], st, todo, lh, lt, ok => .inr ⟨ok, rfl, [], (List.append_nil _).symm, rfl⟩
  | p :: ws, st, todo, lh, lt, ok => by
    obtain ⟨k, h, t⟩ := p
    rw [List.all_cons, List.map_cons, spec_l05Over.comes, Fl.comes]
    simp only [fw3]
    have hs := come_step lh lt todo k h t
    by_cases h1 : spec_l05Flow_come.inr n k h t = true
    · rcases come_lab lh lt k h t h1 with ⟨b1, b2⟩ | ⟨b1, b2⟩
      · left
        exact ⟨comes_bad _ _ _ b1, fun _ => by rw [b2]; rfl⟩
      · rw [ok] at b1
        rcases comes_lab ws (spec_l05Flow_come.come n st k h t).1 (if (spec_l05Flow_come.come n st k h t).2 = true then todo ++ [k] else todo) hs.lh hs.lt b1 with ⟨c1, c2⟩ | ⟨c1, c2, new, c3, c4⟩
        · left
          refine ⟨c1, fun ha => ?_⟩
          rw [b2, Option.bind_some, c2 (by simp only [Bool.and_eq_true] at ha; exact ha.2)]
          rfl
        · right
          refine ⟨c1, by rw [h1, c2]; rfl, (if (spec_l05Flow_come.come n st k h t).2 = true then [k] else []) ++ new, ?_, ?_⟩
          · rw [c3]
            by_cases e : (spec_l05Flow_come.come n st k h t).2 = true
            · rw [if_pos e, if_pos e, List.append_assoc]
            · rw [if_neg e, if_neg e, List.nil_append]
          · rw [b2, Option.bind_some, c4, Option.bind_some]
            congr 2
            rw [List.map_append]
            by_cases e : (spec_l05Flow_come.come n st k h t).2 = true
            · simp only [e, if_true]; rfl
            · simp only [e]; rfl
    · left
      have b1 : (spec_l05Flow_come.come n st k h t).1.2.2.1 = false := by
        unfold spec_l05Flow_come.come
        rw [if_neg h1]
      exact ⟨comes_bad _ _ _ b1, fun ha => by simp only [Bool.and_eq_true] at ha; exact absurd ha.1 h1⟩
theorem ov_is (l : List S61) (n : Nat) (hn : n ≤ 400) : ∀ (K : Nat) (todo : List Int) (st : spec_l05Over.T), st.1.length = n → st.2.1.length = n → unl st.1 + todo.length < K → K ≤ 100000 → (∀ k ∈ todo, 0 ≤ k ∧ k < (n : Int)) →
    ∃ res, spec_l05Over.OV l n K todo st = some res ∧ (st.2.2.1 = false → res.2.2.1 = false) ∧
      (st.2.2.1 = true → Fl.Inv (nxS l n) (0, 0) (lab n st) (todo.map Int.toNat) → (res.2.2.1 = true ↔ Fl.Okay (nxS l n) (0, 0)) ∧ (res.2.2.1 = true → ∀ k s, lab n res k = some s ↔ Fl.R (nxS l n) (0, 0) k s))
  | 0, _, _, _, _, h, _, _ => absurd h (Nat.not_lt_zero _)
  | K + 1, [], st, _, _, _, _, _ => ⟨st, rfl, fun h => h, fun h hI => ⟨⟨fun _ => hI.ends.1, fun _ => h⟩, fun _ => hI.ends.2⟩⟩
  | K + 1, k :: rest, st, lh, lt, hm, hK, hin => by
    rw [spec_l05Over.OV]
    by_cases ok : st.2.2.1 = true
    · rw [if_pos ok]
      have hk := hin k List.mem_cons_self
      have hr : ∀ j ∈ rest, 0 ≤ j ∧ j < (n : Int) := fun j hj => hin j (List.mem_cons_of_mem _ hj)
      have hlen : rest.length + 1 + unl st.1 < K + 1 := by rw [List.length_cons] at hm; omega
      rw [if_pos ⟨hk.1, hk.2, by omega⟩, grow_is, Option.bind_some]
      have hkn : k.toNat < n := by omega
      have hkk : ((k.toNat : Nat) : Int) = k := Int.toNat_of_nonneg hk.1
      have hnx : ∀ s, nxS l n k.toNat s = if wrap64 (s.1 - tk (rd_T61 l k).f0 (rd_T61 l k).f1 (rd_T61 l k).f2) < 0 then none
    else match spec_l05Over.ways (rd_T61 l k).f0 (rd_T61 l k).f1 k (wrap64 (s.1 - tk (rd_T61 l k).f0 (rd_T61 l k).f1 (rd_T61 l k).f2)) (pt (rd_T61 l k).f0) s.2 with
      | none => some []
      | some ws => if ws.all (fun p => spec_l05Flow_come.inr n p.1 p.2.1 p.2.2) = true then some (ws.map fw3) else none := fun s => by
        unfold nxS
        rw [if_pos hkn, hkk]
        rfl
      have hlab : Fl.Inv (nxS l n) (0, 0) (lab n st) ((k :: rest).map Int.toNat) → lab n st k.toNat = some (rd st.1 k, rd st.2.1 k) := fun hI => by
        obtain ⟨s, hs⟩ := hI.todo_in k.toNat (by simp)
        unfold lab at hs ⊢
        rw [hkk] at hs ⊢
        split at hs
        · next h => rw [if_pos h]
        · cases hs
      by_cases hx : wrap64 (rd st.1 k - tk (rd_T61 l k).f0 (rd_T61 l k).f1 (rd_T61 l k).f2) < 0
      · rw [if_pos hx]
        refine ⟨_, rfl, fun _ => rfl, fun _ hI => ⟨⟨fun h => Bool.noConfusion h, fun ho => absurd ho (hI.stops (hlab hI) (by rw [hnx, if_pos hx]))⟩, fun h => Bool.noConfusion h⟩⟩
      rw [if_neg hx]
      simp only
      cases hw : spec_l05Over.ways (rd_T61 l k).f0 (rd_T61 l k).f1 k (wrap64 (rd st.1 k - tk (rd_T61 l k).f0 (rd_T61 l k).f1 (rd_T61 l k).f2)) (pt (rd_T61 l k).f0) (rd st.2.1 k) with
      | none =>
        simp only
        obtain ⟨res, r1, _, r3⟩ := ov_is l n hn K rest (st.1, st.2.1, st.2.2.1, max st.2.2.2 (wrap64 (wrap64 (rd st.1 k - tk (rd_T61 l k).f0 (rd_T61 l k).f1 (rd_T61 l k).f2) + pt (rd_T61 l k).f0))) lh lt (by simp only; omega) (by omega) hr
        refine ⟨res, r1, fun h => (by rw [ok] at h; cases h), fun _ hI => r3 ok ?_⟩
        rw [lab_max]
        exact hI.round (rest := rest.map Int.toNat) (n := []) (fun x => by simp) (hlab hI) (ws := []) (by rw [hnx, if_neg hx]; simp only; rw [hw]) rfl _ (fun x => by simp)
      | some ws =>
        simp only
        generalize hst : ((st.1, st.2.1, st.2.2.1, max st.2.2.2 (wrap64 (wrap64 (rd st.1 k - tk (rd_T61 l k).f0 (rd_T61 l k).f1 (rd_T61 l k).f2) + pt (rd_T61 l k).f0))) : spec_l05Over.T) = st1
        have q1 : st1.1 = st.1 := by rw [← hst]
        have q2 : st1.2.1 = st.2.1 := by rw [← hst]
        have q3 : st1.2.2.1 = true := by rw [← hst]; exact ok
        have q4 : lab n st1 = lab n st := by rw [← hst]; rfl
        clear hst
        have hS := comes_step (n := n) ws st1 rest (by rw [q1, lh]) (by rw [q2, lt])
        obtain ⟨res, r1, r2, r3⟩ := ov_is l n hn K (spec_l05Over.comes n ws (st1, rest)).2 (spec_l05Over.comes n ws (st1, rest)).1 hS.lh hS.lt (by have := hS.sum; rw [q1] at this; omega) (by omega) (hS.inn hr)
        refine ⟨res, r1, fun h => (by rw [ok] at h; cases h), fun _ hI => ?_⟩
        have hN := hnx (rd st.1 k, rd st.2.1 k)
        rw [if_neg hx] at hN
        simp only at hN
        rw [hw] at hN
        simp only at hN
        rcases comes_lab ws st1 rest (by rw [q1, lh]) (by rw [q2, lt]) q3 with ⟨c1, c2⟩ | ⟨c1, c2, new, c3, c4⟩
        · have hb := r2 c1
          refine ⟨⟨fun h => (by rw [hb] at h; cases h), fun ho => ?_⟩, fun h => (by rw [hb] at h; cases h)⟩
          by_cases ha : ws.all (fun p => spec_l05Flow_come.inr n p.1 p.2.1 p.2.2) = true
          · rw [if_pos ha] at hN
            exact absurd ho (hI.clash (hlab hI) hN (by rw [← q4]; exact c2 ha))
          · rw [if_neg ha] at hN
            exact absurd ho (hI.stops (hlab hI) hN)
        · rw [if_pos c2] at hN
          refine r3 c1 ?_
          rw [q4] at c4
          refine hI.round (rest := rest.map Int.toNat) (n := new.map Int.toNat) (fun x => by simp) (hlab hI) hN c4 _ (fun x => ?_)
          rw [c3, List.map_append, List.mem_append]
    · rw [if_neg ok]
      exact ⟨st, rfl, fun h => h, fun h => absurd h ok⟩
end FlP

namespace FlP
/-- Two ways on that agree on labels that may be. -/
theorem R_same {nx1 nx2 : Nat → Int × Int → Option (List (Nat × (Int × Int)))} {n : Nat} (h0 : 0 < n) (h : ∀ k s, k < n → Lab s → nx1 k s = nx2 k s) (hl : ∀ k s ws, nx2 k s = some ws → ∀ p ∈ ws, p.1 < n ∧ Lab p.2) :
    (∀ k s, Fl.R nx2 (0, 0) k s → k < n ∧ Lab s) ∧ (∀ k s, Fl.R nx1 (0, 0) k s ↔ Fl.R nx2 (0, 0) k s) := by
  have a : ∀ k s, Fl.R nx2 (0, 0) k s → k < n ∧ Lab s := fun k s hr => by
    induction hr with
    | start => exact ⟨h0, by unfold Lab; omega⟩
    | step _ hw hm _ => exact hl _ _ _ hw _ hm
  refine ⟨a, fun k s => ⟨fun hr => ?_, fun hr => ?_⟩⟩
  · induction hr with
    | start => exact Fl.R.start
    | step _ hw hm ih => exact Fl.R.step ih ((h _ _ (a _ _ ih).1 (a _ _ ih).2).symm.trans hw) hm
  · induction hr with
    | start => exact Fl.R.start
    | step hr hw hm ih => exact Fl.R.step ih ((h _ _ (a _ _ hr).1 (a _ _ hr).2).trans hw) hm
theorem Okay_same {nx1 nx2 : Nat → Int × Int → Option (List (Nat × (Int × Int)))} {n : Nat} (h0 : 0 < n) (h : ∀ k s, k < n → Lab s → nx1 k s = nx2 k s) (hl : ∀ k s ws, nx2 k s = some ws → ∀ p ∈ ws, p.1 < n ∧ Lab p.2) :
    Fl.Okay nx1 (0, 0) ↔ Fl.Okay nx2 (0, 0) := by
  obtain ⟨a, b⟩ := R_same h0 h hl
  refine ⟨fun ho => ⟨fun k s hr => ?_, fun k s s' h1 h2 => ho.2 k s s' ((b _ _).2 h1) ((b _ _).2 h2)⟩, fun ho => ⟨fun k s hr => ?_, fun k s s' h1 h2 => ho.2 k s s' ((b _ _).1 h1) ((b _ _).1 h2)⟩⟩
  · obtain ⟨ws, hw⟩ := ho.1 k s ((b _ _).2 hr)
    exact ⟨ws, (h _ _ (a _ _ hr).1 (a _ _ hr).2).symm.trans hw⟩
  · have hr2 := (b _ _).1 hr
    obtain ⟨ws, hw⟩ := ho.1 k s hr2
    exact ⟨ws, (h _ _ (a _ _ hr2).1 (a _ _ hr2).2).trans hw⟩
/-- The state the rounds begin with. -/
theorem first_is (n : Nat) (h1 : 1 ≤ n) : ∃ m, (spec_l05Flow_come.come n (List.replicate n (-1), List.replicate n 0, true, 0) 0 0 0).1 = ((List.replicate n (-1 : Int)).set 0 0, (List.replicate n (0 : Int)).set 0 0, true, m) := by
  unfold spec_l05Flow_come.come
  have hr : rd (List.replicate n (-1 : Int)) 0 = -1 := by
    unfold rd
    rw [show (0 : Int).toNat = 0 from rfl, List.getD_eq_getElem?_getD, List.getElem?_replicate, if_pos (by omega)]
    rfl
  rw [if_pos (by rw [inr_iff]; omega), hr, if_pos (by decide)]
  exact ⟨_, rfl⟩
theorem over_is (l : List S61) (h1 : 1 ≤ l.length) (h2 : l.length ≤ 400) :
    ∃ res, (∃ K, spec_l05Over.OV l l.length K [0] (spec_l05Flow_come.come l.length (List.replicate l.length (-1), List.replicate l.length 0, true, 0) 0 0 0).1 = some res) ∧ (res.2.2.1 = true ↔ Fl.Okay (nxS l l.length) (0, 0)) ∧ (res.2.2.1 = true → ∀ k s, lab l.length res k = some s ↔ Fl.R (nxS l l.length) (0, 0) k s) := by
  obtain ⟨m, hm⟩ := first_is l.length h1
  rw [hm]
  have hu : unl ((List.replicate l.length (-1 : Int)).set 0 0) ≤ l.length := by
    unfold unl
    exact Nat.le_trans List.countP_le_length (by simp)
  obtain ⟨res, r1, _, r3⟩ := ov_is l l.length h2 (l.length + 2) [0] ((List.replicate l.length (-1 : Int)).set 0 0, (List.replicate l.length (0 : Int)).set 0 0, true, m) (by simp) (by simp) (by simp only [List.length_cons, List.length_nil]; omega) (by omega) (fun k hk => by rw [List.mem_singleton.1 hk]; omega)
  refine ⟨res, ⟨_, r1⟩, r3 rfl ?_⟩
  have e : lab l.length ((List.replicate l.length (-1 : Int)).set 0 0, (List.replicate l.length (0 : Int)).set 0 0, true, m) = fun k => if k = 0 then some ((0 : Int), (0 : Int)) else none := by
    funext k
    unfold lab
    simp only
    by_cases e : k = 0
    · subst e
      rw [rd_set _ _ _ _ (by simp; omega), rd_set _ _ _ _ (by simp; omega), if_pos rfl, if_pos rfl, if_pos ⟨by omega, Int.le_refl _⟩, if_pos rfl]
    · rw [rd_set _ _ _ _ (by simp; omega), if_neg e]
      by_cases hk : k < l.length
      · have hr : rd (List.replicate l.length (-1 : Int)) (k : Int) = -1 := by
          unfold rd
          rw [Int.toNat_natCast, List.getD_eq_getElem?_getD, List.getElem?_replicate, if_pos hk]
          rfl
        rw [hr, if_neg (by omega), if_neg e]
      · rw [if_neg (by omega), if_neg e]
  rw [e]
  exact Fl.Inv.init _ _
end FlP

theorem ident_both (t : ByteArray) : spec_ProgramOK.ident t = impl_Program_flows.ident t := by
  unfold spec_ProgramOK.ident impl_Program_flows.ident
  rw [ident_spec t 64 (by omega), ident_impl t 64 (by omega)]
theorem ins_both (ps : List S57) (fn : S57) (i : S61) : spec_l05Ins.f ps fn.f2 fn.f3.length i = some (spec_ProgramOK.okI ps fn i) ∧ impl_Program_insOK.f ps fn.f2 fn.f3.length i = some (impl_Program_flows.okI ps fn i) ∧ spec_ProgramOK.okI ps fn i = impl_Program_flows.okI ps fn i := by
  obtain ⟨b, h1, h2⟩ := PrP.ins_same (fun t => OpP.op_same 64 (by omega) t) ps fn.f2 fn.f3.length i
  unfold spec_ProgramOK.okI impl_Program_flows.okI
  rw [h1, h2]
  exact ⟨rfl, rfl, rfl⟩
theorem head_both (k : Nat) (fn : S57) : spec_ProgramOK.head k fn = impl_Program_flows.head k fn := by
  unfold spec_ProgramOK.head impl_Program_flows.head spec_ProgramOK.named impl_Program_flows.named
  rw [ident_both]
theorem body_both (ps : List S57) (fn : S57) : spec_ProgramOK.body ps fn = impl_Program_flows.body ps fn := by
  unfold spec_ProgramOK.body impl_Program_flows.body
  congr 1
  funext i
  exact (ins_both ps fn i).2.2
theorem on_is (fn : S57) (k : Nat) (s : Int × Int) : impl_Program_flows.on fn k s = FlP.onward (rd_T61 fn.f3 k).f0 (rd_T61 fn.f3 k).f1 (rd_T61 fn.f3 k).f2 k s.1 s.2 := by
  unfold impl_Program_flows.on
  rw [FlP.onward_is]
  rfl
theorem facts_at {ps : List S57} {fn : S57} (hb : impl_Program_flows.body ps fn = true) (k : Nat) (hk : k < fn.f3.length) : FlP.Facts ps fn.f3.length (rd_T61 fn.f3 k) := by
  have hm : rd_T61 fn.f3 k ∈ fn.f3 := by
    unfold rd_T61
    rw [Int.toNat_natCast, List.getD_eq_getElem?_getD, List.getElem?_eq_getElem hk]
    exact List.getElem_mem hk
  have h1 := List.all_eq_true.1 hb _ hm
  rw [← (ins_both ps fn _).2.2] at h1
  have h2 := (ins_both ps fn (rd_T61 fn.f3 k)).1
  rw [h1] at h2
  exact FlP.facts_of h2
theorem tame_at {ps : List S57} {fn : S57} (ht : impl_Program_flows.Tame ps) {i : S61} {n : Nat} (hf : FlP.Facts ps n i) : i.f0 = 10 → 0 ≤ i.f2 ∧ i.f2 ≤ 4 := fun e => by
  obtain ⟨h1, h2, h3⟩ := hf.call e
  rw [h3]
  refine ht _ ?_
  unfold rd_T57
  rw [List.getD_eq_getElem?_getD, List.getElem?_eq_getElem (by omega)]
  exact List.getElem_mem _
theorem all_spec (ps : List S57) : spec_ProgramOK.All ps := by
  refine ⟨fun fn _ => ?_, fun fn _ i => (ins_both ps fn i).1, fun fn _ h1 h2 => ?_⟩
  · unfold spec_ProgramOK.ident
    rw [ident_spec fn.f0 64 (by omega)]
    rfl
  · obtain ⟨res, h, _⟩ := FlP.over_is fn.f3 h1 h2
    exact ⟨res, h⟩
theorem all_impl (ps : List S57) (hp : ∀ fn ∈ ps, fn.f3.length ≤ 1048576) : impl_Program_flows.All ps := by
  refine ⟨fun fn _ => ?_, fun fn _ i => (ins_both ps fn i).2.1, fun fn hfn hb k s k0 k1 s0 s1 s2 => ?_⟩
  · unfold impl_Program_flows.ident
    rw [ident_impl fn.f0 64 (by omega)]
    rfl
  · have hl := hp fn hfn
    have hk : ((k.toNat : Nat) : Int) = k := Int.toNat_of_nonneg k0
    have hf := facts_at hb k.toNat (by omega)
    have ho := on_is fn k.toNat (s.f0, s.f1)
    rw [hk] at hf ho
    rw [ho, FlP.onward_is]
    exact ⟨rfl, FlP.onward_in hf (impl_Program_flows.Tame ps) (fun ht => tame_at (fn := fn) ht hf) k s.f0 s.f1 k0 k1 (by omega) s0 s1 s2⟩
theorem head_most {k : Nat} {fn : S57} (h : impl_Program_flows.head k fn = true) : (0 ≤ fn.f1 ∧ fn.f1 ≤ 4) ∧ 1 ≤ fn.f3.length ∧ fn.f3.length ≤ 400 := by
  unfold impl_Program_flows.head at h
  simp only [Bool.and_eq_true, decide_eq_true_eq] at h
  omega
theorem flows_both {ps : List S57} {k : Nat} {fn : S57} (ht : impl_Program_flows.Tame ps) (hh : impl_Program_flows.head k fn = true) (hb : impl_Program_flows.body ps fn = true) :
    impl_Program_flows.Flows fn ↔ ∀ res, spec_ProgramOK.Over fn res → res.2.2.1 = true := by
  obtain ⟨_, h1, h2⟩ := head_most hh
  obtain ⟨res, h3, h4, _⟩ := FlP.over_is fn.f3 h1 h2
  have h5 : impl_Program_flows.Flows fn ↔ Fl.Okay (FlP.nxS fn.f3 fn.f3.length) (0, 0) := by
    unfold impl_Program_flows.Flows
    refine FlP.Okay_same (n := fn.f3.length) (by omega) (fun j s hj hs => ?_) (fun j s ws hw => FlP.nxS_lab hw)
    have hf := facts_at hb j hj
    exact FlP.nx_same (impl_Program_flows.on fn) j s hs h2 hf (tame_at (fn := fn) ht hf) (on_is fn j s) hj
  rw [h5, ← h4]
  exact ⟨fun h r hr => by rw [spec_ProgramOK.Over.one hr h3]; exact h, fun h => h res h3⟩
theorem good_both (ps : List S57) : spec_ProgramOK.Good ps ↔ impl_Program_flows.Good ps := by
  have tame : (∀ k (h : k < ps.length), impl_Program_flows.head k ps[k] = true) → impl_Program_flows.Tame ps := fun h fn hfn => by
    obtain ⟨k, hk, rfl⟩ := List.getElem_of_mem hfn
    exact (head_most (h k hk)).1
  constructor
  · rintro ⟨h1, h2⟩
    have hh : ∀ k (h : k < ps.length), impl_Program_flows.head k ps[k] = true := fun k h => by rw [← head_both]; exact (h2 k h).1
    have hb : ∀ k (h : k < ps.length), impl_Program_flows.body ps ps[k] = true := fun k h => by rw [← body_both]; exact (h2 k h).2.1
    exact ⟨h1, fun k h => ⟨hh k h, hb k h, (flows_both (tame hh) (hh k h) (hb k h)).2 (h2 k h).2.2⟩⟩
  · rintro ⟨h1, h2⟩
    have hh : ∀ k (h : k < ps.length), impl_Program_flows.head k ps[k] = true := fun k h => (h2 k h).1
    exact ⟨h1, fun k h => ⟨by rw [head_both]; exact hh k h, by rw [body_both]; exact (h2 k h).2.1, (flows_both (tame hh) (hh k h) (h2 k h).2.1).1 (h2 k h).2.2⟩⟩
theorem prog_same (ps : List S57) (hp : ∀ fn ∈ ps, fn.f3.length ≤ 1048576) : ∃ b, spec_ProgramOK.f ps = some b ∧ impl_ProgramOK.f ps = some b := by
  unfold spec_ProgramOK.f impl_ProgramOK.f
  rw [if_pos (all_spec ps), if_pos (all_impl ps hp)]
  refine ⟨_, rfl, ?_⟩
  congr 1
  exact @decide_eq_decide _ _ (Classical.propDecidable _) (Classical.propDecidable _) |>.2 (good_both ps).symm

theorem size_both (l : List S57) (hl : l.length ≤ 1048576) : ∀ (d j : Nat) (acc : Int), j + d = l.length → ∃ s, Tos (fun k => spec_CodeSize.l0 k acc (j : Int) l) (s, 0) ∧ Tos (fun k => impl_CodeSize.l0 k acc l (l.length : Int) (j : Int)) (s, 0)
  | 0, j, acc, hj => by
    refine ⟨acc, Tos.step (G := fun _ => some (acc, 0)) (Tos.pure _) (fun r => ?_), Tos.step (G := fun _ => some (acc, 0)) (Tos.pure _) (fun r => ?_)⟩
    · rw [spec_CodeSize.l0, if_neg (by omega)]
    · rw [impl_CodeSize.l0, if_neg (by omega)]
  | d + 1, j, acc, hj => by
    have e2 : wrap64 ((j : Int) + 1) = ((j + 1 : Nat) : Int) := by unfold wrap64; omega
    obtain ⟨s, g1, g2⟩ := size_both l hl d (j + 1) (wrap64 (acc + ((rd_T57 l (j : Int)).f3.length : Int))) (by omega)
    refine ⟨s, Tos.step g1 (fun r => ?_), Tos.step g2 (fun r => ?_)⟩
    · rw [spec_CodeSize.l0, if_pos (by omega), if_pos (by omega), e2]
    · rw [impl_CodeSize.l0, if_pos (by omega), if_pos (by omega), if_pos (by omega), e2]
theorem same (l : List S57) (hl : l.length ≤ 1048576) (hp : ∀ fn ∈ l, fn.f3.length ≤ 1048576) : ∃ v : Int × Int, Tos (fun k => spec_CodeSize.f k l) v ∧ Tos (fun k => impl_CodeSize.f k l) v := by
  obtain ⟨b, h1, h2⟩ := prog_same l hp
  unfold spec_CodeSize.f impl_CodeSize.f
  rw [h1, h2]
  simp only [Option.bind_some]
  cases b with
  | false => exact ⟨(0, 1), Tos.ifNeg (by decide) (Tos.pure _), Tos.ifNeg (by decide) (Tos.pure _)⟩
  | true =>
    obtain ⟨s, g1, g2⟩ := size_both l hl l.length 0 0 (by omega)
    exact ⟨(s, 0), Tos.ifPos rfl g1, Tos.ifPos rfl g2⟩
theorem FnExactCodeSize : GoalFnExactCodeSize.Pure := by
  intro l hl
  refine Tos.at (F := fun k => laws_FnExactCodeSize.f k l) ?_
  unfold laws_FnExactCodeSize.f
  obtain ⟨z, hz, ht⟩ := sz_Program l hl 1048576 (by omega) (by omega)
  rcases hz with rfl | ⟨hz0, hz1, hs⟩
  · exact Tos.bind ht (Tos.ifPos (by decide) (Tos.pure _))
  refine Tos.bind ht (Tos.ifNeg (by omega) ?_)
  have h6 := to_Program l hs
  have h7 := eq_Program _ (el_Program l hs)
  have h8 : ∀ fn ∈ g_Program l, fn.f3.length ≤ 1048576 := fun y hy => by
    obtain ⟨x, hx, rfl⟩ := List.mem_map.mp hy
    have hx := hs.1.2 x hx
    show (g_InsS x.f3).length ≤ _
    unfold g_InsS
    rw [List.length_map]
    exact hx.2.1.1
  have h9 : (g_Program l).length ≤ 1048576 := by
    show (g_FuncS l).length ≤ _
    unfold g_FuncS
    rw [List.length_map]
    exact hs.1.1
  generalize g_Program l = m at *
  obtain ⟨v, e1, e2⟩ := same m h9 h8
  refine Tos.bind h6 (Tos.bind e1 (Tos.bind h6 (Tos.bind e2 (Tos.eq ?_))))
  refine Tos.step (G := fun k => (laws_toProgram.f k l).bind fun t280 => (laws_eqProgram.f k m t280).bind fun t283 => (if t283 = true then (some true) else (some false))) ?_ (fun k => ?_)
  · exact Tos.bind h6 (Tos.yes h7 (Tos.pure _))
  · simp only [laws_FnExactCodeSize.j0, bne_self_eq_false, Bool.false_eq_true, if_false]

end Go.Proofs.Ytlhbcgmmgofcgaa.Pure
