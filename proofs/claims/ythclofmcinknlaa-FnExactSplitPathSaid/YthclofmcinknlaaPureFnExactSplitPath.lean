/- The law FnExactSplitPath over plain data; no condition. -/
import Derived.Test.YthclofmcinknlaaQFnExactSplitPathx2
import Derived.Test.YthclofmcinknlaaPlain
namespace Go.Proofs.Ythclofmcinknlaa.Pure
open Go.RowKit Go.Proofs.Ythclofmcinknlaa.QFnExactSplitPath Go.Proofs.YthclofmcinknlaaW.PrintWords Go.Proofs.YthclofmcinknlaaW.PrintLast

set_option linter.unusedSimpArgs false
set_option linter.unusedVariables false

/-- Do d bytes from j on meet p. -/
def allFrom (p : Int → Bool) (s : ByteArray) : Nat → Nat → Bool
  | 0, _ => true
  | d + 1, j => p (bt s (j : Int)) && allFrom p s d (j + 1)

theorem run_le (p : Int → Bool) (s : ByteArray) (d : Nat) : ∀ j, My.runFrom p s d j ≤ j + d := by
  induction d with
  | zero => intro j; simp [My.runFrom]
  | succ d ih =>
    intro j
    have := ih (j + 1)
    unfold My.runFrom
    split <;> omega

theorem run_all (p : Int → Bool) (s : ByteArray) (d : Nat) : ∀ j, ((My.runFrom p s d j : Int) == ((j + d : Nat) : Int)) = allFrom p s d j := by
  induction d with
  | zero => intro j; simp [My.runFrom, allFrom]
  | succ d ih =>
    intro j
    unfold My.runFrom allFrom
    cases h : p (bt s (j : Int))
    · simp only [Bool.false_eq_true, if_false, Bool.false_and]
      exact beq_eq_false_iff_ne.2 (by omega)
    · simp only [if_true, Bool.true_and]
      rw [← ih (j + 1)]
      congr 1
      omega

theorem run_whole (p : Int → Bool) (s : ByteArray) : ((My.runFrom p s s.size 0 : Int) == (s.size : Int)) = allFrom p s s.size 0 := by
  have h := run_all p s s.size 0
  rw [Nat.zero_add] at h
  exact h

theorem bt_in (s : ByteArray) (i : Int) : wrap64 (bt s i) = bt s i := by
  have := bt_range s i
  unfold wrap64
  omega

theorem path_byte (c : Int) : ((spec_l00Letter.f c).bind fun t102 => (if t102 = true then some true else ((spec_l00Digit.f c).bind fun t103 => (if t103 = true then some true else (if c = 47 then some true else (if c = 46 then some true else (if c = 45 then some true else (some false)))))))) = some (impl_pathOK.p c) := by
  rw [← impl_pathOK.p_is]
  unfold impl_pathOK_1.f impl_identByte.f
  have e1 : spec_l00Letter.f c = impl_isLetter.f c := rfl
  have e2 : spec_l00Digit.f c = impl_isDigit.f c := rfl
  rw [e1, e2]
  have h1 : ∃ b, impl_isLetter.f c = some b := by
    unfold impl_isLetter.f
    repeat' split
    all_goals exact ⟨_, rfl⟩
  have h2 : ∃ b, impl_isDigit.f c = some b := by
    unfold impl_isDigit.f
    repeat' split
    all_goals exact ⟨_, rfl⟩
  obtain ⟨b1, h1⟩ := h1
  obtain ⟨b2, h2⟩ := h2
  rw [h1, h2]
  simp only [Option.bind_some]
  cases b1 <;> cases b2 <;> by_cases c1 : c = 47 <;> by_cases c2 : c = 46 <;> by_cases c3 : c = 45 <;> simp [c1, c2, c3]

theorem path_tells (s : ByteArray) (hs : s.size < 4611686018427387904) (d : Nat) : ∀ (k j : Nat), j + d = s.size → d < k → spec_l08Path.l0 k s (j : Int) = some (allFrom impl_pathOK.p s d j) := by
  induction d with
  | zero =>
    intro k j hj hk
    obtain ⟨k, rfl⟩ : ∃ m, k = m + 1 := ⟨k - 1, by omega⟩
    simp only [spec_l08Path.l0]
    rw [if_neg (by omega)]
    rfl
  | succ d ih =>
    intro k j hj hk
    obtain ⟨k, rfl⟩ : ∃ m, k = m + 1 := ⟨k - 1, by omega⟩
    simp only [spec_l08Path.l0]
    rw [if_pos (by omega), if_pos (by omega), Plain.next j (by omega), ih k (j + 1) (by omega) (by omega)]
    have h := path_byte (bt s (j : Int))
    have h1 : ∃ b, spec_l00Letter.f (bt s (j : Int)) = some b := by
      unfold spec_l00Letter.f
      repeat' split
      all_goals exact ⟨_, rfl⟩
    have h2 : ∃ b, spec_l00Digit.f (bt s (j : Int)) = some b := by
      unfold spec_l00Digit.f
      repeat' split
      all_goals exact ⟨_, rfl⟩
    obtain ⟨b1, h1⟩ := h1
    obtain ⟨b2, h2⟩ := h2
    rw [h1, h2] at h ⊢
    simp only [Option.bind_some, allFrom] at h ⊢
    generalize impl_pathOK.p (bt s (j : Int)) = q at h ⊢
    revert h
    repeat' split
    all_goals intro h
    all_goals simp at h
    all_goals subst h
    all_goals simp

/-- Is the text a path. -/
def isPath (s : ByteArray) : Bool := decide (1 ≤ s.size ∧ s.size ≤ 40) && ((bt s 0 == 47) && allFrom impl_pathOK.p s s.size 0)

theorem spec_path (s : ByteArray) (k : Nat) (hk : 50 < k) : spec_l08Path.f k s = some (isPath s) := by
  obtain ⟨k, rfl⟩ : ∃ m, k = m + 1 := ⟨k - 1, by omega⟩
  unfold spec_l08Path.f isPath
  by_cases h1 : (s.size : Int) < 1
  · rw [if_pos h1, decide_eq_false (by omega)]
    simp [spec_l08Path.j0]
  rw [if_neg h1]
  by_cases h2 : (s.size : Int) > 40
  · rw [if_pos h2, decide_eq_false (by omega)]
    simp [spec_l08Path.j0]
  rw [if_neg h2, if_pos (by omega), decide_eq_true (by omega)]
  have h := path_tells s (by omega) s.size k 0 (by omega) (by omega)
  simp only [spec_l08Path.j0]
  rw [show spec_l08Path.l0 k s 0 = some (allFrom impl_pathOK.p s s.size 0) from h]
  by_cases h3 : bt s 0 = 47 <;> simp [h3]

theorem impl_path (s : ByteArray) (hs : s.size ≤ 9223372036854775807) : impl_pathOK.f s = some (isPath s) := by
  unfold impl_pathOK.f isPath
  by_cases h1 : 1 ≤ s.size
  · rw [if_pos h1]
    by_cases h2 : s.size ≤ 40
    · rw [if_pos h2, decide_eq_true ⟨h1, h2⟩]
      by_cases h3 : bt s 0 = 47
      · rw [if_pos h3, run_whole, h3]
        simp
      · rw [if_neg h3, beq_eq_false_iff_ne.2 h3]
        simp
    · rw [if_neg h2, if_pos hs, decide_eq_false (by omega)]
      simp
  · rw [if_neg h1, decide_eq_false (by omega)]
    simp

/-- The place of the first slash from a place on, or -1. -/
def slash (s : ByteArray) : Nat → Nat → Int
  | 0, _ => -1
  | d + 1, j => if bt s (j : Int) = 47 then (j : Int) else slash s d (j + 1)

theorem slash_succ (s : ByteArray) (d j : Nat) : slash s (d + 1) j = if bt s (j : Int) = 47 then (j : Int) else slash s d (j + 1) := rfl

theorem slash_in (s : ByteArray) : ∀ d j, slash s d j = -1 ∨ ∃ t : Nat, slash s d j = t ∧ j ≤ t ∧ t < j + d ∧ bt s (t : Int) = 47
  | 0, j => Or.inl rfl
  | d + 1, j => by
    unfold slash
    by_cases h : bt s (j : Int) = 47
    · rw [if_pos h]
      exact Or.inr ⟨j, rfl, by omega, by omega, h⟩
    · rw [if_neg h]
      rcases slash_in s d (j + 1) with h1 | ⟨t, h1, h2, h3, h4⟩
      · exact Or.inl h1
      · exact Or.inr ⟨t, h1, by omega, by omega, h4⟩

theorem list_of (s : ByteArray) (i j : Nat) : (s.extract i j).toList = (s.data.toList.take j).drop i := by
  rw [ByteArray.toList_eq]
  simp [ByteArray.data_extract, List.extract_eq_take_drop, List.drop_take]

theorem byte_list (s : ByteArray) (j : Nat) (h : j < s.size) : (bt s (j : Int) = 47) ↔ (s.data.toList.drop j) = 47 :: s.data.toList.drop (j + 1) := by
  have hl : s.data.toList.length = s.size := rfl
  rw [My.bt_at s j h, List.drop_eq_getElem_cons (by omega : j < s.data.toList.length)]
  have e : s.data.toList[j]'(by omega) = s[j]'h := by simp; rfl
  rw [e]
  constructor
  · intro hh
    congr 1
    have h2 : (s[j]'h).toNat = 47 := by omega
    exact UInt8.toNat_inj.mp h2
  · intro hh
    injection hh with h1 _
    rw [h1]
    rfl

theorem find_tells (s : ByteArray) (hs : s.size < 4611686018427387904) (d : Nat) : ∀ (k j : Nat), j + d = s.size → d < k → spec_l08Find.l0 k s (⟨#[47]⟩ : ByteArray) (j : Int) = some (slash s d j) := by
  have s1 : (⟨#[47]⟩ : ByteArray).size = 1 := rfl
  have l1 : (⟨#[47]⟩ : ByteArray).toList = [47] := by rw [ByteArray.toList_eq]
  induction d with
  | zero =>
    intro k j hj hk
    obtain ⟨k, rfl⟩ : ∃ m, k = m + 1 := ⟨k - 1, by omega⟩
    simp only [spec_l08Find.l0, s1]
    rw [show wrap64 ((j : Int) + ((1 : Nat) : Int)) = ((j + 1 : Nat) : Int) from Plain.next j (by omega), if_neg (by omega)]
    rfl
  | succ d ih =>
    intro k j hj hk
    obtain ⟨k, rfl⟩ : ∃ m, k = m + 1 := ⟨k - 1, by omega⟩
    simp only [spec_l08Find.l0, s1, l1]
    rw [show wrap64 ((j : Int) + ((1 : Nat) : Int)) = ((j + 1 : Nat) : Int) from Plain.next j (by omega), if_pos (by omega), if_pos (by omega), if_pos (by omega), Plain.next j (by omega)]
    rw [ih k (j + 1) (by omega) (by omega)]
    rw [Int.toNat_natCast, Int.toNat_natCast, list_of]
    rw [slash_succ]
    have hl : s.data.toList.length = s.size := rfl
    have hb := byte_list s j (by omega)
    have hd := List.drop_eq_getElem_cons (by omega : j < s.data.toList.length)
    have ht : (s.data.toList.take (j + 1)).drop j = [s.data.toList[j]'(by omega)] := by
      rw [List.drop_take, hd]
      simp
    rw [ht]
    by_cases hq : bt s (j : Int) = 47
    · rw [if_pos hq]
      have := hb.mp hq
      rw [hd] at this
      injection this with h1 _
      rw [h1, if_pos rfl]
    · rw [if_neg hq, if_neg]
      intro he
      injection he with h1 _
      apply hq
      apply hb.mpr
      rw [hd, h1]

theorem index_tells (s : ByteArray) (d : Nat) : ∀ j, j + d = s.size → Lib.indexByte (s.data.toList.drop j) 47 = if slash s d j = -1 then -1 else slash s d j - j := by
  have hl : s.data.toList.length = s.size := rfl
  induction d with
  | zero =>
    intro j hj
    rw [List.drop_eq_nil_of_le (by omega)]
    rfl
  | succ d ih =>
    intro j hj
    have hb := byte_list s j (by omega)
    have hd := List.drop_eq_getElem_cons (by omega : j < s.data.toList.length)
    rw [slash_succ]
    by_cases hq : bt s (j : Int) = 47
    · rw [if_pos hq, hb.mp hq]
      unfold Lib.indexByte
      rw [if_pos (by decide), if_neg (by omega)]
      omega
    · rw [if_neg hq, hd]
      have hne : ¬ (s.data.toList[j]'(by omega) == (47 : UInt8)) = true := by
        intro he
        apply hq
        apply hb.mpr
        rw [hd, beq_iff_eq.mp he]
      unfold Lib.indexByte
      rw [if_neg hne, ih (j + 1) (by omega)]
      rcases slash_in s d (j + 1) with h1 | ⟨t, h1, h2, h3, h4⟩
      · rw [h1]; rfl
      · rw [h1]
        have q1 : ¬ ((t : Int) = -1) := by omega
        have q2 : ¬ ((t : Int) - ((j + 1 : Nat) : Int) = -1) := by omega
        rw [if_neg q1, if_neg q1]
        rw [if_neg (by first | exact q2 | exact fun he => q2 (beq_iff_eq.mp he))]
        omega

theorem parts (a : ByteArray) (k : Nat) (hk : 50 < k) (h1 : 1 ≤ a.size) (h2 : a.size ≤ 40) : ∃ p q p' q', spec_l08Split.f k a = some (p, q) ∧ impl_splitPath.f a = some (p', q') ∧ p'.toList = p.toList ∧ q'.toList = q.toList := by
  have hsz : (a.extract 1 a.size).size = a.size - 1 := by rw [ByteArray.size_extract]; omega
  have s1 : (⟨#[47]⟩ : ByteArray).size = 1 := rfl
  have hf : spec_l08Find.f k (a.extract 1 a.size) (⟨#[47]⟩ : ByteArray) = some (slash (a.extract 1 a.size) (a.size - 1) 0) := find_tells _ (by omega) (a.size - 1) k 0 (by omega) (by omega)
  have hi : stringslite_Index.f (a.extract 1 a.size) (⟨#[47]⟩ : ByteArray) = some (slash (a.extract 1 a.size) (a.size - 1) 0) := by
    unfold stringslite_Index.f stringslite_IndexByte.f
    rw [if_pos s1]
    have e := index_tells (a.extract 1 a.size) (a.size - 1) 0 (by omega)
    rw [show bt (⟨#[47]⟩ : ByteArray) 0 = 47 from rfl]
    rw [List.drop_zero] at e
    rw [show (47 : Int).toNat.toUInt8 = 47 from rfl, e]
    split
    · next h => rw [h]
    · simp
  unfold spec_l08Split.f impl_splitPath.f strings_Cut.f stringslite_Cut.f
  rw [if_pos (by omega), if_pos (by omega), hf, hi]
  simp only [Option.bind_some, s1, hsz]
  rcases slash_in (a.extract 1 a.size) (a.size - 1) 0 with h | ⟨t, h, h3, h4, h5⟩
  · rw [h]
    rw [if_pos (by decide), if_neg (by decide)]
    exact ⟨_, _, _, _, rfl, rfl, rfl, rfl⟩
  · rw [h]
    have e1 : wrap64 (1 + (t : Int)) = ((1 + t : Nat) : Int) := by unfold wrap64; omega
    have e2 : wrap64 ((t : Int) + ((1 : Nat) : Int)) = ((t + 1 : Nat) : Int) := Plain.next t (by omega)
    rw [e1, e2]
    rw [if_neg (by omega), if_pos (by omega), if_pos (by omega), if_pos (by omega), if_pos (by omega), if_pos (by omega), if_pos (by omega), if_pos (by omega), if_pos (by omega)]
    simp only [Option.bind_some, if_true, Int.toNat_natCast]
    have hz : ((a.extract 1 a.size).extract (t + 1) (a.size - 1)).size ≤ 40 := by rw [ByteArray.size_extract, hsz]; omega
    rw [if_pos (by omega)]
    refine ⟨_, _, _, _, rfl, rfl, ?_, ?_⟩
    · rw [list_of, list_of, ByteArray.data_extract]
      simp [List.extract_eq_take_drop, List.take_take, List.take_drop, List.drop_take]
      try (congr 1; omega)
    · have hb := (byte_list (a.extract 1 a.size) t (by omega)).mp h5
      have hd : (a.extract 1 a.size).data.toList = a.data.toList.drop 1 := by
        have := list_of a 1 a.size
        rw [ByteArray.toList_eq] at this
        rw [this, show a.data.toList.take a.size = a.data.toList from List.take_of_length_le (Nat.le_refl _)]
      rw [hd] at hb
      rw [ByteArray.toList_eq, ByteArray.data_append, Array.toList_append]
      have e3 : ((a.extract 1 a.size).extract (t + 1) (a.size - 1)).data.toList = (a.data.toList.drop 1).drop (t + 1) := by
        have := list_of (a.extract 1 a.size) (t + 1) (a.size - 1)
        rw [ByteArray.toList_eq] at this
        rw [this, hd, List.take_of_length_le]
        rw [List.length_drop]
        exact Nat.le_refl _
      rw [e3, list_of, show a.data.toList.take a.size = a.data.toList from List.take_of_length_le (Nat.le_refl _)]
      show 47 :: List.drop (t + 1) (List.drop 1 a.data.toList) = List.drop (1 + t) a.data.toList
      rw [← hb, List.drop_drop]

theorem FnExactSplitPath : laws_FnExactSplitPath.Pure := by
  intro p hp
  refine ⟨60, ?_⟩
  unfold laws_FnExactSplitPath.f
  by_cases hb : (p.size : Int) > 1048576
  · rw [if_pos hb]
  rw [if_neg hb]
  unfold spec_SplitPath.f impl_SplitPath.f
  by_cases h1 : (p.size : Int) > 65536
  · rw [if_pos h1, if_pos h1]
    simp
  rw [if_neg h1, if_neg h1, spec_path p 60 (by omega)]
  have hi := impl_path p (by omega)
  rw [hi]
  simp only [Option.bind_some]
  cases hq : isPath p
  · simp
  · have h40 : 1 ≤ p.size ∧ p.size ≤ 40 := by
      unfold isPath at hq
      simp at hq
      omega
    obtain ⟨a, b, a', b', h2, h3, h4, h5⟩ := parts p 60 (by omega) h40.1 h40.2
    rw [h2, h3]
    simp [h4, h5]

end Go.Proofs.Ythclofmcinknlaa.Pure
