/- The law FnExactNameOK over plain data: program and reference name the same texts names; no condition. -/
import Derived.Test.YtmbkhbihgnhoaaaPFnExactNameOKx2
namespace Go.Proofs.Ytmbkhbihgnhoaaa.Pure
open Go.RowKit Go.Proofs.Ytmbkhbihgnhoaaa.PFnExactNameOK Go.Proofs.YtmbkhbihgnhoaaaW.PrintWords Go.Proofs.YtmbkhbihgnhoaaaW.PrintLast

/-- A letter, a digit. -/
def letter (c : Int) : Bool := (impl_isLetter.f c).getD false
def digit (c : Int) : Bool := (impl_isDigit.f c).getD false

theorem letter_is (c : Int) : impl_isLetter.f c = some (letter c) := by
  unfold letter impl_isLetter.f
  repeat' split
  all_goals rfl
theorem digit_is (c : Int) : impl_isDigit.f c = some (digit c) := by
  unfold digit impl_isDigit.f
  repeat' split
  all_goals rfl
theorem letter_is' (c : Int) : spec_l00Letter.f c = some (letter c) := letter_is c
theorem digit_is' (c : Int) : spec_l00Digit.f c = some (digit c) := digit_is c

theorem next (j : Nat) (h : j < 1000000) : wrap64 ((j : Int) + 1) = ((j + 1 : Nat) : Int) := by
  unfold wrap64
  omega

/-- Are d bytes from j on letters or digits. -/
def all (s : ByteArray) : Nat → Nat → Bool
  | 0, _ => true
  | d + 1, j => (letter (bt s (j : Int)) || digit (bt s (j : Int))) && all s d (j + 1)

theorem impl_tells (s : ByteArray) (hs : s.size < 1000000) (d : Nat) : ∀ (k j : Nat), j + d = s.size → d < k → impl_NameOK.l0 k s (s.size : Int) (j : Int) = some (all s d j) := by
  induction d with
  | zero =>
    intro k j hj hk
    obtain ⟨k, rfl⟩ : ∃ m, k = m + 1 := ⟨k - 1, by omega⟩
    simp only [impl_NameOK.l0]
    rw [if_neg (by omega)]
    rfl
  | succ d ih =>
    intro k j hj hk
    obtain ⟨k, rfl⟩ : ∃ m, k = m + 1 := ⟨k - 1, by omega⟩
    simp only [impl_NameOK.l0]
    rw [if_pos (by omega), if_pos (by omega), if_pos (by omega), letter_is, digit_is, next j (by omega), ih k (j + 1) (by omega) (by omega)]
    simp only [Option.bind_some, all]
    cases letter (bt s (j : Int)) <;> cases digit (bt s (j : Int)) <;> simp

theorem spec_tells (s : ByteArray) (hs : s.size < 1000000) (d : Nat) : ∀ (k j : Nat), j + d = s.size → d < k → spec_l00Word.l0 k s (j : Int) = some (all s d j) := by
  induction d with
  | zero =>
    intro k j hj hk
    obtain ⟨k, rfl⟩ : ∃ m, k = m + 1 := ⟨k - 1, by omega⟩
    simp only [spec_l00Word.l0]
    rw [if_neg (by omega)]
    rfl
  | succ d ih =>
    intro k j hj hk
    obtain ⟨k, rfl⟩ : ∃ m, k = m + 1 := ⟨k - 1, by omega⟩
    simp only [spec_l00Word.l0]
    rw [if_pos (by omega), if_pos (by omega), letter_is', digit_is', next j (by omega), ih k (j + 1) (by omega) (by omega)]
    simp only [Option.bind_some, all]
    cases letter (bt s (j : Int)) <;> cases digit (bt s (j : Int)) <;> simp

theorem apart (c : Int) (h : letter c = true) : digit c = false := by
  unfold letter impl_isLetter.f at h
  unfold digit impl_isDigit.f
  by_cases h1 : c ≥ 48
  · rw [if_pos h1]
    simp only [Option.getD_some, decide_eq_false_iff_not]
    intro h2
    rw [if_neg (by omega), if_neg (by omega)] at h
    simp only [Option.getD_some, beq_iff_eq] at h
    omega
  · rw [if_neg h1]
    rfl

/-- What both tell. -/
def name (s : ByteArray) : Bool := decide (1 ≤ s.size ∧ s.size ≤ 40) && letter (bt s 0) && all s (s.size - 1) 1

theorem spec_name (s : ByteArray) (k : Nat) (hk : 60 < k) : spec_NameOK.f k s = some (name s) := by
  obtain ⟨k, rfl⟩ : ∃ m, k = m + 1 := ⟨k - 1, by omega⟩
  unfold spec_NameOK.f spec_l00Word.f name
  by_cases h1 : (s.size : Int) < 1
  · rw [if_pos h1, decide_eq_false (by omega)]
    simp [spec_l00Word.j0]
  · rw [if_neg h1]
    by_cases h2 : (s.size : Int) > 40
    · rw [if_pos h2, decide_eq_false (by omega)]
      simp [spec_l00Word.j0]
    · rw [if_neg h2, if_pos (by omega), letter_is', decide_eq_true (by omega)]
      have h := spec_tells s (by omega) (s.size - 1) k 1 (by omega) (by omega)
      simp only [Option.bind_some, spec_l00Word.j0]
      rw [show spec_l00Word.l0 k s 1 = some (all s (s.size - 1) 1) from h]
      cases letter (bt s 0) <;> simp

theorem impl_name (s : ByteArray) (k : Nat) (hk : 60 < k) : impl_NameOK.f k s = some (name s) := by
  obtain ⟨k, rfl⟩ : ∃ m, k = m + 1 := ⟨k - 1, by omega⟩
  unfold impl_NameOK.f impl_within.f name
  by_cases h1 : (s.size : Int) < 1
  · rw [if_neg (by omega), decide_eq_false (by omega)]
    simp [impl_NameOK.j0]
  · rw [if_pos (by omega)]
    by_cases h2 : (s.size : Int) > 40
    · rw [decide_eq_false (by omega), decide_eq_false (by omega)]
      simp [impl_NameOK.j0]
    · rw [decide_eq_true (by omega), decide_eq_true (by omega)]
      have h := impl_tells s (by omega) s.size k 0 (by omega) (by omega)
      have e : all s s.size 0 = ((letter (bt s 0) || digit (bt s 0)) && all s (s.size - 1) 1) := by
        obtain ⟨d, hd⟩ : ∃ d, s.size = d + 1 := ⟨s.size - 1, by omega⟩
        rw [hd]
        rfl
      simp only [Option.bind_some, if_true]
      rw [if_pos (by omega), digit_is]
      simp only [Option.bind_some, impl_NameOK.j0]
      rw [show impl_NameOK.l0 k s (s.size : Int) 0 = some (all s s.size 0) from h, e]
      cases hl : letter (bt s 0)
      · cases digit (bt s 0) <;> simp
      · rw [apart _ hl]
        simp

theorem FnExactNameOK : laws_FnExactNameOK.Pure := by
  intro s _
  refine ⟨61, ?_⟩
  unfold laws_FnExactNameOK.f
  rw [spec_name s 61 (by omega), impl_name s 61 (by omega)]
  simp only [Option.bind_some, bne_self_eq_false, Bool.false_eq_true, if_false, ite_self]

end Go.Proofs.Ytmbkhbihgnhoaaa.Pure
