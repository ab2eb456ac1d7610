/- The law FnExactRequestText over plain data; no condition. -/
import Derived.Test.YtmbkhbihgnhoaaaGoalFnExactRequestText
import Derived.Test.YtmbkhbihgnhoaaaPlain
namespace Go.Proofs.Ytmbkhbihgnhoaaa.Pure
open Go.RowKit Go.Proofs.Ytmbkhbihgnhoaaa.QFnExactRequestText Go.Proofs.YtmbkhbihgnhoaaaW.PrintWords Go.Proofs.YtmbkhbihgnhoaaaW.PrintLast Go.Proofs.Ytmbkhbihgnhoaaa.GoalFnExactRequestText Go.Proofs.Ytmbkhbihgnhoaaa

set_option linter.unusedSimpArgs false
set_option linter.unusedVariables false

/-- Do d bytes from j on meet p. -/
def allFrom (p : Int → Bool) (s : ByteArray) : Nat → Nat → Bool
  | 0, _ => true
  | d + 1, j => p (bt s (j : Int)) && allFrom p s d (j + 1)

theorem run_le (p : Int → Bool) (s : ByteArray) (d : Nat) : ∀ j, My.runFrom p s d j ≤ j + d := by
  induction d with
  | zero => intro j; simp [My.runFrom]
  | succ d ih =>
    intro j
    have := ih (j + 1)
    unfold My.runFrom
    split <;> omega

theorem run_all (p : Int → Bool) (s : ByteArray) (d : Nat) : ∀ j, ((My.runFrom p s d j : Int) == ((j + d : Nat) : Int)) = allFrom p s d j := by
  induction d with
  | zero => intro j; simp [My.runFrom, allFrom]
  | succ d ih =>
    intro j
    unfold My.runFrom allFrom
    cases h : p (bt s (j : Int))
    · simp only [Bool.false_eq_true, if_false, Bool.false_and]
      exact beq_eq_false_iff_ne.2 (by omega)
    · simp only [if_true, Bool.true_and]
      rw [← ih (j + 1)]
      congr 1
      omega

theorem run_whole (p : Int → Bool) (s : ByteArray) : ((My.runFrom p s s.size 0 : Int) == (s.size : Int)) = allFrom p s s.size 0 := by
  have h := run_all p s s.size 0
  rw [Nat.zero_add] at h
  exact h

theorem bt_in (s : ByteArray) (i : Int) : wrap64 (bt s i) = bt s i := by
  have := bt_range s i
  unfold wrap64
  omega

theorem path_byte (c : Int) : ((spec_l00Letter.f c).bind fun t102 => (if t102 = true then some true else ((spec_l00Digit.f c).bind fun t103 => (if t103 = true then some true else (if c = 47 then some true else (if c = 46 then some true else (if c = 45 then some true else (some false)))))))) = some (impl_pathOK.p c) := by
  rw [← impl_pathOK.p_is]
  unfold impl_pathOK_1.f impl_identByte.f
  have e1 : spec_l00Letter.f c = impl_isLetter.f c := rfl
  have e2 : spec_l00Digit.f c = impl_isDigit.f c := rfl
  rw [e1, e2]
  have h1 : ∃ b, impl_isLetter.f c = some b := by
    unfold impl_isLetter.f
    repeat' split
    all_goals exact ⟨_, rfl⟩
  have h2 : ∃ b, impl_isDigit.f c = some b := by
    unfold impl_isDigit.f
    repeat' split
    all_goals exact ⟨_, rfl⟩
  obtain ⟨b1, h1⟩ := h1
  obtain ⟨b2, h2⟩ := h2
  rw [h1, h2]
  simp only [Option.bind_some]
  cases b1 <;> cases b2 <;> by_cases c1 : c = 47 <;> by_cases c2 : c = 46 <;> by_cases c3 : c = 45 <;> simp [c1, c2, c3]

theorem path_tells (s : ByteArray) (hs : s.size < 4611686018427387904) (d : Nat) : ∀ (k j : Nat), j + d = s.size → d < k → spec_l08Path.l0 k s (j : Int) = some (allFrom impl_pathOK.p s d j) := by
  induction d with
  | zero =>
    intro k j hj hk
    obtain ⟨k, rfl⟩ : ∃ m, k = m + 1 := ⟨k - 1, by omega⟩
    simp only [spec_l08Path.l0]
    rw [if_neg (by omega)]
    rfl
  | succ d ih =>
    intro k j hj hk
    obtain ⟨k, rfl⟩ : ∃ m, k = m + 1 := ⟨k - 1, by omega⟩
    simp only [spec_l08Path.l0]
    rw [if_pos (by omega), if_pos (by omega), Plain.next j (by omega), ih k (j + 1) (by omega) (by omega)]
    have h := path_byte (bt s (j : Int))
    have h1 : ∃ b, spec_l00Letter.f (bt s (j : Int)) = some b := by
      unfold spec_l00Letter.f
      repeat' split
      all_goals exact ⟨_, rfl⟩
    have h2 : ∃ b, spec_l00Digit.f (bt s (j : Int)) = some b := by
      unfold spec_l00Digit.f
      repeat' split
      all_goals exact ⟨_, rfl⟩
    obtain ⟨b1, h1⟩ := h1
    obtain ⟨b2, h2⟩ := h2
    rw [h1, h2] at h ⊢
    simp only [Option.bind_some, allFrom] at h ⊢
    generalize impl_pathOK.p (bt s (j : Int)) = q at h ⊢
    revert h
    repeat' split
    all_goals intro h
    all_goals simp at h
    all_goals subst h
    all_goals simp

/-- Is the text a path. -/
def isPath (s : ByteArray) : Bool := decide (1 ≤ s.size ∧ s.size ≤ 40) && ((bt s 0 == 47) && allFrom impl_pathOK.p s s.size 0)

theorem spec_path (s : ByteArray) (k : Nat) (hk : 50 < k) : spec_l08Path.f k s = some (isPath s) := by
  obtain ⟨k, rfl⟩ : ∃ m, k = m + 1 := ⟨k - 1, by omega⟩
  unfold spec_l08Path.f isPath
  by_cases h1 : (s.size : Int) < 1
  · rw [if_pos h1, decide_eq_false (by omega)]
    simp [spec_l08Path.j0]
  rw [if_neg h1]
  by_cases h2 : (s.size : Int) > 40
  · rw [if_pos h2, decide_eq_false (by omega)]
    simp [spec_l08Path.j0]
  rw [if_neg h2, if_pos (by omega), decide_eq_true (by omega)]
  have h := path_tells s (by omega) s.size k 0 (by omega) (by omega)
  simp only [spec_l08Path.j0]
  rw [show spec_l08Path.l0 k s 0 = some (allFrom impl_pathOK.p s s.size 0) from h]
  by_cases h3 : bt s 0 = 47 <;> simp [h3]

theorem impl_path (s : ByteArray) (hs : s.size ≤ 9223372036854775807) : impl_pathOK.f s = some (isPath s) := by
  unfold impl_pathOK.f isPath
  by_cases h1 : 1 ≤ s.size
  · rw [if_pos h1]
    by_cases h2 : s.size ≤ 40
    · rw [if_pos h2, decide_eq_true ⟨h1, h2⟩]
      by_cases h3 : bt s 0 = 47
      · rw [if_pos h3, run_whole, h3]
        simp
      · rw [if_neg h3, beq_eq_false_iff_ne.2 h3]
        simp
    · rw [if_neg h2, if_pos hs, decide_eq_false (by omega)]
      simp
  · rw [if_neg h1, decide_eq_false (by omega)]
    simp

theorem app_data (a b : ByteArray) : (a ++ b).toList = a.toList ++ b.toList := by
  rw [ByteArray.toList_eq, ByteArray.toList_eq, ByteArray.toList_eq, ByteArray.data_append, Array.toList_append]

theorem lit_data (a : Array UInt8) : (⟨a⟩ : ByteArray).toList = a.toList := by rw [ByteArray.toList_eq]

def said (p : ByteArray) (c : Bool) : List UInt8 := [71, 69, 84, 32] ++ (p.toList ++ if c then [32, 72, 84, 84, 80, 47, 49, 46, 49, 13, 10, 72, 111, 115, 116, 58, 32, 101, 100, 103, 101, 13, 10, 67, 111, 110, 110, 101, 99, 116, 105, 111, 110, 58, 32, 99, 108, 111, 115, 101, 13, 10, 13, 10] else [32, 72, 84, 84, 80, 47, 49, 46, 49, 13, 10, 72, 111, 115, 116, 58, 32, 101, 100, 103, 101, 13, 10, 13, 10])

theorem text_spec (p : ByteArray) (hp : p.size ≤ 40) (c : Bool) : ∃ t, spec_l08Text.f p c = some t ∧ t.toList = said p c := by
  have s0 : (⟨#[71, 69, 84, 32]⟩ : ByteArray).size = 4 := rfl
  have s1 : (⟨#[32]⟩ : ByteArray).size = 1 := rfl
  have s2 : (⟨#[72, 84, 84, 80, 47, 49, 46, 49]⟩ : ByteArray).size = 8 := rfl
  have s3 : (⟨#[13, 10]⟩ : ByteArray).size = 2 := rfl
  have s4 : (⟨#[72, 111, 115, 116, 58, 32, 101, 100, 103, 101]⟩ : ByteArray).size = 10 := rfl
  have s5 : (⟨#[67, 111, 110, 110, 101, 99, 116, 105, 111, 110, 58, 32, 99, 108, 111, 115, 101, 13, 10]⟩ : ByteArray).size = 19 := rfl
  have s6 : (⟨#[32, 72, 84, 84, 80, 47, 49, 46, 49, 13, 10, 72, 111, 115, 116, 58, 32, 101, 100, 103, 101, 13, 10]⟩ : ByteArray).size = 23 := rfl
  unfold spec_l08Text.f said
  simp only [ByteArray.size_append, s0, s1, s2, s3, s4, s5, s6]
  cases c
  · rw [if_pos (by omega), if_pos (by omega), if_neg (by decide), if_pos (by omega)]
    exact ⟨_, rfl, by simp only [app_data, lit_data, List.append_assoc]; rfl⟩
  · rw [if_pos (by omega), if_pos (by omega), if_pos rfl, if_pos (by omega), if_pos (by omega)]
    exact ⟨_, rfl, by simp only [app_data, lit_data, List.append_assoc]; rfl⟩

theorem text_impl (p : ByteArray) (hp : p.size ≤ 40) (c : Bool) (h : impl_pathOK.f p = some true) : ∃ t, impl_RequestText.f p c = some (t, 0) ∧ t.toList = said p c := by
  have s0 : (⟨#[71, 69, 84, 32]⟩ : ByteArray).size = 4 := rfl
  have s1 : (⟨#[32]⟩ : ByteArray).size = 1 := rfl
  have s2 : (⟨#[72, 84, 84, 80, 47, 49, 46, 49]⟩ : ByteArray).size = 8 := rfl
  have s3 : (⟨#[13, 10]⟩ : ByteArray).size = 2 := rfl
  have s4 : (⟨#[72, 111, 115, 116, 58, 32, 101, 100, 103, 101]⟩ : ByteArray).size = 10 := rfl
  have s5 : (⟨#[67, 111, 110, 110, 101, 99, 116, 105, 111, 110, 58, 32, 99, 108, 111, 115, 101, 13, 10]⟩ : ByteArray).size = 19 := rfl
  have s6 : (⟨#[32, 72, 84, 84, 80, 47, 49, 46, 49, 13, 10, 72, 111, 115, 116, 58, 32, 101, 100, 103, 101, 13, 10]⟩ : ByteArray).size = 23 := rfl
  unfold impl_RequestText.f said
  rw [h]
  simp only [Option.bind_some, if_true, ByteArray.size_append, s0, s1, s2, s3, s4, s5, s6]
  cases c
  · simp only [Bool.false_eq_true, if_false]
    repeat rw [if_pos (by omega)]
    exact ⟨_, rfl, by simp only [app_data, lit_data, List.append_assoc]; rfl⟩
  · simp only [if_true]
    repeat rw [if_pos (by omega)]
    exact ⟨_, rfl, by simp only [app_data, lit_data, List.append_assoc]; rfl⟩

theorem FnExactRequestText : GoalFnExactRequestText.Pure := by
  intro p c hp
  unfold maxLen at hp
  refine ⟨60, ?_⟩
  unfold laws_FnExactRequestText.f laws_szRequest.f laws_toRequest.f
  have e : wrap64 (1048576 - (p.size : Int)) = 1048576 - p.size := by unfold wrap64; omega
  rw [e]
  by_cases h0 : (1048576 : Int) - (p.size : Int) < 0
  · rw [if_pos h0]; rfl
  rw [if_neg h0]
  simp only [Option.bind_some]
  rw [if_neg h0]
  unfold spec_RequestText.f
  rw [spec_path p 60 (by omega)]
  have hi := impl_path p (by omega)
  cases hq : isPath p
  · rw [hq] at hi
    unfold impl_RequestText.f
    rw [hi]
    simp
  · rw [hq] at hi
    have h40 : p.size ≤ 40 := by
      unfold isPath at hq
      simp at hq
      exact hq.1.2
    obtain ⟨t, h1, h3⟩ := text_spec p h40 c
    obtain ⟨u, h2, h4⟩ := text_impl p h40 c hi
    rw [h1, h2]
    simp [h3, h4]

end Go.Proofs.Ytmbkhbihgnhoaaa.Pure
