/- The law FnExactWordOK over plain data: program and reference name the same texts words; no condition. -/
import Derived.Test.YtmbkhbihgnhoaaaPFnExactWordOKx1
namespace Go.Proofs.Ytmbkhbihgnhoaaa.Pure
open Go.RowKit Go.Proofs.Ytmbkhbihgnhoaaa.PFnExactWordOK Go.Proofs.YtmbkhbihgnhoaaaW.PrintWords Go.Proofs.YtmbkhbihgnhoaaaW.PrintLast

/-- The place of the first text that is v, counted from j; -1 without one. -/
def find : List ByteArray → ByteArray → Nat → Int
  | [], _, _ => -1
  | x :: xs, v, j => if x.toList = v.toList then (j : Int) else find xs v (j + 1)

theorem drop_at (l : List ByteArray) (j : Nat) (h : j < l.length) : l.drop j = rdOf ByteArray.empty l (j : Int) :: l.drop (j + 1) := by
  rw [List.drop_eq_getElem_cons h]
  simp [rdOf, h]

theorem next (j : Nat) (h : j < 1000000) : wrap64 ((j : Int) + 1) = ((j + 1 : Nat) : Int) := by
  unfold wrap64
  omega

theorem index_tells (l : List ByteArray) (v : ByteArray) (hl : l.length < 1000000) (d : Nat) : ∀ (k j : Nat), j + d = l.length → d < k →
    slices_Index_string_string.l0 k l v (l.length : Int) (j : Int) = some (find (l.drop j) v j) := by
  induction d with
  | zero =>
    intro k j hj hk
    obtain ⟨k, rfl⟩ : ∃ m, k = m + 1 := ⟨k - 1, by omega⟩
    simp only [slices_Index_string_string.l0]
    rw [if_neg (by omega), List.drop_of_length_le (by omega)]
    rfl
  | succ d ih =>
    intro k j hj hk
    obtain ⟨k, rfl⟩ : ∃ m, k = m + 1 := ⟨k - 1, by omega⟩
    simp only [slices_Index_string_string.l0]
    rw [if_pos (by omega), if_pos (by omega), if_pos (by omega), drop_at l j (by omega), next j (by omega), ih k (j + 1) (by omega) (by omega)]
    simp only [find]
    by_cases e : v.toList = (rdOf ByteArray.empty l (j : Int)).toList
    · rw [if_pos e, if_pos e.symm]
    · rw [if_neg e, if_neg (fun h => e h.symm)]

theorem find_low (l : List ByteArray) (v : ByteArray) (j : Nat) : find l v j = -1 ∨ (j : Int) ≤ find l v j := by
  induction l generalizing j with
  | nil => exact .inl rfl
  | cons x xs ih =>
    simp only [find]
    split
    · exact .inr (by omega)
    · rcases ih (j + 1) with h | h
      · exact .inl h
      · exact .inr (by omega)

theorem spec_tells (l : List ByteArray) (v : ByteArray) (hl : l.length < 1000000) (d : Nat) : ∀ (k j : Nat), j + d = l.length → d < k →
    spec_WordOK.l0 k v l (j : Int) = some (decide (find (l.drop j) v j ≥ 0)) := by
  induction d with
  | zero =>
    intro k j hj hk
    obtain ⟨k, rfl⟩ : ∃ m, k = m + 1 := ⟨k - 1, by omega⟩
    simp only [spec_WordOK.l0]
    rw [if_neg (by omega), List.drop_of_length_le (by omega)]
    rfl
  | succ d ih =>
    intro k j hj hk
    obtain ⟨k, rfl⟩ : ∃ m, k = m + 1 := ⟨k - 1, by omega⟩
    simp only [spec_WordOK.l0]
    rw [if_pos (by omega), if_pos (by omega), drop_at l j (by omega), next j (by omega), ih k (j + 1) (by omega) (by omega)]
    by_cases e : (rdOf ByteArray.empty l (j : Int)).toList = v.toList
    · rw [if_pos e]
      have hf : find (rdOf ByteArray.empty l (j : Int) :: l.drop (j + 1)) v j = (j : Int) := if_pos e
      exact congrArg some (decide_eq_true (by omega)).symm
    · rw [if_neg e]
      exact congrArg (fun z : Int => some (decide (z ≥ 0))) (if_neg e).symm

/-- The words. -/
def W : List ByteArray := (impl_sourceWords.f).getD []

theorem words : impl_sourceWords.f = some W := rfl
theorem words2 : spec_l02Words.f = some W := rfl
theorem W_length : W.length = 12 := rfl

theorem long_none (v : ByteArray) (h : (v.size : Int) > 65536) : ∀ (l : List ByteArray) (j : Nat), (∀ x ∈ l, x.size ≤ 10) → find l v j = -1 := by
  intro l
  induction l with
  | nil => exact fun _ _ => rfl
  | cons x xs ih =>
    intro j hx
    simp only [find]
    rw [if_neg, ih (j + 1) (fun y hy => hx y (List.mem_cons_of_mem _ hy))]
    intro e
    have h1 := hx x (List.mem_cons_self ..)
    have h2 : x.toList.length = v.toList.length := by rw [e]
    rw [ByteArray.toList_eq, ByteArray.toList_eq] at h2
    simp only [Array.length_toList] at h2
    have h3 : x.data.size = x.size := rfl
    have h4 : v.data.size = v.size := rfl
    omega

theorem W_short : ∀ x ∈ W, x.size ≤ 10 := by decide

theorem FnExactWordOK : laws_FnExactWordOK.Pure := by
  intro v _
  refine ⟨30, ?_⟩
  unfold laws_FnExactWordOK.f
  have h2 : slices_Index_string_string.f 30 W v = some (find (W.drop 0) v 0) := index_tells W v (by rw [W_length]; omega) 12 30 0 rfl (by omega)
  have h3 : impl_WordOK.f 30 v = some (decide (find (W.drop 0) v 0 ≥ 0)) := by
    unfold impl_WordOK.f slices_Contains_string_string.f
    rw [words]
    simp only [Option.bind_some]
    rw [h2]
    rfl
  have h1 : spec_WordOK.f 30 v = some (decide (find (W.drop 0) v 0 ≥ 0)) := by
    unfold spec_WordOK.f
    by_cases hv : (v.size : Int) > 65536
    · rw [if_pos hv, List.drop_zero, long_none v hv W 0 W_short]
      rfl
    · rw [if_neg hv, words2]
      exact spec_tells W v (by rw [W_length]; omega) 12 30 0 rfl (by omega)
  rw [h1, h3]
  simp only [Option.bind_some, bne_self_eq_false, Bool.false_eq_true, if_false, ite_self]

end Go.Proofs.Ytmbkhbihgnhoaaa.Pure
