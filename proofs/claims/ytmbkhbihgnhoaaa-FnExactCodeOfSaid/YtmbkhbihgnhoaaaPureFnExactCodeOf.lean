/- The law FnExactCodeOf over plain data: program and reference find the same place of a word among the codes' words; no condition. -/
import Derived.Test.YtmbkhbihgnhoaaaPFnExactCodeOfx1
namespace Go.Proofs.Ytmbkhbihgnhoaaa.Pure
open Go.RowKit Go.Proofs.Ytmbkhbihgnhoaaa.PFnExactCodeOf Go.Proofs.YtmbkhbihgnhoaaaW.PrintWords Go.Proofs.YtmbkhbihgnhoaaaW.PrintLast

/-- The place of the first text that is v, counted from j; -1 without one. -/
def find : List ByteArray → ByteArray → Nat → Int
  | [], _, _ => -1
  | x :: xs, v, j => if x.toList = v.toList then (j : Int) else find xs v (j + 1)

theorem drop_at (l : List ByteArray) (j : Nat) (h : j < l.length) : l.drop j = rdOf ByteArray.empty l (j : Int) :: l.drop (j + 1) := by
  rw [List.drop_eq_getElem_cons h]
  simp [rdOf, h]

theorem next (j : Nat) (h : j < 1000000) : wrap64 ((j : Int) + 1) = ((j + 1 : Nat) : Int) := by
  unfold wrap64
  omega

theorem index_tells (l : List ByteArray) (v : ByteArray) (hl : l.length < 1000000) (d : Nat) : ∀ (k j : Nat), j + d = l.length → d < k →
    slices_Index_string_string.l0 k l v (l.length : Int) (j : Int) = some (find (l.drop j) v j) := by
  induction d with
  | zero =>
    intro k j hj hk
    obtain ⟨k, rfl⟩ : ∃ m, k = m + 1 := ⟨k - 1, by omega⟩
    simp only [slices_Index_string_string.l0]
    rw [if_neg (by omega), List.drop_of_length_le (by omega)]
    rfl
  | succ d ih =>
    intro k j hj hk
    obtain ⟨k, rfl⟩ : ∃ m, k = m + 1 := ⟨k - 1, by omega⟩
    simp only [slices_Index_string_string.l0]
    rw [if_pos (by omega), if_pos (by omega), if_pos (by omega), drop_at l j (by omega), next j (by omega), ih k (j + 1) (by omega) (by omega)]
    simp only [find]
    by_cases e : v.toList = (rdOf ByteArray.empty l (j : Int)).toList
    · rw [if_pos e, if_pos e.symm]
    · rw [if_neg e, if_neg (fun h => e h.symm)]

/-- The words. -/
def W : List ByteArray := (impl_codeWords.f).getD []

theorem words : impl_codeWords.f = some W := rfl
theorem W_length : W.length = 20 := rfl

theorem word_at (j : Nat) (h : j < 20) : spec_CodeWord.f (j : Int) = some (rdOf ByteArray.empty W (j : Int)) := by
  unfold spec_CodeWord.f
  simp only [Option.bind_some, List.length_cons, List.length_nil, Nat.zero_add, Nat.reduceAdd]
  rw [if_neg (by omega), if_neg (by omega), if_pos (by omega), if_pos (by omega)]
  rfl

theorem spec_tells (v : ByteArray) (d : Nat) : ∀ (k j : Nat), j + d = 20 → d < k → spec_CodeOf.l0 k v (j : Int) = some (find (W.drop j) v j) := by
  induction d with
  | zero =>
    intro k j hj hk
    obtain ⟨k, rfl⟩ : ∃ m, k = m + 1 := ⟨k - 1, by omega⟩
    simp only [spec_CodeOf.l0]
    rw [if_neg (by omega), List.drop_of_length_le (by rw [W_length]; omega)]
    rfl
  | succ d ih =>
    intro k j hj hk
    obtain ⟨k, rfl⟩ : ∃ m, k = m + 1 := ⟨k - 1, by omega⟩
    simp only [spec_CodeOf.l0]
    rw [if_pos (by omega), word_at j (by omega)]
    simp only [Option.bind_some]
    rw [drop_at W j (by rw [W_length]; omega), next j (by omega), ih k (j + 1) (by omega) (by omega)]
    simp only [find]
    split <;> rfl

theorem FnExactCodeOf : laws_FnExactCodeOf.Pure := by
  intro v _
  refine ⟨30, ?_⟩
  unfold laws_FnExactCodeOf.f
  have h1 : spec_CodeOf.f 30 v = some (find (W.drop 0) v 0) := spec_tells v 20 30 0 rfl (by omega)
  have h2 : slices_Index_string_string.f 30 W v = some (find (W.drop 0) v 0) := index_tells W v (by rw [W_length]; omega) 20 30 0 rfl (by omega)
  unfold impl_CodeOf.f
  rw [h1, words]
  simp only [Option.bind_some]
  rw [h2]
  simp only [Option.bind_some, if_true, ite_self]

end Go.Proofs.Ytmbkhbihgnhoaaa.Pure
