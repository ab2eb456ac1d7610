/- Functions that the law uses, as Lean functions with the same answers, and the walks that show it: by this session's program, after the form of the kit's print. No condition. -/
import Derived.Test.YthclofmcinknlaaDoorQFnExactReplyTextx0
import Derived.Test.YthclofmcinknlaaDoorQFnExactReplyTextx1
namespace Go.Proofs.YthclofmcinknlaaDoor.QFnExactReplyText
open Go.RowKit Go.Proofs.YthclofmcinknlaaDoorW.PrintWords Go.Proofs.YthclofmcinknlaaDoorW.PrintLast Go.Proofs.YthclofmcinknlaaDoorW.PrintMore
attribute [local go_sem] max2_int min2_int max_two min_two max_three min_three max_four min_four   -- for this text's walks alone
open Go.Proofs.YthclofmcinknlaaDoor
attribute [local go_sem high] My.binOp_gtr_flip
set_option linter.unusedVariables false
set_option linter.unusedSimpArgs false

/-! ### impl_replyText: function 43 -/
def impl_replyText.f (a0 : Int) (a1 : ByteArray) (a2 : Bool) : Option (ByteArray) := (impl_statusHead.f a0).bind fun t115 => ((impl_StatusWord.f a0).bind fun t116 => (if t115.size + t116.size ≤ 9223372036854775807 then (if (t115 ++ t116).size + 2 ≤ 9223372036854775807 then (if ((t115 ++ t116) ++ (⟨#[13, 10]⟩ : ByteArray)).size + 16 ≤ 9223372036854775807 then ((strconv_Itoa_70.f (a1.size : Int)).bind fun t117 => (if (((t115 ++ t116) ++ (⟨#[13, 10]⟩ : ByteArray)) ++ (⟨#[67, 111, 110, 116, 101, 110, 116, 45, 76, 101, 110, 103, 116, 104, 58, 32]⟩ : ByteArray)).size + t117.size ≤ 9223372036854775807 then (if ((((t115 ++ t116) ++ (⟨#[13, 10]⟩ : ByteArray)) ++ (⟨#[67, 111, 110, 116, 101, 110, 116, 45, 76, 101, 110, 103, 116, 104, 58, 32]⟩ : ByteArray)) ++ t117).size + 2 ≤ 9223372036854775807 then (if a2 = true then (if (((((t115 ++ t116) ++ (⟨#[13, 10]⟩ : ByteArray)) ++ (⟨#[67, 111, 110, 116, 101, 110, 116, 45, 76, 101, 110, 103, 116, 104, 58, 32]⟩ : ByteArray)) ++ t117) ++ (⟨#[13, 10]⟩ : ByteArray)).size + 19 ≤ 9223372036854775807 then (if ((((((t115 ++ t116) ++ (⟨#[13, 10]⟩ : ByteArray)) ++ (⟨#[67, 111, 110, 116, 101, 110, 116, 45, 76, 101, 110, 103, 116, 104, 58, 32]⟩ : ByteArray)) ++ t117) ++ (⟨#[13, 10]⟩ : ByteArray)) ++ (⟨#[67, 111, 110, 110, 101, 99, 116, 105, 111, 110, 58, 32, 99, 108, 111, 115, 101, 13, 10]⟩ : ByteArray)).size + 2 ≤ 9223372036854775807 then (if (((((((t115 ++ t116) ++ (⟨#[13, 10]⟩ : ByteArray)) ++ (⟨#[67, 111, 110, 116, 101, 110, 116, 45, 76, 101, 110, 103, 116, 104, 58, 32]⟩ : ByteArray)) ++ t117) ++ (⟨#[13, 10]⟩ : ByteArray)) ++ (⟨#[67, 111, 110, 110, 101, 99, 116, 105, 111, 110, 58, 32, 99, 108, 111, 115, 101, 13, 10]⟩ : ByteArray)) ++ (⟨#[13, 10]⟩ : ByteArray)).size + a1.size ≤ 9223372036854775807 then (some ((((((((t115 ++ t116) ++ (⟨#[13, 10]⟩ : ByteArray)) ++ (⟨#[67, 111, 110, 116, 101, 110, 116, 45, 76, 101, 110, 103, 116, 104, 58, 32]⟩ : ByteArray)) ++ t117) ++ (⟨#[13, 10]⟩ : ByteArray)) ++ (⟨#[67, 111, 110, 110, 101, 99, 116, 105, 111, 110, 58, 32, 99, 108, 111, 115, 101, 13, 10]⟩ : ByteArray)) ++ (⟨#[13, 10]⟩ : ByteArray)) ++ a1)) else (none)) else (none)) else (none)) else (if (((((t115 ++ t116) ++ (⟨#[13, 10]⟩ : ByteArray)) ++ (⟨#[67, 111, 110, 116, 101, 110, 116, 45, 76, 101, 110, 103, 116, 104, 58, 32]⟩ : ByteArray)) ++ t117) ++ (⟨#[13, 10]⟩ : ByteArray)).size + 2 ≤ 9223372036854775807 then (if ((((((t115 ++ t116) ++ (⟨#[13, 10]⟩ : ByteArray)) ++ (⟨#[67, 111, 110, 116, 101, 110, 116, 45, 76, 101, 110, 103, 116, 104, 58, 32]⟩ : ByteArray)) ++ t117) ++ (⟨#[13, 10]⟩ : ByteArray)) ++ (⟨#[13, 10]⟩ : ByteArray)).size + a1.size ≤ 9223372036854775807 then (some (((((((t115 ++ t116) ++ (⟨#[13, 10]⟩ : ByteArray)) ++ (⟨#[67, 111, 110, 116, 101, 110, 116, 45, 76, 101, 110, 103, 116, 104, 58, 32]⟩ : ByteArray)) ++ t117) ++ (⟨#[13, 10]⟩ : ByteArray)) ++ (⟨#[13, 10]⟩ : ByteArray)) ++ a1)) else (none)) else (none))) else (none)) else (none))) else (none)) else (none)) else (none)))
set_option maxHeartbeats 8000000 in
set_option maxRecDepth 100000 in
theorem impl_replyText.calls (a0 : Int) (a1 : ByteArray) (a2 : Bool) (r : ByteArray) (w : World) (hG : Aside0 (My.Tab w)) (h : impl_replyText.f a0 a1 a2 = some r) :
    Calls Tryd.prog 43 #[.int .i64 a0, .string a1, .bool a2] w fun e w' => e = .returned (.string r) ∧ Below w.heap.size w w' := by
  have HB := Aside0.mk (Below.refl w.heap.size w)
  have H : ((impl_statusHead.f a0).bind fun t115 => ((impl_StatusWord.f a0).bind fun t116 => (if t115.size + t116.size ≤ 9223372036854775807 then (if (t115 ++ t116).size + 2 ≤ 9223372036854775807 then (if ((t115 ++ t116) ++ (⟨#[13, 10]⟩ : ByteArray)).size + 16 ≤ 9223372036854775807 then ((strconv_Itoa_70.f (a1.size : Int)).bind fun t117 => (if (((t115 ++ t116) ++ (⟨#[13, 10]⟩ : ByteArray)) ++ (⟨#[67, 111, 110, 116, 101, 110, 116, 45, 76, 101, 110, 103, 116, 104, 58, 32]⟩ : ByteArray)).size + t117.size ≤ 9223372036854775807 then (if ((((t115 ++ t116) ++ (⟨#[13, 10]⟩ : ByteArray)) ++ (⟨#[67, 111, 110, 116, 101, 110, 116, 45, 76, 101, 110, 103, 116, 104, 58, 32]⟩ : ByteArray)) ++ t117).size + 2 ≤ 9223372036854775807 then (if a2 = true then (if (((((t115 ++ t116) ++ (⟨#[13, 10]⟩ : ByteArray)) ++ (⟨#[67, 111, 110, 116, 101, 110, 116, 45, 76, 101, 110, 103, 116, 104, 58, 32]⟩ : ByteArray)) ++ t117) ++ (⟨#[13, 10]⟩ : ByteArray)).size + 19 ≤ 9223372036854775807 then (if ((((((t115 ++ t116) ++ (⟨#[13, 10]⟩ : ByteArray)) ++ (⟨#[67, 111, 110, 116, 101, 110, 116, 45, 76, 101, 110, 103, 116, 104, 58, 32]⟩ : ByteArray)) ++ t117) ++ (⟨#[13, 10]⟩ : ByteArray)) ++ (⟨#[67, 111, 110, 110, 101, 99, 116, 105, 111, 110, 58, 32, 99, 108, 111, 115, 101, 13, 10]⟩ : ByteArray)).size + 2 ≤ 9223372036854775807 then (if (((((((t115 ++ t116) ++ (⟨#[13, 10]⟩ : ByteArray)) ++ (⟨#[67, 111, 110, 116, 101, 110, 116, 45, 76, 101, 110, 103, 116, 104, 58, 32]⟩ : ByteArray)) ++ t117) ++ (⟨#[13, 10]⟩ : ByteArray)) ++ (⟨#[67, 111, 110, 110, 101, 99, 116, 105, 111, 110, 58, 32, 99, 108, 111, 115, 101, 13, 10]⟩ : ByteArray)) ++ (⟨#[13, 10]⟩ : ByteArray)).size + a1.size ≤ 9223372036854775807 then (some ((((((((t115 ++ t116) ++ (⟨#[13, 10]⟩ : ByteArray)) ++ (⟨#[67, 111, 110, 116, 101, 110, 116, 45, 76, 101, 110, 103, 116, 104, 58, 32]⟩ : ByteArray)) ++ t117) ++ (⟨#[13, 10]⟩ : ByteArray)) ++ (⟨#[67, 111, 110, 110, 101, 99, 116, 105, 111, 110, 58, 32, 99, 108, 111, 115, 101, 13, 10]⟩ : ByteArray)) ++ (⟨#[13, 10]⟩ : ByteArray)) ++ a1)) else (none)) else (none)) else (none)) else (if (((((t115 ++ t116) ++ (⟨#[13, 10]⟩ : ByteArray)) ++ (⟨#[67, 111, 110, 116, 101, 110, 116, 45, 76, 101, 110, 103, 116, 104, 58, 32]⟩ : ByteArray)) ++ t117) ++ (⟨#[13, 10]⟩ : ByteArray)).size + 2 ≤ 9223372036854775807 then (if ((((((t115 ++ t116) ++ (⟨#[13, 10]⟩ : ByteArray)) ++ (⟨#[67, 111, 110, 116, 101, 110, 116, 45, 76, 101, 110, 103, 116, 104, 58, 32]⟩ : ByteArray)) ++ t117) ++ (⟨#[13, 10]⟩ : ByteArray)) ++ (⟨#[13, 10]⟩ : ByteArray)).size + a1.size ≤ 9223372036854775807 then (some (((((((t115 ++ t116) ++ (⟨#[13, 10]⟩ : ByteArray)) ++ (⟨#[67, 111, 110, 116, 101, 110, 116, 45, 76, 101, 110, 103, 116, 104, 58, 32]⟩ : ByteArray)) ++ t117) ++ (⟨#[13, 10]⟩ : ByteArray)) ++ (⟨#[13, 10]⟩ : ByteArray)) ++ a1)) else (none)) else (none))) else (none)) else (none))) else (none)) else (none)) else (none)))) = some r := h
  clear h
  replace H := Option.bind_eq_some_iff.mp H
  obtain ⟨t115, A40, H⟩ := H
  replace H : ((impl_StatusWord.f a0).bind fun t116 => (if t115.size + t116.size ≤ 9223372036854775807 then (if (t115 ++ t116).size + 2 ≤ 9223372036854775807 then (if ((t115 ++ t116) ++ (⟨#[13, 10]⟩ : ByteArray)).size + 16 ≤ 9223372036854775807 then ((strconv_Itoa_70.f (a1.size : Int)).bind fun t117 => (if (((t115 ++ t116) ++ (⟨#[13, 10]⟩ : ByteArray)) ++ (⟨#[67, 111, 110, 116, 101, 110, 116, 45, 76, 101, 110, 103, 116, 104, 58, 32]⟩ : ByteArray)).size + t117.size ≤ 9223372036854775807 then (if ((((t115 ++ t116) ++ (⟨#[13, 10]⟩ : ByteArray)) ++ (⟨#[67, 111, 110, 116, 101, 110, 116, 45, 76, 101, 110, 103, 116, 104, 58, 32]⟩ : ByteArray)) ++ t117).size + 2 ≤ 9223372036854775807 then (if a2 = true then (if (((((t115 ++ t116) ++ (⟨#[13, 10]⟩ : ByteArray)) ++ (⟨#[67, 111, 110, 116, 101, 110, 116, 45, 76, 101, 110, 103, 116, 104, 58, 32]⟩ : ByteArray)) ++ t117) ++ (⟨#[13, 10]⟩ : ByteArray)).size + 19 ≤ 9223372036854775807 then (if ((((((t115 ++ t116) ++ (⟨#[13, 10]⟩ : ByteArray)) ++ (⟨#[67, 111, 110, 116, 101, 110, 116, 45, 76, 101, 110, 103, 116, 104, 58, 32]⟩ : ByteArray)) ++ t117) ++ (⟨#[13, 10]⟩ : ByteArray)) ++ (⟨#[67, 111, 110, 110, 101, 99, 116, 105, 111, 110, 58, 32, 99, 108, 111, 115, 101, 13, 10]⟩ : ByteArray)).size + 2 ≤ 9223372036854775807 then (if (((((((t115 ++ t116) ++ (⟨#[13, 10]⟩ : ByteArray)) ++ (⟨#[67, 111, 110, 116, 101, 110, 116, 45, 76, 101, 110, 103, 116, 104, 58, 32]⟩ : ByteArray)) ++ t117) ++ (⟨#[13, 10]⟩ : ByteArray)) ++ (⟨#[67, 111, 110, 110, 101, 99, 116, 105, 111, 110, 58, 32, 99, 108, 111, 115, 101, 13, 10]⟩ : ByteArray)) ++ (⟨#[13, 10]⟩ : ByteArray)).size + a1.size ≤ 9223372036854775807 then (some ((((((((t115 ++ t116) ++ (⟨#[13, 10]⟩ : ByteArray)) ++ (⟨#[67, 111, 110, 116, 101, 110, 116, 45, 76, 101, 110, 103, 116, 104, 58, 32]⟩ : ByteArray)) ++ t117) ++ (⟨#[13, 10]⟩ : ByteArray)) ++ (⟨#[67, 111, 110, 110, 101, 99, 116, 105, 111, 110, 58, 32, 99, 108, 111, 115, 101, 13, 10]⟩ : ByteArray)) ++ (⟨#[13, 10]⟩ : ByteArray)) ++ a1)) else (none)) else (none)) else (none)) else (if (((((t115 ++ t116) ++ (⟨#[13, 10]⟩ : ByteArray)) ++ (⟨#[67, 111, 110, 116, 101, 110, 116, 45, 76, 101, 110, 103, 116, 104, 58, 32]⟩ : ByteArray)) ++ t117) ++ (⟨#[13, 10]⟩ : ByteArray)).size + 2 ≤ 9223372036854775807 then (if ((((((t115 ++ t116) ++ (⟨#[13, 10]⟩ : ByteArray)) ++ (⟨#[67, 111, 110, 116, 101, 110, 116, 45, 76, 101, 110, 103, 116, 104, 58, 32]⟩ : ByteArray)) ++ t117) ++ (⟨#[13, 10]⟩ : ByteArray)) ++ (⟨#[13, 10]⟩ : ByteArray)).size + a1.size ≤ 9223372036854775807 then (some (((((((t115 ++ t116) ++ (⟨#[13, 10]⟩ : ByteArray)) ++ (⟨#[67, 111, 110, 116, 101, 110, 116, 45, 76, 101, 110, 103, 116, 104, 58, 32]⟩ : ByteArray)) ++ t117) ++ (⟨#[13, 10]⟩ : ByteArray)) ++ (⟨#[13, 10]⟩ : ByteArray)) ++ a1)) else (none)) else (none))) else (none)) else (none))) else (none)) else (none)) else (none))) = some r := H
  have A4 := Aside0.mk A40
  clear A40
  replace H := Option.bind_eq_some_iff.mp H
  obtain ⟨t116, A50, H⟩ := H
  replace H : (if t115.size + t116.size ≤ 9223372036854775807 then (if (t115 ++ t116).size + 2 ≤ 9223372036854775807 then (if ((t115 ++ t116) ++ (⟨#[13, 10]⟩ : ByteArray)).size + 16 ≤ 9223372036854775807 then ((strconv_Itoa_70.f (a1.size : Int)).bind fun t117 => (if (((t115 ++ t116) ++ (⟨#[13, 10]⟩ : ByteArray)) ++ (⟨#[67, 111, 110, 116, 101, 110, 116, 45, 76, 101, 110, 103, 116, 104, 58, 32]⟩ : ByteArray)).size + t117.size ≤ 9223372036854775807 then (if ((((t115 ++ t116) ++ (⟨#[13, 10]⟩ : ByteArray)) ++ (⟨#[67, 111, 110, 116, 101, 110, 116, 45, 76, 101, 110, 103, 116, 104, 58, 32]⟩ : ByteArray)) ++ t117).size + 2 ≤ 9223372036854775807 then (if a2 = true then (if (((((t115 ++ t116) ++ (⟨#[13, 10]⟩ : ByteArray)) ++ (⟨#[67, 111, 110, 116, 101, 110, 116, 45, 76, 101, 110, 103, 116, 104, 58, 32]⟩ : ByteArray)) ++ t117) ++ (⟨#[13, 10]⟩ : ByteArray)).size + 19 ≤ 9223372036854775807 then (if ((((((t115 ++ t116) ++ (⟨#[13, 10]⟩ : ByteArray)) ++ (⟨#[67, 111, 110, 116, 101, 110, 116, 45, 76, 101, 110, 103, 116, 104, 58, 32]⟩ : ByteArray)) ++ t117) ++ (⟨#[13, 10]⟩ : ByteArray)) ++ (⟨#[67, 111, 110, 110, 101, 99, 116, 105, 111, 110, 58, 32, 99, 108, 111, 115, 101, 13, 10]⟩ : ByteArray)).size + 2 ≤ 9223372036854775807 then (if (((((((t115 ++ t116) ++ (⟨#[13, 10]⟩ : ByteArray)) ++ (⟨#[67, 111, 110, 116, 101, 110, 116, 45, 76, 101, 110, 103, 116, 104, 58, 32]⟩ : ByteArray)) ++ t117) ++ (⟨#[13, 10]⟩ : ByteArray)) ++ (⟨#[67, 111, 110, 110, 101, 99, 116, 105, 111, 110, 58, 32, 99, 108, 111, 115, 101, 13, 10]⟩ : ByteArray)) ++ (⟨#[13, 10]⟩ : ByteArray)).size + a1.size ≤ 9223372036854775807 then (some ((((((((t115 ++ t116) ++ (⟨#[13, 10]⟩ : ByteArray)) ++ (⟨#[67, 111, 110, 116, 101, 110, 116, 45, 76, 101, 110, 103, 116, 104, 58, 32]⟩ : ByteArray)) ++ t117) ++ (⟨#[13, 10]⟩ : ByteArray)) ++ (⟨#[67, 111, 110, 110, 101, 99, 116, 105, 111, 110, 58, 32, 99, 108, 111, 115, 101, 13, 10]⟩ : ByteArray)) ++ (⟨#[13, 10]⟩ : ByteArray)) ++ a1)) else (none)) else (none)) else (none)) else (if (((((t115 ++ t116) ++ (⟨#[13, 10]⟩ : ByteArray)) ++ (⟨#[67, 111, 110, 116, 101, 110, 116, 45, 76, 101, 110, 103, 116, 104, 58, 32]⟩ : ByteArray)) ++ t117) ++ (⟨#[13, 10]⟩ : ByteArray)).size + 2 ≤ 9223372036854775807 then (if ((((((t115 ++ t116) ++ (⟨#[13, 10]⟩ : ByteArray)) ++ (⟨#[67, 111, 110, 116, 101, 110, 116, 45, 76, 101, 110, 103, 116, 104, 58, 32]⟩ : ByteArray)) ++ t117) ++ (⟨#[13, 10]⟩ : ByteArray)) ++ (⟨#[13, 10]⟩ : ByteArray)).size + a1.size ≤ 9223372036854775807 then (some (((((((t115 ++ t116) ++ (⟨#[13, 10]⟩ : ByteArray)) ++ (⟨#[67, 111, 110, 116, 101, 110, 116, 45, 76, 101, 110, 103, 116, 104, 58, 32]⟩ : ByteArray)) ++ t117) ++ (⟨#[13, 10]⟩ : ByteArray)) ++ (⟨#[13, 10]⟩ : ByteArray)) ++ a1)) else (none)) else (none))) else (none)) else (none))) else (none)) else (none)) else (none)) = some r := H
  have A5 := Aside0.mk A50
  clear A50
  by_cases c6 : t115.size + t116.size ≤ 9223372036854775807
  · rw [if_pos c6] at H
    have c6b0 := eq_true c6
    have c6b1 : decide (t115.size + t116.size ≤ 9223372036854775807) = true := decide_eq_true c6
    try have c6b2 : (9223372036854775807 < t115.size + t116.size) = False := eq_false (Nat.not_lt.2 c6)
    by_cases c7 : (t115 ++ t116).size + 2 ≤ 9223372036854775807
    · rw [if_pos c7] at H
      have c7b0 := eq_true c7
      have c7b1 : decide ((t115 ++ t116).size + 2 ≤ 9223372036854775807) = true := decide_eq_true c7
      have c7b7_ : t115.size + t116.size + 2 ≤ 9223372036854775807 := by have h_ := c7; simp only [ByteArray.size_append] at h_; omega
      have c7b8 : decide (t115.size + t116.size + 2 ≤ 9223372036854775807) = true := decide_eq_true c7b7_
      have c7b9 : (9223372036854775807 < t115.size + t116.size + 2) = False := eq_false (Nat.not_lt.2 c7b7_)
      have c7b7 := eq_true c7b7_
      clear c7b7_
      try have c7b2 : (9223372036854775807 < (t115 ++ t116).size + 2) = False := eq_false (Nat.not_lt.2 c7)
      by_cases c8 : ((t115 ++ t116) ++ (⟨#[13, 10]⟩ : ByteArray)).size + 16 ≤ 9223372036854775807
      · rw [if_pos c8] at H
        have c8b0 := eq_true c8
        have c8b1 : decide (((t115 ++ t116) ++ (⟨#[13, 10]⟩ : ByteArray)).size + 16 ≤ 9223372036854775807) = true := decide_eq_true c8
        have c8b7_ : t115.size + t116.size + 2 + 16 ≤ 9223372036854775807 := by have h_ := c8; have e0_ : (⟨#[13, 10]⟩ : ByteArray).size = 2 := rfl; simp only [ByteArray.size_append] at h_; omega
        have c8b8 : decide (t115.size + t116.size + 2 + 16 ≤ 9223372036854775807) = true := decide_eq_true c8b7_
        have c8b9 : (9223372036854775807 < t115.size + t116.size + 2 + 16) = False := eq_false (Nat.not_lt.2 c8b7_)
        have c8b7 := eq_true c8b7_
        clear c8b7_
        try have c8b2 : (9223372036854775807 < ((t115 ++ t116) ++ (⟨#[13, 10]⟩ : ByteArray)).size + 16) = False := eq_false (Nat.not_lt.2 c8)
        replace H := Option.bind_eq_some_iff.mp H
        obtain ⟨t117, A90, H⟩ := H
        replace H : (if (((t115 ++ t116) ++ (⟨#[13, 10]⟩ : ByteArray)) ++ (⟨#[67, 111, 110, 116, 101, 110, 116, 45, 76, 101, 110, 103, 116, 104, 58, 32]⟩ : ByteArray)).size + t117.size ≤ 9223372036854775807 then (if ((((t115 ++ t116) ++ (⟨#[13, 10]⟩ : ByteArray)) ++ (⟨#[67, 111, 110, 116, 101, 110, 116, 45, 76, 101, 110, 103, 116, 104, 58, 32]⟩ : ByteArray)) ++ t117).size + 2 ≤ 9223372036854775807 then (if a2 = true then (if (((((t115 ++ t116) ++ (⟨#[13, 10]⟩ : ByteArray)) ++ (⟨#[67, 111, 110, 116, 101, 110, 116, 45, 76, 101, 110, 103, 116, 104, 58, 32]⟩ : ByteArray)) ++ t117) ++ (⟨#[13, 10]⟩ : ByteArray)).size + 19 ≤ 9223372036854775807 then (if ((((((t115 ++ t116) ++ (⟨#[13, 10]⟩ : ByteArray)) ++ (⟨#[67, 111, 110, 116, 101, 110, 116, 45, 76, 101, 110, 103, 116, 104, 58, 32]⟩ : ByteArray)) ++ t117) ++ (⟨#[13, 10]⟩ : ByteArray)) ++ (⟨#[67, 111, 110, 110, 101, 99, 116, 105, 111, 110, 58, 32, 99, 108, 111, 115, 101, 13, 10]⟩ : ByteArray)).size + 2 ≤ 9223372036854775807 then (if (((((((t115 ++ t116) ++ (⟨#[13, 10]⟩ : ByteArray)) ++ (⟨#[67, 111, 110, 116, 101, 110, 116, 45, 76, 101, 110, 103, 116, 104, 58, 32]⟩ : ByteArray)) ++ t117) ++ (⟨#[13, 10]⟩ : ByteArray)) ++ (⟨#[67, 111, 110, 110, 101, 99, 116, 105, 111, 110, 58, 32, 99, 108, 111, 115, 101, 13, 10]⟩ : ByteArray)) ++ (⟨#[13, 10]⟩ : ByteArray)).size + a1.size ≤ 9223372036854775807 then (some ((((((((t115 ++ t116) ++ (⟨#[13, 10]⟩ : ByteArray)) ++ (⟨#[67, 111, 110, 116, 101, 110, 116, 45, 76, 101, 110, 103, 116, 104, 58, 32]⟩ : ByteArray)) ++ t117) ++ (⟨#[13, 10]⟩ : ByteArray)) ++ (⟨#[67, 111, 110, 110, 101, 99, 116, 105, 111, 110, 58, 32, 99, 108, 111, 115, 101, 13, 10]⟩ : ByteArray)) ++ (⟨#[13, 10]⟩ : ByteArray)) ++ a1)) else (none)) else (none)) else (none)) else (if (((((t115 ++ t116) ++ (⟨#[13, 10]⟩ : ByteArray)) ++ (⟨#[67, 111, 110, 116, 101, 110, 116, 45, 76, 101, 110, 103, 116, 104, 58, 32]⟩ : ByteArray)) ++ t117) ++ (⟨#[13, 10]⟩ : ByteArray)).size + 2 ≤ 9223372036854775807 then (if ((((((t115 ++ t116) ++ (⟨#[13, 10]⟩ : ByteArray)) ++ (⟨#[67, 111, 110, 116, 101, 110, 116, 45, 76, 101, 110, 103, 116, 104, 58, 32]⟩ : ByteArray)) ++ t117) ++ (⟨#[13, 10]⟩ : ByteArray)) ++ (⟨#[13, 10]⟩ : ByteArray)).size + a1.size ≤ 9223372036854775807 then (some (((((((t115 ++ t116) ++ (⟨#[13, 10]⟩ : ByteArray)) ++ (⟨#[67, 111, 110, 116, 101, 110, 116, 45, 76, 101, 110, 103, 116, 104, 58, 32]⟩ : ByteArray)) ++ t117) ++ (⟨#[13, 10]⟩ : ByteArray)) ++ (⟨#[13, 10]⟩ : ByteArray)) ++ a1)) else (none)) else (none))) else (none)) else (none)) = some r := H
        have A9 := Aside0.mk A90
        clear A90
        by_cases c10 : (((t115 ++ t116) ++ (⟨#[13, 10]⟩ : ByteArray)) ++ (⟨#[67, 111, 110, 116, 101, 110, 116, 45, 76, 101, 110, 103, 116, 104, 58, 32]⟩ : ByteArray)).size + t117.size ≤ 9223372036854775807
        · rw [if_pos c10] at H
          have c10b0 := eq_true c10
          have c10b1 : decide ((((t115 ++ t116) ++ (⟨#[13, 10]⟩ : ByteArray)) ++ (⟨#[67, 111, 110, 116, 101, 110, 116, 45, 76, 101, 110, 103, 116, 104, 58, 32]⟩ : ByteArray)).size + t117.size ≤ 9223372036854775807) = true := decide_eq_true c10
          have c10b7_ : t115.size + t116.size + 2 + 16 + t117.size ≤ 9223372036854775807 := by have h_ := c10; have e0_ : (⟨#[13, 10]⟩ : ByteArray).size = 2 := rfl; have e1_ : (⟨#[67, 111, 110, 116, 101, 110, 116, 45, 76, 101, 110, 103, 116, 104, 58, 32]⟩ : ByteArray).size = 16 := rfl; simp only [ByteArray.size_append] at h_; omega
          have c10b8 : decide (t115.size + t116.size + 2 + 16 + t117.size ≤ 9223372036854775807) = true := decide_eq_true c10b7_
          have c10b9 : (9223372036854775807 < t115.size + t116.size + 2 + 16 + t117.size) = False := eq_false (Nat.not_lt.2 c10b7_)
          have c10b7 := eq_true c10b7_
          clear c10b7_
          try have c10b2 : (9223372036854775807 < (((t115 ++ t116) ++ (⟨#[13, 10]⟩ : ByteArray)) ++ (⟨#[67, 111, 110, 116, 101, 110, 116, 45, 76, 101, 110, 103, 116, 104, 58, 32]⟩ : ByteArray)).size + t117.size) = False := eq_false (Nat.not_lt.2 c10)
          by_cases c11 : ((((t115 ++ t116) ++ (⟨#[13, 10]⟩ : ByteArray)) ++ (⟨#[67, 111, 110, 116, 101, 110, 116, 45, 76, 101, 110, 103, 116, 104, 58, 32]⟩ : ByteArray)) ++ t117).size + 2 ≤ 9223372036854775807
          · rw [if_pos c11] at H
            have c11b0 := eq_true c11
            have c11b1 : decide (((((t115 ++ t116) ++ (⟨#[13, 10]⟩ : ByteArray)) ++ (⟨#[67, 111, 110, 116, 101, 110, 116, 45, 76, 101, 110, 103, 116, 104, 58, 32]⟩ : ByteArray)) ++ t117).size + 2 ≤ 9223372036854775807) = true := decide_eq_true c11
            have c11b7_ : t115.size + t116.size + 2 + 16 + t117.size + 2 ≤ 9223372036854775807 := by have h_ := c11; have e0_ : (⟨#[13, 10]⟩ : ByteArray).size = 2 := rfl; have e1_ : (⟨#[67, 111, 110, 116, 101, 110, 116, 45, 76, 101, 110, 103, 116, 104, 58, 32]⟩ : ByteArray).size = 16 := rfl; simp only [ByteArray.size_append] at h_; omega
            have c11b8 : decide (t115.size + t116.size + 2 + 16 + t117.size + 2 ≤ 9223372036854775807) = true := decide_eq_true c11b7_
            have c11b9 : (9223372036854775807 < t115.size + t116.size + 2 + 16 + t117.size + 2) = False := eq_false (Nat.not_lt.2 c11b7_)
            have c11b7 := eq_true c11b7_
            clear c11b7_
            try have c11b2 : (9223372036854775807 < ((((t115 ++ t116) ++ (⟨#[13, 10]⟩ : ByteArray)) ++ (⟨#[67, 111, 110, 116, 101, 110, 116, 45, 76, 101, 110, 103, 116, 104, 58, 32]⟩ : ByteArray)) ++ t117).size + 2) = False := eq_false (Nat.not_lt.2 c11)
            by_cases c12 : a2 = true
            · subst c12
              have H1 : (if (((((t115 ++ t116) ++ (⟨#[13, 10]⟩ : ByteArray)) ++ (⟨#[67, 111, 110, 116, 101, 110, 116, 45, 76, 101, 110, 103, 116, 104, 58, 32]⟩ : ByteArray)) ++ t117) ++ (⟨#[13, 10]⟩ : ByteArray)).size + 19 ≤ 9223372036854775807 then (if ((((((t115 ++ t116) ++ (⟨#[13, 10]⟩ : ByteArray)) ++ (⟨#[67, 111, 110, 116, 101, 110, 116, 45, 76, 101, 110, 103, 116, 104, 58, 32]⟩ : ByteArray)) ++ t117) ++ (⟨#[13, 10]⟩ : ByteArray)) ++ (⟨#[67, 111, 110, 110, 101, 99, 116, 105, 111, 110, 58, 32, 99, 108, 111, 115, 101, 13, 10]⟩ : ByteArray)).size + 2 ≤ 9223372036854775807 then (if (((((((t115 ++ t116) ++ (⟨#[13, 10]⟩ : ByteArray)) ++ (⟨#[67, 111, 110, 116, 101, 110, 116, 45, 76, 101, 110, 103, 116, 104, 58, 32]⟩ : ByteArray)) ++ t117) ++ (⟨#[13, 10]⟩ : ByteArray)) ++ (⟨#[67, 111, 110, 110, 101, 99, 116, 105, 111, 110, 58, 32, 99, 108, 111, 115, 101, 13, 10]⟩ : ByteArray)) ++ (⟨#[13, 10]⟩ : ByteArray)).size + a1.size ≤ 9223372036854775807 then (some ((((((((t115 ++ t116) ++ (⟨#[13, 10]⟩ : ByteArray)) ++ (⟨#[67, 111, 110, 116, 101, 110, 116, 45, 76, 101, 110, 103, 116, 104, 58, 32]⟩ : ByteArray)) ++ t117) ++ (⟨#[13, 10]⟩ : ByteArray)) ++ (⟨#[67, 111, 110, 110, 101, 99, 116, 105, 111, 110, 58, 32, 99, 108, 111, 115, 101, 13, 10]⟩ : ByteArray)) ++ (⟨#[13, 10]⟩ : ByteArray)) ++ a1)) else (none)) else (none)) else (none)) = some r := by rw [if_pos rfl] at H; exact H
              clear H
              have H := H1
              clear H1
              by_cases c13 : (((((t115 ++ t116) ++ (⟨#[13, 10]⟩ : ByteArray)) ++ (⟨#[67, 111, 110, 116, 101, 110, 116, 45, 76, 101, 110, 103, 116, 104, 58, 32]⟩ : ByteArray)) ++ t117) ++ (⟨#[13, 10]⟩ : ByteArray)).size + 19 ≤ 9223372036854775807
              · rw [if_pos c13] at H
                have c13b0 := eq_true c13
                have c13b1 : decide ((((((t115 ++ t116) ++ (⟨#[13, 10]⟩ : ByteArray)) ++ (⟨#[67, 111, 110, 116, 101, 110, 116, 45, 76, 101, 110, 103, 116, 104, 58, 32]⟩ : ByteArray)) ++ t117) ++ (⟨#[13, 10]⟩ : ByteArray)).size + 19 ≤ 9223372036854775807) = true := decide_eq_true c13
                have c13b7_ : t115.size + t116.size + 2 + 16 + t117.size + 2 + 19 ≤ 9223372036854775807 := by have h_ := c13; have e0_ : (⟨#[13, 10]⟩ : ByteArray).size = 2 := rfl; have e1_ : (⟨#[67, 111, 110, 116, 101, 110, 116, 45, 76, 101, 110, 103, 116, 104, 58, 32]⟩ : ByteArray).size = 16 := rfl; simp only [ByteArray.size_append] at h_; omega
                have c13b8 : decide (t115.size + t116.size + 2 + 16 + t117.size + 2 + 19 ≤ 9223372036854775807) = true := decide_eq_true c13b7_
                have c13b9 : (9223372036854775807 < t115.size + t116.size + 2 + 16 + t117.size + 2 + 19) = False := eq_false (Nat.not_lt.2 c13b7_)
                have c13b7 := eq_true c13b7_
                clear c13b7_
                try have c13b2 : (9223372036854775807 < (((((t115 ++ t116) ++ (⟨#[13, 10]⟩ : ByteArray)) ++ (⟨#[67, 111, 110, 116, 101, 110, 116, 45, 76, 101, 110, 103, 116, 104, 58, 32]⟩ : ByteArray)) ++ t117) ++ (⟨#[13, 10]⟩ : ByteArray)).size + 19) = False := eq_false (Nat.not_lt.2 c13)
                by_cases c14 : ((((((t115 ++ t116) ++ (⟨#[13, 10]⟩ : ByteArray)) ++ (⟨#[67, 111, 110, 116, 101, 110, 116, 45, 76, 101, 110, 103, 116, 104, 58, 32]⟩ : ByteArray)) ++ t117) ++ (⟨#[13, 10]⟩ : ByteArray)) ++ (⟨#[67, 111, 110, 110, 101, 99, 116, 105, 111, 110, 58, 32, 99, 108, 111, 115, 101, 13, 10]⟩ : ByteArray)).size + 2 ≤ 9223372036854775807
                · rw [if_pos c14] at H
                  have c14b0 := eq_true c14
                  have c14b1 : decide (((((((t115 ++ t116) ++ (⟨#[13, 10]⟩ : ByteArray)) ++ (⟨#[67, 111, 110, 116, 101, 110, 116, 45, 76, 101, 110, 103, 116, 104, 58, 32]⟩ : ByteArray)) ++ t117) ++ (⟨#[13, 10]⟩ : ByteArray)) ++ (⟨#[67, 111, 110, 110, 101, 99, 116, 105, 111, 110, 58, 32, 99, 108, 111, 115, 101, 13, 10]⟩ : ByteArray)).size + 2 ≤ 9223372036854775807) = true := decide_eq_true c14
                  have c14b7_ : t115.size + t116.size + 2 + 16 + t117.size + 2 + 19 + 2 ≤ 9223372036854775807 := by have h_ := c14; have e0_ : (⟨#[13, 10]⟩ : ByteArray).size = 2 := rfl; have e1_ : (⟨#[67, 111, 110, 116, 101, 110, 116, 45, 76, 101, 110, 103, 116, 104, 58, 32]⟩ : ByteArray).size = 16 := rfl; have e2_ : (⟨#[67, 111, 110, 110, 101, 99, 116, 105, 111, 110, 58, 32, 99, 108, 111, 115, 101, 13, 10]⟩ : ByteArray).size = 19 := rfl; simp only [ByteArray.size_append] at h_; omega
                  have c14b8 : decide (t115.size + t116.size + 2 + 16 + t117.size + 2 + 19 + 2 ≤ 9223372036854775807) = true := decide_eq_true c14b7_
                  have c14b9 : (9223372036854775807 < t115.size + t116.size + 2 + 16 + t117.size + 2 + 19 + 2) = False := eq_false (Nat.not_lt.2 c14b7_)
                  have c14b7 := eq_true c14b7_
                  clear c14b7_
                  try have c14b2 : (9223372036854775807 < ((((((t115 ++ t116) ++ (⟨#[13, 10]⟩ : ByteArray)) ++ (⟨#[67, 111, 110, 116, 101, 110, 116, 45, 76, 101, 110, 103, 116, 104, 58, 32]⟩ : ByteArray)) ++ t117) ++ (⟨#[13, 10]⟩ : ByteArray)) ++ (⟨#[67, 111, 110, 110, 101, 99, 116, 105, 111, 110, 58, 32, 99, 108, 111, 115, 101, 13, 10]⟩ : ByteArray)).size + 2) = False := eq_false (Nat.not_lt.2 c14)
                  by_cases c15 : (((((((t115 ++ t116) ++ (⟨#[13, 10]⟩ : ByteArray)) ++ (⟨#[67, 111, 110, 116, 101, 110, 116, 45, 76, 101, 110, 103, 116, 104, 58, 32]⟩ : ByteArray)) ++ t117) ++ (⟨#[13, 10]⟩ : ByteArray)) ++ (⟨#[67, 111, 110, 110, 101, 99, 116, 105, 111, 110, 58, 32, 99, 108, 111, 115, 101, 13, 10]⟩ : ByteArray)) ++ (⟨#[13, 10]⟩ : ByteArray)).size + a1.size ≤ 9223372036854775807
                  · rw [if_pos c15] at H
                    have c15b0 := eq_true c15
                    have c15b1 : decide ((((((((t115 ++ t116) ++ (⟨#[13, 10]⟩ : ByteArray)) ++ (⟨#[67, 111, 110, 116, 101, 110, 116, 45, 76, 101, 110, 103, 116, 104, 58, 32]⟩ : ByteArray)) ++ t117) ++ (⟨#[13, 10]⟩ : ByteArray)) ++ (⟨#[67, 111, 110, 110, 101, 99, 116, 105, 111, 110, 58, 32, 99, 108, 111, 115, 101, 13, 10]⟩ : ByteArray)) ++ (⟨#[13, 10]⟩ : ByteArray)).size + a1.size ≤ 9223372036854775807) = true := decide_eq_true c15
                    have c15b7_ : t115.size + t116.size + 2 + 16 + t117.size + 2 + 19 + 2 + a1.size ≤ 9223372036854775807 := by have h_ := c15; have e0_ : (⟨#[13, 10]⟩ : ByteArray).size = 2 := rfl; have e1_ : (⟨#[67, 111, 110, 116, 101, 110, 116, 45, 76, 101, 110, 103, 116, 104, 58, 32]⟩ : ByteArray).size = 16 := rfl; have e2_ : (⟨#[67, 111, 110, 110, 101, 99, 116, 105, 111, 110, 58, 32, 99, 108, 111, 115, 101, 13, 10]⟩ : ByteArray).size = 19 := rfl; simp only [ByteArray.size_append] at h_; omega
                    have c15b8 : decide (t115.size + t116.size + 2 + 16 + t117.size + 2 + 19 + 2 + a1.size ≤ 9223372036854775807) = true := decide_eq_true c15b7_
                    have c15b9 : (9223372036854775807 < t115.size + t116.size + 2 + 16 + t117.size + 2 + 19 + 2 + a1.size) = False := eq_false (Nat.not_lt.2 c15b7_)
                    have c15b7 := eq_true c15b7_
                    clear c15b7_
                    try have c15b2 : (9223372036854775807 < (((((((t115 ++ t116) ++ (⟨#[13, 10]⟩ : ByteArray)) ++ (⟨#[67, 111, 110, 116, 101, 110, 116, 45, 76, 101, 110, 103, 116, 104, 58, 32]⟩ : ByteArray)) ++ t117) ++ (⟨#[13, 10]⟩ : ByteArray)) ++ (⟨#[67, 111, 110, 110, 101, 99, 116, 105, 111, 110, 58, 32, 99, 108, 111, 115, 101, 13, 10]⟩ : ByteArray)) ++ (⟨#[13, 10]⟩ : ByteArray)).size + a1.size) = False := eq_false (Nat.not_lt.2 c15)
                    obtain rfl := Option.some.inj H
                    go_enter Tryd.func43, Tryd.ntmps43
                    go_wp2_with (first | ((with_reducible refine gate_callee (f := 69) rfl ?_); refine goesL_ (some 9) rfl rfl Tryd.func69 (by kernel_rfl) rfl #[.int .i64 a0] rfl (by (try simp only [List.map_toArray, List.map_cons, List.map_nil]); first | done | rfl | (simp only [List.length_drop, List.length_take]; rfl)) ?_; (with_reducible refine (impl_statusHead.calls a0 t115 _ ?side1 A4.out).mono ?_); (case side1 => exact My.tab_below hG (by repeat (first | (with_reducible first | exact HB.out | apply below_alloc | apply pw_below_drewN | apply below_drew1) | exact HB.out))); rintro e w16 ⟨rfl, hb⟩; refine ⟨_, rfl, ?_⟩; have n0_ := Aside0.mk (below_step (by repeat (first | (with_reducible first | exact HB.out | apply below_alloc | apply pw_below_drewN | apply below_drew1) | exact HB.out)) hb); clear HB; have HB := n0_; clear n0_; (try clear hb); (try clear hb2); (try clear hk); (try clear hi)) | ((with_reducible refine gate_callee (f := 42) rfl ?_); refine goesL_ (some 11) rfl rfl Tryd.func42 (by kernel_rfl) rfl #[.int .i64 a0] rfl (by (try simp only [List.map_toArray, List.map_cons, List.map_nil]); first | done | rfl | (simp only [List.length_drop, List.length_take]; rfl)) ?_; (with_reducible refine (impl_StatusWord.calls a0 t116 _ A5.out).mono ?_); rintro e w' ⟨rfl, ⟨nd, rfl⟩⟩; refine ⟨_, rfl, ?_⟩) | ((with_reducible refine gate_callee (f := 70) rfl ?_); refine goesL_ (some 17) rfl rfl Tryd.func70 (by kernel_rfl) rfl #[.int .i64 (a1.size : Int)] rfl (by (try simp only [List.map_toArray, List.map_cons, List.map_nil]); first | done | rfl | (simp only [List.length_drop, List.length_take]; rfl)) ?_; (with_reducible refine (strconv_Itoa_70.calls (a1.size : Int) t117 _ ?side1 A9.out).mono ?_); (case side1 => exact My.tab_below hG (by repeat (first | (with_reducible first | exact HB.out | apply below_alloc | apply pw_below_drewN | apply below_drew1) | exact HB.out))); rintro e w17 ⟨rfl, hb⟩; refine ⟨_, rfl, ?_⟩; have n0_ := Aside0.mk (below_step (by repeat (first | (with_reducible first | exact HB.out | apply below_alloc | apply pw_below_drewN | apply below_drew1) | exact HB.out)) hb); clear HB; have HB := n0_; clear n0_; (try clear hb); (try clear hb2); (try clear hk); (try clear hi)))
                    go_ret
                    exact ⟨by first | rfl | exact My.ret_isEmpty _ | (simp [errW_none, errW_some] <;> rfl) | (simp [*, errW_none, errW_some] <;> rfl), by repeat (first | (with_reducible first | exact HB.out | apply below_alloc | apply pw_below_drewN | apply below_drew1) | exact HB.out)⟩
                  · rw [if_neg c15] at H
                    exact absurd H (by simp)
                · rw [if_neg c14] at H
                  exact absurd H (by simp)
              · rw [if_neg c13] at H
                exact absurd H (by simp)
            · replace c12 := Bool.eq_false_iff.mpr c12
              subst c12
              have H1 : (if (((((t115 ++ t116) ++ (⟨#[13, 10]⟩ : ByteArray)) ++ (⟨#[67, 111, 110, 116, 101, 110, 116, 45, 76, 101, 110, 103, 116, 104, 58, 32]⟩ : ByteArray)) ++ t117) ++ (⟨#[13, 10]⟩ : ByteArray)).size + 2 ≤ 9223372036854775807 then (if ((((((t115 ++ t116) ++ (⟨#[13, 10]⟩ : ByteArray)) ++ (⟨#[67, 111, 110, 116, 101, 110, 116, 45, 76, 101, 110, 103, 116, 104, 58, 32]⟩ : ByteArray)) ++ t117) ++ (⟨#[13, 10]⟩ : ByteArray)) ++ (⟨#[13, 10]⟩ : ByteArray)).size + a1.size ≤ 9223372036854775807 then (some (((((((t115 ++ t116) ++ (⟨#[13, 10]⟩ : ByteArray)) ++ (⟨#[67, 111, 110, 116, 101, 110, 116, 45, 76, 101, 110, 103, 116, 104, 58, 32]⟩ : ByteArray)) ++ t117) ++ (⟨#[13, 10]⟩ : ByteArray)) ++ (⟨#[13, 10]⟩ : ByteArray)) ++ a1)) else (none)) else (none)) = some r := by rw [if_neg (show ¬ (false = true) by decide)] at H; exact H
              clear H
              have H := H1
              clear H1
              by_cases c18 : (((((t115 ++ t116) ++ (⟨#[13, 10]⟩ : ByteArray)) ++ (⟨#[67, 111, 110, 116, 101, 110, 116, 45, 76, 101, 110, 103, 116, 104, 58, 32]⟩ : ByteArray)) ++ t117) ++ (⟨#[13, 10]⟩ : ByteArray)).size + 2 ≤ 9223372036854775807
              · rw [if_pos c18] at H
                have c18b0 := eq_true c18
                have c18b1 : decide ((((((t115 ++ t116) ++ (⟨#[13, 10]⟩ : ByteArray)) ++ (⟨#[67, 111, 110, 116, 101, 110, 116, 45, 76, 101, 110, 103, 116, 104, 58, 32]⟩ : ByteArray)) ++ t117) ++ (⟨#[13, 10]⟩ : ByteArray)).size + 2 ≤ 9223372036854775807) = true := decide_eq_true c18
                have c18b7_ : t115.size + t116.size + 2 + 16 + t117.size + 2 + 2 ≤ 9223372036854775807 := by have h_ := c18; have e0_ : (⟨#[13, 10]⟩ : ByteArray).size = 2 := rfl; have e1_ : (⟨#[67, 111, 110, 116, 101, 110, 116, 45, 76, 101, 110, 103, 116, 104, 58, 32]⟩ : ByteArray).size = 16 := rfl; simp only [ByteArray.size_append] at h_; omega
                have c18b8 : decide (t115.size + t116.size + 2 + 16 + t117.size + 2 + 2 ≤ 9223372036854775807) = true := decide_eq_true c18b7_
                have c18b9 : (9223372036854775807 < t115.size + t116.size + 2 + 16 + t117.size + 2 + 2) = False := eq_false (Nat.not_lt.2 c18b7_)
                have c18b7 := eq_true c18b7_
                clear c18b7_
                try have c18b2 : (9223372036854775807 < (((((t115 ++ t116) ++ (⟨#[13, 10]⟩ : ByteArray)) ++ (⟨#[67, 111, 110, 116, 101, 110, 116, 45, 76, 101, 110, 103, 116, 104, 58, 32]⟩ : ByteArray)) ++ t117) ++ (⟨#[13, 10]⟩ : ByteArray)).size + 2) = False := eq_false (Nat.not_lt.2 c18)
                by_cases c19 : ((((((t115 ++ t116) ++ (⟨#[13, 10]⟩ : ByteArray)) ++ (⟨#[67, 111, 110, 116, 101, 110, 116, 45, 76, 101, 110, 103, 116, 104, 58, 32]⟩ : ByteArray)) ++ t117) ++ (⟨#[13, 10]⟩ : ByteArray)) ++ (⟨#[13, 10]⟩ : ByteArray)).size + a1.size ≤ 9223372036854775807
                · rw [if_pos c19] at H
                  have c19b0 := eq_true c19
                  have c19b1 : decide (((((((t115 ++ t116) ++ (⟨#[13, 10]⟩ : ByteArray)) ++ (⟨#[67, 111, 110, 116, 101, 110, 116, 45, 76, 101, 110, 103, 116, 104, 58, 32]⟩ : ByteArray)) ++ t117) ++ (⟨#[13, 10]⟩ : ByteArray)) ++ (⟨#[13, 10]⟩ : ByteArray)).size + a1.size ≤ 9223372036854775807) = true := decide_eq_true c19
                  have c19b7_ : t115.size + t116.size + 2 + 16 + t117.size + 2 + 2 + a1.size ≤ 9223372036854775807 := by have h_ := c19; have e0_ : (⟨#[13, 10]⟩ : ByteArray).size = 2 := rfl; have e1_ : (⟨#[67, 111, 110, 116, 101, 110, 116, 45, 76, 101, 110, 103, 116, 104, 58, 32]⟩ : ByteArray).size = 16 := rfl; simp only [ByteArray.size_append] at h_; omega
                  have c19b8 : decide (t115.size + t116.size + 2 + 16 + t117.size + 2 + 2 + a1.size ≤ 9223372036854775807) = true := decide_eq_true c19b7_
                  have c19b9 : (9223372036854775807 < t115.size + t116.size + 2 + 16 + t117.size + 2 + 2 + a1.size) = False := eq_false (Nat.not_lt.2 c19b7_)
                  have c19b7 := eq_true c19b7_
                  clear c19b7_
                  try have c19b2 : (9223372036854775807 < ((((((t115 ++ t116) ++ (⟨#[13, 10]⟩ : ByteArray)) ++ (⟨#[67, 111, 110, 116, 101, 110, 116, 45, 76, 101, 110, 103, 116, 104, 58, 32]⟩ : ByteArray)) ++ t117) ++ (⟨#[13, 10]⟩ : ByteArray)) ++ (⟨#[13, 10]⟩ : ByteArray)).size + a1.size) = False := eq_false (Nat.not_lt.2 c19)
                  obtain rfl := Option.some.inj H
                  go_enter Tryd.func43, Tryd.ntmps43
                  go_wp2_with (first | ((with_reducible refine gate_callee (f := 69) rfl ?_); refine goesL_ (some 9) rfl rfl Tryd.func69 (by kernel_rfl) rfl #[.int .i64 a0] rfl (by (try simp only [List.map_toArray, List.map_cons, List.map_nil]); first | done | rfl | (simp only [List.length_drop, List.length_take]; rfl)) ?_; (with_reducible refine (impl_statusHead.calls a0 t115 _ ?side1 A4.out).mono ?_); (case side1 => exact My.tab_below hG (by repeat (first | (with_reducible first | exact HB.out | apply below_alloc | apply pw_below_drewN | apply below_drew1) | exact HB.out))); rintro e w20 ⟨rfl, hb⟩; refine ⟨_, rfl, ?_⟩; have n0_ := Aside0.mk (below_step (by repeat (first | (with_reducible first | exact HB.out | apply below_alloc | apply pw_below_drewN | apply below_drew1) | exact HB.out)) hb); clear HB; have HB := n0_; clear n0_; (try clear hb); (try clear hb2); (try clear hk); (try clear hi)) | ((with_reducible refine gate_callee (f := 42) rfl ?_); refine goesL_ (some 11) rfl rfl Tryd.func42 (by kernel_rfl) rfl #[.int .i64 a0] rfl (by (try simp only [List.map_toArray, List.map_cons, List.map_nil]); first | done | rfl | (simp only [List.length_drop, List.length_take]; rfl)) ?_; (with_reducible refine (impl_StatusWord.calls a0 t116 _ A5.out).mono ?_); rintro e w' ⟨rfl, ⟨nd, rfl⟩⟩; refine ⟨_, rfl, ?_⟩) | ((with_reducible refine gate_callee (f := 70) rfl ?_); refine goesL_ (some 17) rfl rfl Tryd.func70 (by kernel_rfl) rfl #[.int .i64 (a1.size : Int)] rfl (by (try simp only [List.map_toArray, List.map_cons, List.map_nil]); first | done | rfl | (simp only [List.length_drop, List.length_take]; rfl)) ?_; (with_reducible refine (strconv_Itoa_70.calls (a1.size : Int) t117 _ ?side1 A9.out).mono ?_); (case side1 => exact My.tab_below hG (by repeat (first | (with_reducible first | exact HB.out | apply below_alloc | apply pw_below_drewN | apply below_drew1) | exact HB.out))); rintro e w21 ⟨rfl, hb⟩; refine ⟨_, rfl, ?_⟩; have n0_ := Aside0.mk (below_step (by repeat (first | (with_reducible first | exact HB.out | apply below_alloc | apply pw_below_drewN | apply below_drew1) | exact HB.out)) hb); clear HB; have HB := n0_; clear n0_; (try clear hb); (try clear hb2); (try clear hk); (try clear hi)))
                  go_ret
                  exact ⟨by first | rfl | exact My.ret_isEmpty _ | (simp [errW_none, errW_some] <;> rfl) | (simp [*, errW_none, errW_some] <;> rfl), by repeat (first | (with_reducible first | exact HB.out | apply below_alloc | apply pw_below_drewN | apply below_drew1) | exact HB.out)⟩
                · rw [if_neg c19] at H
                  exact absurd H (by simp)
              · rw [if_neg c18] at H
                exact absurd H (by simp)
          · rw [if_neg c11] at H
            exact absurd H (by simp)
        · rw [if_neg c10] at H
          exact absurd H (by simp)
      · rw [if_neg c8] at H
        exact absurd H (by simp)
    · rw [if_neg c7] at H
      exact absurd H (by simp)
  · rw [if_neg c6] at H
    exact absurd H (by simp)

/-! ### impl_ReplyText: function 12 -/
def impl_ReplyText.f (a0 : Int) (a1 : ByteArray) (a2 : Bool) : Option (ByteArray × Int) := if (a1.size : Int) > 65536 then (some ((⟨#[]⟩ : ByteArray), 2)) else ((impl_StatusWord.f a0).bind fun t118 => (if t118.toList = ([] : List UInt8) then (some ((⟨#[]⟩ : ByteArray), 4)) else (if (a1.size : Int) > 80 then (some ((⟨#[]⟩ : ByteArray), 4)) else ((impl_replyText.f a0 a1 a2).bind fun t119 => (some (t119, 0))))))
set_option maxHeartbeats 8000000 in
set_option maxRecDepth 100000 in
theorem impl_ReplyText.calls (a0 : Int) (a1 : ByteArray) (a2 : Bool) (r1 : ByteArray) (r2 : Int) (w : World) (hG : Aside0 (My.Tab w)) (h : impl_ReplyText.f a0 a1 a2 = some (r1, r2)) :
    Calls Tryd.prog 12 #[.int .i64 a0, .string a1, .bool a2] w fun e w' => e = .returned (.tuple #[.string r1, .int .i64 r2]) ∧ Below w.heap.size w w' := by
  have HB := Aside0.mk (Below.refl w.heap.size w)
  have H : (if (a1.size : Int) > 65536 then (some ((⟨#[]⟩ : ByteArray), 2)) else ((impl_StatusWord.f a0).bind fun t118 => (if t118.toList = ([] : List UInt8) then (some ((⟨#[]⟩ : ByteArray), 4)) else (if (a1.size : Int) > 80 then (some ((⟨#[]⟩ : ByteArray), 4)) else ((impl_replyText.f a0 a1 a2).bind fun t119 => (some (t119, 0))))))) = some (r1, r2) := h
  clear h
  by_cases c4 : (a1.size : Int) > 65536
  · rw [if_pos c4] at H
    have c4b0 : decide (65536 < (a1.size : Int)) = true := decide_eq_true c4
    have c4b1 : decide (65536 < a1.size) = true := decide_eq_true (by omega)
    clear c4
    simp only [Option.some.injEq, Prod.mk.injEq] at H
    obtain ⟨rfl, rfl⟩ := H
    go_enter Tryd.func12, Tryd.ntmps12
    go_wp2
    go_ret2
    exact ⟨by first | rfl | exact My.ret_isEmpty _ | (simp [errW_none, errW_some] <;> rfl) | (simp [*, errW_none, errW_some] <;> rfl), by repeat (first | (with_reducible first | exact HB.out | apply below_alloc | apply pw_below_drewN | apply below_drew1) | exact HB.out)⟩
  · rw [if_neg c4] at H
    have c4b0 : decide (65536 < (a1.size : Int)) = false := decide_eq_false c4
    have c4b1 : decide (65536 < a1.size) = false := decide_eq_false (by omega)
    clear c4
    replace H := Option.bind_eq_some_iff.mp H
    obtain ⟨t118, A50, H⟩ := H
    replace H : (if t118.toList = ([] : List UInt8) then (some ((⟨#[]⟩ : ByteArray), 4)) else (if (a1.size : Int) > 80 then (some ((⟨#[]⟩ : ByteArray), 4)) else ((impl_replyText.f a0 a1 a2).bind fun t119 => (some (t119, 0))))) = some (r1, r2) := H
    have A5 := Aside0.mk A50
    clear A50
    by_cases c6 : t118.toList = ([] : List UInt8)
    · rw [if_pos c6] at H
      have c6b0 : (t118.toList == ([] : List UInt8)) = true := beq_iff_eq.mpr c6
      have c6b1 : (t118.toList != ([] : List UInt8)) = false := bne_eq_false_iff_eq.mpr c6
      clear c6
      simp only [Option.some.injEq, Prod.mk.injEq] at H
      obtain ⟨rfl, rfl⟩ := H
      go_enter Tryd.func12, Tryd.ntmps12
      go_wp2_with (first | ((with_reducible refine gate_callee (f := 42) rfl ?_); refine goesL_ (some 14) rfl rfl Tryd.func42 (by kernel_rfl) rfl #[.int .i64 a0] rfl (by (try simp only [List.map_toArray, List.map_cons, List.map_nil]); first | done | rfl | (simp only [List.length_drop, List.length_take]; rfl)) ?_; (with_reducible refine (impl_StatusWord.calls a0 t118 _ A5.out).mono ?_); rintro e w' ⟨rfl, ⟨nd, rfl⟩⟩; refine ⟨_, rfl, ?_⟩))
      go_ret2
      exact ⟨by first | rfl | exact My.ret_isEmpty _ | (simp [errW_none, errW_some] <;> rfl) | (simp [*, errW_none, errW_some] <;> rfl), by repeat (first | (with_reducible first | exact HB.out | apply below_alloc | apply pw_below_drewN | apply below_drew1) | exact HB.out)⟩
    · rw [if_neg c6] at H
      have c6b0 : (t118.toList == ([] : List UInt8)) = false := beq_eq_false_iff_ne.mpr c6
      have c6b1 : (t118.toList != ([] : List UInt8)) = true := bne_iff_ne.mpr c6
      by_cases c7 : (a1.size : Int) > 80
      · rw [if_pos c7] at H
        have c7b0 : decide (80 < (a1.size : Int)) = true := decide_eq_true c7
        have c7b1 : decide (80 < a1.size) = true := decide_eq_true (by omega)
        clear c7
        simp only [Option.some.injEq, Prod.mk.injEq] at H
        obtain ⟨rfl, rfl⟩ := H
        go_enter Tryd.func12, Tryd.ntmps12
        go_wp2_with (first | ((with_reducible refine gate_callee (f := 42) rfl ?_); refine goesL_ (some 14) rfl rfl Tryd.func42 (by kernel_rfl) rfl #[.int .i64 a0] rfl (by (try simp only [List.map_toArray, List.map_cons, List.map_nil]); first | done | rfl | (simp only [List.length_drop, List.length_take]; rfl)) ?_; (with_reducible refine (impl_StatusWord.calls a0 t118 _ A5.out).mono ?_); rintro e w' ⟨rfl, ⟨nd, rfl⟩⟩; refine ⟨_, rfl, ?_⟩))
        go_ret2
        exact ⟨by first | rfl | exact My.ret_isEmpty _ | (simp [errW_none, errW_some] <;> rfl) | (simp [*, errW_none, errW_some] <;> rfl), by repeat (first | (with_reducible first | exact HB.out | apply below_alloc | apply pw_below_drewN | apply below_drew1) | exact HB.out)⟩
      · rw [if_neg c7] at H
        have c7b0 : decide (80 < (a1.size : Int)) = false := decide_eq_false c7
        have c7b1 : decide (80 < a1.size) = false := decide_eq_false (by omega)
        clear c7
        replace H := Option.bind_eq_some_iff.mp H
        obtain ⟨t119, A80, H⟩ := H
        replace H : (some (t119, 0)) = some (r1, r2) := H
        have A8 := Aside0.mk A80
        clear A80
        simp only [Option.some.injEq, Prod.mk.injEq] at H
        obtain ⟨rfl, rfl⟩ := H
        go_enter Tryd.func12, Tryd.ntmps12
        go_wp2_with (first | ((with_reducible refine gate_callee (f := 42) rfl ?_); refine goesL_ (some 14) rfl rfl Tryd.func42 (by kernel_rfl) rfl #[.int .i64 a0] rfl (by (try simp only [List.map_toArray, List.map_cons, List.map_nil]); first | done | rfl | (simp only [List.length_drop, List.length_take]; rfl)) ?_; (with_reducible refine (impl_StatusWord.calls a0 t118 _ A5.out).mono ?_); rintro e w' ⟨rfl, ⟨nd, rfl⟩⟩; refine ⟨_, rfl, ?_⟩) | ((with_reducible refine gate_callee (f := 43) rfl ?_); refine goesL_ (some 24) rfl rfl Tryd.func43 (by kernel_rfl) rfl #[.int .i64 a0, .string a1, .bool a2] rfl (by (try simp only [List.map_toArray, List.map_cons, List.map_nil]); first | done | rfl | (simp only [List.length_drop, List.length_take]; rfl)) ?_; (with_reducible refine (impl_replyText.calls a0 a1 a2 t119 _ ?side1 A8.out).mono ?_); (case side1 => exact My.tab_below hG (by repeat (first | (with_reducible first | exact HB.out | apply below_alloc | apply pw_below_drewN | apply below_drew1) | exact HB.out))); rintro e w9 ⟨rfl, hb⟩; refine ⟨_, rfl, ?_⟩; have n0_ := Aside0.mk (below_step (by repeat (first | (with_reducible first | exact HB.out | apply below_alloc | apply pw_below_drewN | apply below_drew1) | exact HB.out)) hb); clear HB; have HB := n0_; clear n0_; (try clear hb); (try clear hb2); (try clear hk); (try clear hi)))
        go_ret2
        exact ⟨by first | rfl | exact My.ret_isEmpty _ | (simp [errW_none, errW_some] <;> rfl) | (simp [*, errW_none, errW_some] <;> rfl), by repeat (first | (with_reducible first | exact HB.out | apply below_alloc | apply pw_below_drewN | apply below_drew1) | exact HB.out)⟩

/-! ### laws_FnExactReplyText: function 3 -/
def laws_FnExactReplyText.f (k : Nat) (a0 : Int) (a1 : ByteArray) (a2 : Bool) : Option (Bool) := if (a1.size : Int) > 1048576 then (some true) else ((spec_ReplyText.f k a0 a1 a2).bind fun bt120 => ((impl_ReplyText.f a0 a1 a2).bind fun bt122 => (if bt122.1.toList = bt120.1.toList then (if bt122.2 = bt120.2 then (some true) else (some false)) else (some false))))
theorem laws_FnExactReplyText.mono : ∀ a0 a1 a2 k, LeO (laws_FnExactReplyText.f k a0 a1 a2) (laws_FnExactReplyText.f (k + 1) a0 a1 a2) := by
  intro a0 a1 a2 k
  unfold laws_FnExactReplyText.f
  repeat' first
      | (with_reducible exact spec_ReplyText.mono _ _ _ _)
      | (with_reducible exact LeO.refl _)
      | (with_reducible exact LeO.none _)
      | (with_reducible refine LeO.ite ?_ ?_)
      | (with_reducible refine LeO.bind ?_ (fun _ => ?_))
      | exact spec_ReplyText.mono _ _ _ _
      | exact LeO.none _
      | refine LeO.ite ?_ ?_
      | refine LeO.bind ?_ (fun _ => ?_)
set_option maxHeartbeats 8000000 in
set_option maxRecDepth 100000 in
theorem laws_FnExactReplyText.calls (k : Nat) (a0 : Int) (a1 : ByteArray) (a2 : Bool) (r : Bool) (w : World) (hG : Aside0 (My.Tab w)) (h : laws_FnExactReplyText.f k a0 a1 a2 = some r) :
    Calls Tryd.prog 3 #[.int .i64 a0, .string a1, .bool a2] w fun e w' => e = .returned (.bool r) ∧ Below w.heap.size w w' := by
  have HB := Aside0.mk (Below.refl w.heap.size w)
  have H : (if (a1.size : Int) > 1048576 then (some true) else ((spec_ReplyText.f k a0 a1 a2).bind fun bt120 => ((impl_ReplyText.f a0 a1 a2).bind fun bt122 => (if bt122.1.toList = bt120.1.toList then (if bt122.2 = bt120.2 then (some true) else (some false)) else (some false))))) = some r := h
  clear h
  by_cases c4 : (a1.size : Int) > 1048576
  · rw [if_pos c4] at H
    have c4b0 : decide (1048576 < (a1.size : Int)) = true := decide_eq_true c4
    have c4b1 : decide (1048576 < a1.size) = true := decide_eq_true (by omega)
    clear c4
    obtain rfl := Option.some.inj H
    go_enter Tryd.func3, Tryd.ntmps3
    go_wp2
    go_ret
    exact ⟨by first | rfl | exact My.ret_isEmpty _ | (simp [errW_none, errW_some] <;> rfl) | (simp [*, errW_none, errW_some] <;> rfl), by repeat (first | (with_reducible first | exact HB.out | apply below_alloc | apply pw_below_drewN | apply below_drew1) | exact HB.out)⟩
  · rw [if_neg c4] at H
    have c4b0 : decide (1048576 < (a1.size : Int)) = false := decide_eq_false c4
    have c4b1 : decide (1048576 < a1.size) = false := decide_eq_false (by omega)
    clear c4
    replace H := Option.bind_eq_some_iff.mp H
    obtain ⟨⟨t120, t121⟩, A50, H⟩ := H
    replace H : ((impl_ReplyText.f a0 a1 a2).bind fun bt122 => (if bt122.1.toList = t120.toList then (if bt122.2 = t121 then (some true) else (some false)) else (some false))) = some r := H
    have A5 := Aside0.mk A50
    clear A50
    replace H := Option.bind_eq_some_iff.mp H
    obtain ⟨⟨t122, t123⟩, A60, H⟩ := H
    replace H : (if t122.toList = t120.toList then (if t123 = t121 then (some true) else (some false)) else (some false)) = some r := H
    have A6 := Aside0.mk A60
    clear A60
    by_cases c7 : t122.toList = t120.toList
    · rw [if_pos c7] at H
      have c7b0 : (t122.toList == t120.toList) = true := beq_iff_eq.mpr c7
      have c7b1 : (t122.toList != t120.toList) = false := bne_eq_false_iff_eq.mpr c7
      clear c7
      by_cases c8 : t123 = t121
      · rw [if_pos c8] at H
        have c8b0 : (t123 == t121) = true := beq_iff_eq.mpr c8
        have c8b1 : (t123 != t121) = false := bne_eq_false_iff_eq.mpr c8
        clear c8
        obtain rfl := Option.some.inj H
        go_enter Tryd.func3, Tryd.ntmps3
        go_wp2_with (first | ((with_reducible refine gate_callee (f := 11) rfl ?_); refine goesL_ (some 18) rfl rfl Tryd.func11 (by kernel_rfl) rfl #[.int .i64 a0, .string a1, .bool a2] rfl (by (try simp only [List.map_toArray, List.map_cons, List.map_nil]); first | done | rfl | (simp only [List.length_drop, List.length_take]; rfl)) ?_; (with_reducible refine (spec_ReplyText.calls k a0 a1 a2 t120 t121 _ A5.out).mono ?_); rintro e w9 ⟨rfl, hb⟩; refine ⟨_, rfl, ?_⟩; have n0_ := Aside0.mk (below_step (by repeat (first | (with_reducible first | exact HB.out | apply below_alloc | apply pw_below_drewN | apply below_drew1) | exact HB.out)) hb); clear HB; have HB := n0_; clear n0_; (try clear hb); (try clear hb2); (try clear hk); (try clear hi)) | ((with_reducible refine gate_callee (f := 12) rfl ?_); refine goesL_ (some 25) rfl rfl Tryd.func12 (by kernel_rfl) rfl #[.int .i64 a0, .string a1, .bool a2] rfl (by (try simp only [List.map_toArray, List.map_cons, List.map_nil]); first | done | rfl | (simp only [List.length_drop, List.length_take]; rfl)) ?_; (with_reducible refine (impl_ReplyText.calls a0 a1 a2 t122 t123 _ ?side1 A6.out).mono ?_); (case side1 => exact My.tab_below hG (by repeat (first | (with_reducible first | exact HB.out | apply below_alloc | apply pw_below_drewN | apply below_drew1) | exact HB.out))); rintro e w10 ⟨rfl, hb⟩; refine ⟨_, rfl, ?_⟩; have n0_ := Aside0.mk (below_step (by repeat (first | (with_reducible first | exact HB.out | apply below_alloc | apply pw_below_drewN | apply below_drew1) | exact HB.out)) hb); clear HB; have HB := n0_; clear n0_; (try clear hb); (try clear hb2); (try clear hk); (try clear hi)))
        go_ret
        exact ⟨by first | rfl | exact My.ret_isEmpty _ | (simp [errW_none, errW_some] <;> rfl) | (simp [*, errW_none, errW_some] <;> rfl), by repeat (first | (with_reducible first | exact HB.out | apply below_alloc | apply pw_below_drewN | apply below_drew1) | exact HB.out)⟩
      · rw [if_neg c8] at H
        have c8b0 : (t123 == t121) = false := beq_eq_false_iff_ne.mpr c8
        have c8b1 : (t123 != t121) = true := bne_iff_ne.mpr c8
        obtain rfl := Option.some.inj H
        go_enter Tryd.func3, Tryd.ntmps3
        go_wp2_with (first | ((with_reducible refine gate_callee (f := 11) rfl ?_); refine goesL_ (some 18) rfl rfl Tryd.func11 (by kernel_rfl) rfl #[.int .i64 a0, .string a1, .bool a2] rfl (by (try simp only [List.map_toArray, List.map_cons, List.map_nil]); first | done | rfl | (simp only [List.length_drop, List.length_take]; rfl)) ?_; (with_reducible refine (spec_ReplyText.calls k a0 a1 a2 t120 t121 _ A5.out).mono ?_); rintro e w11 ⟨rfl, hb⟩; refine ⟨_, rfl, ?_⟩; have n0_ := Aside0.mk (below_step (by repeat (first | (with_reducible first | exact HB.out | apply below_alloc | apply pw_below_drewN | apply below_drew1) | exact HB.out)) hb); clear HB; have HB := n0_; clear n0_; (try clear hb); (try clear hb2); (try clear hk); (try clear hi)) | ((with_reducible refine gate_callee (f := 12) rfl ?_); refine goesL_ (some 25) rfl rfl Tryd.func12 (by kernel_rfl) rfl #[.int .i64 a0, .string a1, .bool a2] rfl (by (try simp only [List.map_toArray, List.map_cons, List.map_nil]); first | done | rfl | (simp only [List.length_drop, List.length_take]; rfl)) ?_; (with_reducible refine (impl_ReplyText.calls a0 a1 a2 t122 t123 _ ?side1 A6.out).mono ?_); (case side1 => exact My.tab_below hG (by repeat (first | (with_reducible first | exact HB.out | apply below_alloc | apply pw_below_drewN | apply below_drew1) | exact HB.out))); rintro e w12 ⟨rfl, hb⟩; refine ⟨_, rfl, ?_⟩; have n0_ := Aside0.mk (below_step (by repeat (first | (with_reducible first | exact HB.out | apply below_alloc | apply pw_below_drewN | apply below_drew1) | exact HB.out)) hb); clear HB; have HB := n0_; clear n0_; (try clear hb); (try clear hb2); (try clear hk); (try clear hi)))
        go_ret
        exact ⟨by first | rfl | exact My.ret_isEmpty _ | (simp [errW_none, errW_some] <;> rfl) | (simp [*, errW_none, errW_some] <;> rfl), by repeat (first | (with_reducible first | exact HB.out | apply below_alloc | apply pw_below_drewN | apply below_drew1) | exact HB.out)⟩
    · rw [if_neg c7] at H
      have c7b0 : (t122.toList == t120.toList) = false := beq_eq_false_iff_ne.mpr c7
      have c7b1 : (t122.toList != t120.toList) = true := bne_iff_ne.mpr c7
      obtain rfl := Option.some.inj H
      go_enter Tryd.func3, Tryd.ntmps3
      go_wp2_with (first | ((with_reducible refine gate_callee (f := 11) rfl ?_); refine goesL_ (some 18) rfl rfl Tryd.func11 (by kernel_rfl) rfl #[.int .i64 a0, .string a1, .bool a2] rfl (by (try simp only [List.map_toArray, List.map_cons, List.map_nil]); first | done | rfl | (simp only [List.length_drop, List.length_take]; rfl)) ?_; (with_reducible refine (spec_ReplyText.calls k a0 a1 a2 t120 t121 _ A5.out).mono ?_); rintro e w13 ⟨rfl, hb⟩; refine ⟨_, rfl, ?_⟩; have n0_ := Aside0.mk (below_step (by repeat (first | (with_reducible first | exact HB.out | apply below_alloc | apply pw_below_drewN | apply below_drew1) | exact HB.out)) hb); clear HB; have HB := n0_; clear n0_; (try clear hb); (try clear hb2); (try clear hk); (try clear hi)) | ((with_reducible refine gate_callee (f := 12) rfl ?_); refine goesL_ (some 25) rfl rfl Tryd.func12 (by kernel_rfl) rfl #[.int .i64 a0, .string a1, .bool a2] rfl (by (try simp only [List.map_toArray, List.map_cons, List.map_nil]); first | done | rfl | (simp only [List.length_drop, List.length_take]; rfl)) ?_; (with_reducible refine (impl_ReplyText.calls a0 a1 a2 t122 t123 _ ?side1 A6.out).mono ?_); (case side1 => exact My.tab_below hG (by repeat (first | (with_reducible first | exact HB.out | apply below_alloc | apply pw_below_drewN | apply below_drew1) | exact HB.out))); rintro e w14 ⟨rfl, hb⟩; refine ⟨_, rfl, ?_⟩; have n0_ := Aside0.mk (below_step (by repeat (first | (with_reducible first | exact HB.out | apply below_alloc | apply pw_below_drewN | apply below_drew1) | exact HB.out)) hb); clear HB; have HB := n0_; clear n0_; (try clear hb); (try clear hb2); (try clear hk); (try clear hi)))
      go_ret
      exact ⟨by first | rfl | exact My.ret_isEmpty _ | (simp [errW_none, errW_some] <;> rfl) | (simp [*, errW_none, errW_some] <;> rfl), by repeat (first | (with_reducible first | exact HB.out | apply below_alloc | apply pw_below_drewN | apply below_drew1) | exact HB.out)⟩

end Go.Proofs.YthclofmcinknlaaDoor.QFnExactReplyText
