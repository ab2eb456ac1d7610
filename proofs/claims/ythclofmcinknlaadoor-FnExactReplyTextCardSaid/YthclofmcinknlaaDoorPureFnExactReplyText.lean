/- The law FnExactReplyText over plain data; no condition. -/
import Derived.Test.YthclofmcinknlaaDoorGoalFnExactReplyText
import Derived.Test.YthclofmcinknlaaDoorFam
import Derived.Lib.ItoaLen
namespace Go.Proofs.YthclofmcinknlaaDoor.Pure
open Go.RowKit Go.Proofs.YthclofmcinknlaaDoor.QFnExactReplyText Go.Proofs.YthclofmcinknlaaDoorW.PrintWords Go.Proofs.YthclofmcinknlaaDoorW.PrintLast Go.Proofs.YthclofmcinknlaaDoor.GoalFnExactReplyText Go.Proofs.YthclofmcinknlaaDoor

set_option linter.unusedSimpArgs false
set_option linter.unusedVariables false

open Go.Proofs.YthclofmcinknlaaDoor.Fam
theorem digits_nat (u : Nat) (hu : u < 9223372036854775808) : Tos (fun k => spec_l00Digits.f k (u : Int)) (⟨(Lib.decDigits u).toArray⟩ : ByteArray) := by
  induction u using Nat.strongRecOn with
  | _ u ih =>
    by_cases h : u < 10
    · refine ⟨1, fun k hk => ?_⟩
      obtain ⟨k, rfl⟩ : ∃ m, k = m + 1 := ⟨k - 1, by omega⟩
      show spec_l00Digits.f (k + 1) (u : Int) = _
      have e : wrap64 (48 + (u : Int)) % 256 = ((48 + u : Nat) : Int) := by unfold wrap64; omega
      rw [spec_l00Digits.f, if_neg (by omega), if_neg (by omega), if_pos (by omega), e, Lib.decDigits_one h]
      rfl
    · obtain ⟨K, hK⟩ := ih (u / 10) (by omega) (by omega)
      refine ⟨K + 1, fun k hk => ?_⟩
      obtain ⟨k, rfl⟩ : ∃ m, k = m + 1 := ⟨k - 1, by omega⟩
      show spec_l00Digits.f (k + 1) (u : Int) = _
      have e1 : wrap64 (Int.tdiv (u : Int) 10) = ((u / 10 : Nat) : Int) := by
        rw [Int.tdiv_eq_ediv_of_nonneg (by omega)]
        unfold wrap64
        omega
      have e2 : wrap64 (48 + Int.tmod (u : Int) 10) % 256 = ((48 + u % 10 : Nat) : Int) := by
        rw [Int.tmod_eq_emod_of_nonneg (by omega)]
        unfold wrap64
        omega
      have hK' : spec_l00Digits.f k ((u / 10 : Nat) : Int) = _ := hK k (by omega)
      have hl := Lib.itoa_length_le ((u / 10 : Nat) : Int) (by omega) (by omega)
      rw [Lib.itoa_nonneg] at hl
      have hs : (⟨(Lib.decDigits (u / 10)).toArray⟩ : ByteArray).size ≤ 21 := by simpa [ByteArray.size] using hl
      have h1 : (strOfNums [((48 + u % 10 : Nat) : Int)]).size = 1 := rfl
      rw [spec_l00Digits.f, if_neg (by omega), if_neg (by omega), if_neg (by omega), e1, e2, hK']
      simp only [Option.bind_some]
      rw [if_pos (by omega)]
      rw [show Lib.decDigits u = Lib.decDigits (u / 10) ++ [UInt8.ofNat (48 + u % 10)] by rw [Lib.decDigits, dif_neg h]]
      congr 1

/-- The numeral of an int, as the specification writes it. -/
theorem digits (n : Int) (h0 : -9223372036854775808 < n) (h1 : n ≤ 9223372036854775807) : Tos (fun k => spec_l00Digits.f k n) (⟨(Lib.itoa n).toArray⟩ : ByteArray) := by
  by_cases h : n < 0
  · obtain ⟨u, rfl⟩ : ∃ u : Nat, n = -(u : Int) := ⟨n.natAbs, by omega⟩
    obtain ⟨K, hK⟩ := digits_nat u (by omega)
    refine ⟨K + 1, fun k hk => ?_⟩
    obtain ⟨k, rfl⟩ : ∃ m, k = m + 1 := ⟨k - 1, by omega⟩
    show spec_l00Digits.f (k + 1) (-(u : Int)) = _
    have e : wrap64 (- -(u : Int)) = (u : Int) := by unfold wrap64; omega
    have hK' : spec_l00Digits.f k (u : Int) = _ := hK k (by omega)
    have hl := Lib.itoa_length_le (u : Int) (by omega) (by omega)
    rw [Lib.itoa_nonneg] at hl
    have hs : (⟨(Lib.decDigits u).toArray⟩ : ByteArray).size ≤ 21 := by simpa [ByteArray.size] using hl
    rw [spec_l00Digits.f, if_neg (by omega), if_pos (by omega), e, hK']
    simp only [Option.bind_some]
    rw [if_pos (by omega), Lib.itoa_neg u (by omega)]
    congr 1
  · obtain ⟨u, rfl⟩ : ∃ u : Nat, n = (u : Int) := ⟨n.toNat, by omega⟩
    rw [Lib.itoa_nonneg]
    exact digits_nat u (by omega)

theorem digits_size (n : Int) (h0 : -9223372036854775808 ≤ n) (h1 : n ≤ 9223372036854775807) : (⟨(Lib.itoa n).toArray⟩ : ByteArray).size ≤ 21 := by
  have hl := Lib.itoa_length_le n h0 h1
  simpa [ByteArray.size] using hl

theorem app_data (a b : ByteArray) : (a ++ b).toList = a.toList ++ b.toList := by
  rw [ByteArray.toList_eq, ByteArray.toList_eq, ByteArray.toList_eq, ByteArray.data_append, Array.toList_append]

theorem lit_data (a : Array UInt8) : (⟨a⟩ : ByteArray).toList = a.toList := by rw [ByteArray.toList_eq]

theorem lit_size (a : Array UInt8) : (⟨a⟩ : ByteArray).size = a.size := rfl
theorem word_same (n : Int) : spec_StatusWord.f n = impl_StatusWord.f n := rfl
theorem word_is (n : Int) : ∃ t : ByteArray, impl_StatusWord.f n = some t ∧ t.size ≤ 40 ∧ (t.toList ≠ [] → 0 ≤ n ∧ n ≤ 600) := by
  unfold impl_StatusWord.f
  by_cases h : 0 ≤ n ∧ n ≤ 600
  · repeat' split
    all_goals exact ⟨_, rfl, by decide, fun _ => h⟩
  · repeat' split
    all_goals first
      | exact absurd ⟨by omega, by omega⟩ h
      | exact ⟨_, rfl, by decide, fun h2 => absurd (by rw [lit_data]) h2⟩

/-- What a reply says. -/
def said (n : Int) (t : List UInt8) (b : ByteArray) (c : Bool) : List UInt8 :=
  [72, 84, 84, 80, 47, 49, 46, 49, 32] ++ (Lib.itoa n ++ (32 :: (t ++ ([13, 10, 67, 111, 110, 116, 101, 110, 116, 45, 76, 101, 110, 103, 116, 104, 58, 32] ++ (Lib.itoa (b.size : Int) ++ ([13, 10] ++ ((if c then [67, 111, 110, 110, 101, 99, 116, 105, 111, 110, 58, 32, 99, 108, 111, 115, 101, 13, 10] else []) ++ ([13, 10] ++ b.toList))))))))

theorem spec_reply (n : Int) (h0 : 0 ≤ n) (h1 : n ≤ 600) (t : ByteArray) (ht : impl_StatusWord.f n = some t) (hs : t.size ≤ 40) (b : ByteArray) (hb : b.size ≤ 80) (c : Bool) : TosE (fun k => spec_l08Reply.f k n b c) (fun x => x.toList = said n t.toList b c) := by
  unfold spec_l08Reply.f
  obtain ⟨d, hd, hds, hdl⟩ : ∃ d : ByteArray, Tos (fun k => spec_l00Digits.f k n) d ∧ d.size ≤ 21 ∧ d.toList = Lib.itoa n := ⟨_, digits n (by omega) (by omega), digits_size n (by omega) (by omega), by rw [lit_data]⟩
  obtain ⟨e, he, hes, hel⟩ : ∃ d : ByteArray, Tos (fun k => spec_l00Digits.f k (b.size : Int)) d ∧ d.size ≤ 21 ∧ d.toList = Lib.itoa (b.size : Int) := ⟨_, digits _ (by omega) (by omega), digits_size _ (by omega) (by omega), by rw [lit_data]⟩
  refine TosE.bind hd ?_
  repeat refine TosE.ifPos (by (try simp only [ByteArray.size_append, lit_size, List.size_toArray, List.length_cons, List.length_nil]); omega) ?_
  refine TosE.bind (y := t) (Tos.of fun _ => by rw [word_same]; exact ht) ?_
  repeat refine TosE.ifPos (by (try simp only [ByteArray.size_append, lit_size, List.size_toArray, List.length_cons, List.length_nil]); omega) ?_
  refine TosE.bind he ?_
  repeat refine TosE.ifPos (by (try simp only [ByteArray.size_append, lit_size, List.size_toArray, List.length_cons, List.length_nil]); omega) ?_
  by_cases hc : c = true
  rotate_left
  · refine TosE.ifNeg hc ?_
    repeat refine TosE.ifPos (by (try simp only [ByteArray.size_append, lit_size, List.size_toArray, List.length_cons, List.length_nil]); omega) ?_
    refine TosE.pure _ ?_
    simp only [app_data, lit_data, hdl, hel, said, List.append_assoc]
    simp [hc]
  · refine TosE.ifPos hc ?_
    repeat refine TosE.ifPos (by (try simp only [ByteArray.size_append, lit_size, List.size_toArray, List.length_cons, List.length_nil]); omega) ?_
    refine TosE.pure _ ?_
    simp only [app_data, lit_data, hdl, hel, said, List.append_assoc]
    simp [hc]

theorem impl_reply (n : Int) (h0 : 0 ≤ n) (h1 : n ≤ 600) (t : ByteArray) (ht : impl_StatusWord.f n = some t) (hs : t.size ≤ 40) (b : ByteArray) (hb : b.size ≤ 80) (c : Bool) : TosE (fun _ => impl_replyText.f n b c) (fun x => x.toList = said n t.toList b c) := by
  unfold impl_replyText.f impl_statusHead.f strconv_Itoa_70.f
  rw [if_pos ⟨by omega, by omega⟩, if_pos ⟨by omega, by omega⟩]
  obtain ⟨d, hd, hds, hdl⟩ : ∃ d : ByteArray, (⟨(Lib.itoa n).toArray⟩ : ByteArray) = d ∧ d.size ≤ 21 ∧ d.toList = Lib.itoa n := ⟨_, rfl, digits_size n (by omega) (by omega), by rw [lit_data]⟩
  obtain ⟨e, he, hes, hel⟩ : ∃ d : ByteArray, (⟨(Lib.itoa (b.size : Int)).toArray⟩ : ByteArray) = d ∧ d.size ≤ 21 ∧ d.toList = Lib.itoa (b.size : Int) := ⟨_, rfl, digits_size _ (by omega) (by omega), by rw [lit_data]⟩
  rw [hd, he]
  refine TosE.bindE (Q := fun x => x.size ≤ 40 ∧ x.toList = [72, 84, 84, 80, 47, 49, 46, 49, 32] ++ (d.toList ++ [32])) ?_ fun y hy => ?_
  · refine TosE.bind (Tos.pure _) ?_
    repeat refine TosE.ifPos (by (try simp only [ByteArray.size_append, lit_size, List.size_toArray, List.length_cons, List.length_nil]); omega) ?_
    refine TosE.pure _ ⟨?_, ?_⟩
    · simp only [ByteArray.size_append, lit_size, List.size_toArray, List.length_cons, List.length_nil]; omega
    · simp only [app_data, lit_data, List.append_assoc]
  obtain ⟨hy1, hy2⟩ := hy
  refine TosE.bind (y := t) (Tos.of fun _ => ht) ?_
  repeat refine TosE.ifPos (by (try simp only [ByteArray.size_append, lit_size, List.size_toArray, List.length_cons, List.length_nil]); omega) ?_
  refine TosE.bind (Tos.pure _) ?_
  repeat refine TosE.ifPos (by (try simp only [ByteArray.size_append, lit_size, List.size_toArray, List.length_cons, List.length_nil]); omega) ?_
  by_cases hc : c = true
  rotate_left
  · refine TosE.ifNeg hc ?_
    repeat refine TosE.ifPos (by (try simp only [ByteArray.size_append, lit_size, List.size_toArray, List.length_cons, List.length_nil]); omega) ?_
    refine TosE.pure _ ?_
    simp only [app_data, lit_data, hy2, hdl, hel, said, List.append_assoc]
    simp [hc]
  · refine TosE.ifPos hc ?_
    repeat refine TosE.ifPos (by (try simp only [ByteArray.size_append, lit_size, List.size_toArray, List.length_cons, List.length_nil]); omega) ?_
    refine TosE.pure _ ?_
    simp only [app_data, lit_data, hy2, hdl, hel, said, List.append_assoc]
    simp [hc]

theorem FnExactReplyText : GoalFnExactReplyText.Pure := by
  intro n b c _ _
  refine Tos.at (F := fun k => laws_FnExactReplyText.f k n b c) ?_
  unfold laws_FnExactReplyText.f
  by_cases h1 : (b.size : Int) > 1048576
  · exact Tos.ifPos h1 (Tos.pure _)
  refine Tos.ifNeg h1 ?_
  unfold spec_ReplyText.f impl_ReplyText.f
  by_cases h2 : (b.size : Int) > 65536
  · refine Tos.bind (Tos.ifPos h2 (Tos.pure _)) (Tos.bind (Tos.ifPos h2 (Tos.pure _)) ?_)
    exact Tos.eq (Tos.eq (Tos.pure _))
  obtain ⟨t, ht, hts, hn⟩ := word_is n
  have ht' : spec_StatusWord.f n = some t := by rw [word_same]; exact ht
  by_cases h3 : t.toList = ([] : List UInt8)
  · refine Tos.bind (Tos.ifNeg h2 (Tos.bind (Tos.of fun _ => ht') (Tos.ifPos h3 (Tos.pure _)))) (Tos.bind (Tos.ifNeg h2 (Tos.bind (Tos.of fun _ => ht) (Tos.ifPos h3 (Tos.pure _)))) ?_)
    exact Tos.eq (Tos.eq (Tos.pure _))
  by_cases h4 : (b.size : Int) > 80
  · refine Tos.bind (Tos.ifNeg h2 (Tos.bind (Tos.of fun _ => ht') (Tos.ifNeg h3 (Tos.ifPos h4 (Tos.pure _))))) (Tos.bind (Tos.ifNeg h2 (Tos.bind (Tos.of fun _ => ht) (Tos.ifNeg h3 (Tos.ifPos h4 (Tos.pure _))))) ?_)
    exact Tos.eq (Tos.eq (Tos.pure _))
  obtain ⟨h5, h6⟩ := hn h3
  obtain ⟨x, hx, hxl⟩ := spec_reply n h5 h6 t ht hts b (by omega) c
  obtain ⟨y, hy, hyl⟩ := impl_reply n h5 h6 t ht hts b (by omega) c
  refine Tos.bind (Tos.ifNeg h2 (Tos.bind (Tos.of fun _ => ht') (Tos.ifNeg h3 (Tos.ifNeg h4 (Tos.bind hx (Tos.pure _)))))) (Tos.bind (Tos.ifNeg h2 (Tos.bind (Tos.of fun _ => ht) (Tos.ifNeg h3 (Tos.ifNeg h4 (Tos.bind hy (Tos.pure _)))))) ?_)
  exact Tos.ifPos (hyl.trans hxl.symm) (Tos.eq (Tos.pure _))

end Go.Proofs.YthclofmcinknlaaDoor.Pure
