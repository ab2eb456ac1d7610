/- The law FnExactInsText over plain data; no condition. -/
import Derived.Test.YthclofmcinknlaaDoorGoalFnExactInsText
import Derived.Test.YthclofmcinknlaaDoorFamFnExactInsText
import Derived.Lib.ItoaLen
namespace Go.Proofs.YthclofmcinknlaaDoor.Pure
open Go.RowKit Go.Proofs.YthclofmcinknlaaDoor.QFnExactInsText Go.Proofs.YthclofmcinknlaaDoorW.PrintWords Go.Proofs.YthclofmcinknlaaDoorW.PrintLast Go.Proofs.YthclofmcinknlaaDoor.GoalFnExactInsText Go.Proofs.YthclofmcinknlaaDoor

set_option linter.unusedSimpArgs false
set_option linter.unusedVariables false

open Go.Proofs.YthclofmcinknlaaDoor.Fam Go.Proofs.YthclofmcinknlaaDoor.FamFnExactInsText
/-- A right value. -/
def Right (k n : Int) (t : ByteArray) : Prop :=
  (k = 0 ∧ n = 0 ∧ t.toList = []) ∨ (k = 1 ∧ -2147483648 ≤ n ∧ n ≤ 2147483647 ∧ t.toList = []) ∨ (k = 2 ∧ 0 ≤ n ∧ n ≤ 1 ∧ t.toList = []) ∨ (k = 3 ∧ n = 0 ∧ t.size ≤ 60)
instance (k n : Int) (t : ByteArray) : Decidable (Right k n t) := by unfold Right; exact inferInstance

theorem spec_right (k n : Int) (t : ByteArray) : spec_ValueOK.f k n t = some (decide (Right k n t)) := by
  unfold spec_ValueOK.f spec_l01In.f Right
  by_cases h0 : k = 0
  · subst h0
    by_cases hn : n = 0 <;> by_cases ht : t.toList = [] <;> simp [hn, ht]
  by_cases h1 : k = 1
  · subst h1
    by_cases ha : -2147483648 ≤ n <;> by_cases hb : n ≤ 2147483647 <;> by_cases ht : t.toList = [] <;> simp [ha, hb, ht]
  by_cases h2 : k = 2
  · subst h2
    by_cases ha : 0 ≤ n <;> by_cases hb : n ≤ 1 <;> by_cases ht : t.toList = [] <;> simp [ha, hb, ht]
  by_cases h3 : k = 3
  · subst h3
    by_cases hn : n = 0 <;> by_cases ht : t.size ≤ 60 <;> simp [hn, ht] <;> omega
  simp [h0, h1, h2, h3]

theorem impl_right (k n : Int) (t : ByteArray) : impl_ValueOK.f k n t = some (decide (Right k n t)) := by
  unfold impl_ValueOK.f impl_within.f Right
  by_cases h0 : k = 0
  · subst h0
    by_cases hn : n = 0 <;> by_cases ht : t.toList = [] <;> simp [hn, ht]
  by_cases h1 : k = 1
  · subst h1
    by_cases ha : -2147483648 ≤ n <;> by_cases hb : n ≤ 2147483647 <;> by_cases ht : t.toList = [] <;> simp [ha, hb, ht]
  by_cases h2 : k = 2
  · subst h2
    by_cases ha : 0 ≤ n <;> by_cases hb : n ≤ 1 <;> by_cases ht : t.toList = [] <;> simp [ha, hb, ht]
  by_cases h3 : k = 3
  · subst h3
    by_cases hn : n = 0 <;> by_cases ht : t.size ≤ 60 <;> simp [hn, ht] <;> omega
  simp [h0, h1, h2, h3]

/-- The bulk of a value: what is left, or -1. -/
theorem sz_value (k n : Int) (t : ByteArray) (l : Int) (h0 : 0 ≤ l) (h1 : l ≤ 1048576) (ht : t.size ≤ maxLen) :
    (laws_szValue.f k n t l = some (-1)) ∨ (laws_szValue.f k n t l = some (l - t.size) ∧ (t.size : Int) ≤ l) := by
  unfold maxLen at ht
  have e : wrap64 (l - (t.size : Int)) = l - t.size := by unfold wrap64; omega
  unfold laws_szValue.f
  rw [e]
  by_cases h : l - (t.size : Int) < 0
  · rw [if_pos h]; exact .inl rfl
  · rw [if_neg h]; exact .inr ⟨rfl, by omega⟩

theorem digits_nat (u : Nat) (hu : u < 9223372036854775808) : Tos (fun k => spec_l00Digits.f k (u : Int)) (⟨(Lib.decDigits u).toArray⟩ : ByteArray) := by
  induction u using Nat.strongRecOn with
  | _ u ih =>
    by_cases h : u < 10
    · refine ⟨1, fun k hk => ?_⟩
      obtain ⟨k, rfl⟩ : ∃ m, k = m + 1 := ⟨k - 1, by omega⟩
      show spec_l00Digits.f (k + 1) (u : Int) = _
      have e : wrap64 (48 + (u : Int)) % 256 = ((48 + u : Nat) : Int) := by unfold wrap64; omega
      rw [spec_l00Digits.f, if_neg (by omega), if_neg (by omega), if_pos (by omega), e, Lib.decDigits_one h]
      rfl
    · obtain ⟨K, hK⟩ := ih (u / 10) (by omega) (by omega)
      refine ⟨K + 1, fun k hk => ?_⟩
      obtain ⟨k, rfl⟩ : ∃ m, k = m + 1 := ⟨k - 1, by omega⟩
      show spec_l00Digits.f (k + 1) (u : Int) = _
      have e1 : wrap64 (Int.tdiv (u : Int) 10) = ((u / 10 : Nat) : Int) := by
        rw [Int.tdiv_eq_ediv_of_nonneg (by omega)]
        unfold wrap64
        omega
      have e2 : wrap64 (48 + Int.tmod (u : Int) 10) % 256 = ((48 + u % 10 : Nat) : Int) := by
        rw [Int.tmod_eq_emod_of_nonneg (by omega)]
        unfold wrap64
        omega
      have hK' : spec_l00Digits.f k ((u / 10 : Nat) : Int) = _ := hK k (by omega)
      have hl := Lib.itoa_length_le ((u / 10 : Nat) : Int) (by omega) (by omega)
      rw [Lib.itoa_nonneg] at hl
      have hs : (⟨(Lib.decDigits (u / 10)).toArray⟩ : ByteArray).size ≤ 21 := by simpa [ByteArray.size] using hl
      have h1 : (strOfNums [((48 + u % 10 : Nat) : Int)]).size = 1 := rfl
      rw [spec_l00Digits.f, if_neg (by omega), if_neg (by omega), if_neg (by omega), e1, e2, hK']
      simp only [Option.bind_some]
      rw [if_pos (by omega)]
      rw [show Lib.decDigits u = Lib.decDigits (u / 10) ++ [UInt8.ofNat (48 + u % 10)] by rw [Lib.decDigits, dif_neg h]]
      congr 1

/-- The numeral of an int, as the specification writes it. -/
theorem digits (n : Int) (h0 : -9223372036854775808 < n) (h1 : n ≤ 9223372036854775807) : Tos (fun k => spec_l00Digits.f k n) (⟨(Lib.itoa n).toArray⟩ : ByteArray) := by
  by_cases h : n < 0
  · obtain ⟨u, rfl⟩ : ∃ u : Nat, n = -(u : Int) := ⟨n.natAbs, by omega⟩
    obtain ⟨K, hK⟩ := digits_nat u (by omega)
    refine ⟨K + 1, fun k hk => ?_⟩
    obtain ⟨k, rfl⟩ : ∃ m, k = m + 1 := ⟨k - 1, by omega⟩
    show spec_l00Digits.f (k + 1) (-(u : Int)) = _
    have e : wrap64 (- -(u : Int)) = (u : Int) := by unfold wrap64; omega
    have hK' : spec_l00Digits.f k (u : Int) = _ := hK k (by omega)
    have hl := Lib.itoa_length_le (u : Int) (by omega) (by omega)
    rw [Lib.itoa_nonneg] at hl
    have hs : (⟨(Lib.decDigits u).toArray⟩ : ByteArray).size ≤ 21 := by simpa [ByteArray.size] using hl
    rw [spec_l00Digits.f, if_neg (by omega), if_pos (by omega), e, hK']
    simp only [Option.bind_some]
    rw [if_pos (by omega), Lib.itoa_neg u (by omega)]
    congr 1
  · obtain ⟨u, rfl⟩ : ∃ u : Nat, n = (u : Int) := ⟨n.toNat, by omega⟩
    rw [Lib.itoa_nonneg]
    exact digits_nat u (by omega)

theorem digits_size (n : Int) (h0 : -9223372036854775808 ≤ n) (h1 : n ≤ 9223372036854775807) : (⟨(Lib.itoa n).toArray⟩ : ByteArray).size ≤ 21 := by
  have hl := Lib.itoa_length_le n h0 h1
  simpa [ByteArray.size] using hl

theorem app_data (a b : ByteArray) : (a ++ b).toList = a.toList ++ b.toList := by
  rw [ByteArray.toList_eq, ByteArray.toList_eq, ByteArray.toList_eq, ByteArray.data_append, Array.toList_append]

theorem lit_data (a : Array UInt8) : (⟨a⟩ : ByteArray).toList = a.toList := by rw [ByteArray.toList_eq]

theorem value_text (k n : Int) (t : ByteArray) (h : Right k n t) : ∃ x : ByteArray, Tos (fun f => spec_l01ValueText.f f k n t) x ∧ impl_valueText.f k n t = some x ∧ x.size ≤ 60 := by
  unfold spec_l01ValueText.f impl_valueText.f
  rcases h with ⟨rfl, h1, h2⟩ | ⟨rfl, h1, h2, h3⟩ | ⟨rfl, h1, h2, h3⟩ | ⟨rfl, h1, h2⟩
  · exact ⟨⟨#[110, 117, 108, 108]⟩, Tos.of fun _ => by simp, by simp, by decide⟩
  · refine ⟨⟨(Lib.itoa n).toArray⟩, Tos.ifPos rfl (Tos.bind (digits n (by omega) (by omega)) (Tos.pure _)), ?_, Nat.le_trans (digits_size n (by omega) (by omega)) (by decide)⟩
    unfold strconv_Itoa_70.f
    rw [if_neg (by decide), if_pos rfl, if_pos ⟨by omega, by omega⟩]
    rfl
  · by_cases hn : n = 1
    · subst hn
      exact ⟨⟨#[116, 114, 117, 101]⟩, Tos.of fun _ => by simp, by simp [strconv_FormatBool_71.f, strconv_FormatBool_91.f], by decide⟩
    · exact ⟨⟨#[102, 97, 108, 115, 101]⟩, Tos.of fun _ => by simp [hn], by simp [strconv_FormatBool_71.f, strconv_FormatBool_91.f, hn], by decide⟩
  · exact ⟨t, Tos.of fun _ => by simp, by simp, h2⟩

theorem in_spec (a b c : Int) : spec_l01In.f a b c = some (decide (b ≤ a ∧ a ≤ c)) := by
  unfold spec_l01In.f
  by_cases h : b ≤ a <;> by_cases h2 : a ≤ c <;> simp [h, h2]
theorem in_impl (a b c : Int) : impl_within.f a b c = some (decide (b ≤ a ∧ a ≤ c)) := by
  unfold impl_within.f
  by_cases h : b ≤ a <;> by_cases h2 : a ≤ c <;> simp [h, h2]

theorem quote_tells (s : ByteArray) (hs : s.size ≤ 35184372088832) (d : Nat) : ∀ (k j : Nat), j + d = s.size → d < k → spec_l02Quote.l0 k s (impl_quoteText.upto s j) (j : Int) = some (strOfNums (impl_quoteText.upto s s.size ++ [39])) := by
  induction d with
  | zero =>
    intro k j hj hk
    obtain ⟨k, rfl⟩ : ∃ m, k = m + 1 := ⟨k - 1, by omega⟩
    have hl := impl_quoteText.upto_le s j
    simp only [spec_l02Quote.l0]
    rw [if_neg (by omega), if_pos (by omega), show j = s.size by omega]
  | succ d ih =>
    intro k j hj hk
    obtain ⟨k, rfl⟩ : ∃ m, k = m + 1 := ⟨k - 1, by omega⟩
    have hl := impl_quoteText.upto_le s j
    have h := ih k (j + 1) (by omega) (by omega)
    generalize hF : strOfNums (impl_quoteText.upto s s.size ++ [39]) = F at h ⊢
    unfold impl_quoteText.upto at h
    simp only [spec_l02Quote.l0]
    rw [if_pos (by omega), if_pos (by omega), Plain.next j (by omega)]
    by_cases c1 : bt s (j : Int) = 39
    · rw [if_pos c1, if_pos (by omega)]
      rw [if_pos c1] at h
      simp only [Option.bind_some]
      rw [if_pos (by simp; omega)]
      exact h
    · rw [if_neg c1]
      rw [if_neg c1] at h
      by_cases c2 : bt s (j : Int) = 92
      · rw [if_pos c2, if_pos (by omega)]
        rw [if_pos c2] at h
        simp only [Option.bind_some]
        rw [if_pos (by simp; omega)]
        exact h
      · rw [if_neg c2, if_pos (by omega)]
        rw [if_neg c2] at h
        exact h

theorem spec_quote (s : ByteArray) (hs : s.size ≤ 35184372088832) (k : Nat) (hk : s.size < k) : spec_l02Quote.f k s = some (strOfNums (impl_quoteText.upto s s.size ++ [39])) := by
  have h := quote_tells s hs s.size k 0 (by omega) hk
  exact h
theorem impl_quote (s : ByteArray) (hs : s.size ≤ 35184372088832) : impl_quoteText.f s = some (strOfNums (impl_quoteText.upto s s.size ++ [39])) := by
  unfold impl_quoteText.f
  rw [if_pos hs]

theorem strOfNums_size (l : List Int) : (strOfNums l).size = l.length := by
  unfold strOfNums
  simp [ByteArray.size]
def NM : List ByteArray := (spec_l05Names.f).getD []
def OW : List ByteArray := (impl_opWords.f).getD []
theorem nm_is : spec_l05Names.f = some NM := rfl
theorem ow_is : impl_opWords.f = some OW := rfl
/-- An instruction's word. -/
def Wd (op : Int) : ByteArray := rdOf ByteArray.empty NM op
theorem ops (op : Int) (h1 : 1 ≤ op) (h2 : op ≤ 16) : op = 1 ∨ op = 2 ∨ op = 3 ∨ op = 4 ∨ op = 5 ∨ op = 6 ∨ op = 7 ∨ op = 8 ∨ op = 9 ∨ op = 10 ∨ op = 11 ∨ op = 12 ∨ op = 13 ∨ op = 14 ∨ op = 15 ∨ op = 16 := by omega
theorem word_same (op : Int) (h1 : 1 ≤ op) (h2 : op ≤ 16) : rdOf ByteArray.empty OW (wrap64 (op - 1)) = Wd op ∧ (Wd op).size ≤ 10 := by
  have hw : wrap64 (op - 1) = op - 1 := by unfold wrap64; omega
  rw [hw]
  rcases ops op h1 h2 with rfl | rfl | rfl | rfl | rfl | rfl | rfl | rfl | rfl | rfl | rfl | rfl | rfl | rfl | rfl | rfl <;> exact ⟨rfl, by decide⟩
def D (n : Int) : ByteArray := ⟨(Lib.itoa n).toArray⟩
theorem D_size (n : Int) (h0 : 0 ≤ n) (h1 : n ≤ 10000) : (D n).size ≤ 21 := digits_size n (by omega) (by omega)
theorem D_spec (n : Int) (h0 : 0 ≤ n) (h1 : n ≤ 10000) : Tos (fun k => spec_l00Digits.f k n) (D n) := digits n (by omega) (by omega)
theorem D_impl (n : Int) (h0 : 0 ≤ n) (h1 : n ≤ 10000) : strconv_Itoa_70.f n = some (D n) := by
  unfold strconv_Itoa_70.f
  rw [if_pos ⟨by omega, by omega⟩]
  rfl
abbrev sp : ByteArray := ⟨#[32]⟩
theorem sp_size : sp.size = 1 := rfl
theorem app_size (a b : ByteArray) : (a ++ b).size = a.size + b.size := ByteArray.size_append
/-- What follows the word. -/
def rest (op n m : Int) (t : ByteArray) (q : ByteArray) : List ByteArray :=
  if op = 1 then [q] else if op = 4 ∨ op = 5 then [t] else if op = 10 then [D n, D m] else if op = 11 then [t, D n] else if op = 12 ∨ op = 13 ∨ op = 15 ∨ op = 16 then [] else [D n]
def join : ByteArray → List ByteArray → List UInt8
  | a, [] => a.toList
  | a, x :: l => a.toList ++ (32 :: join x l)
theorem sp_data : sp.toList = [32] := lit_data #[32]
theorem join1 (a x : ByteArray) : (a ++ sp ++ x).toList = join a [x] := by
  rw [app_data, app_data, sp_data]
  simp [join]
theorem join2 (a x y : ByteArray) : (a ++ sp ++ x ++ sp ++ y).toList = join a [x, y] := by
  rw [app_data, app_data, app_data, app_data, sp_data]
  simp [join]
theorem join1' (a x : ByteArray) : (a ++ (sp ++ x)).toList = join a [x] := by
  rw [app_data, app_data, sp_data]
  simp [join]
theorem join2' (a x y : ByteArray) : (a ++ (sp ++ x ++ sp ++ y)).toList = join a [x, y] := by
  rw [app_data, app_data, app_data, app_data, sp_data]
  simp [join]
/-- The value's text of a push. -/
theorem push_text (a b : Int) (c : ByteArray) (h : Right a b c) : ∃ q : ByteArray, q.size ≤ 200 ∧ (a = 3 → Tos (fun k => spec_l02Quote.f k c) q ∧ impl_quoteText.f c = some q) ∧ (a ≠ 3 → Tos (fun k => spec_l01ValueText.f k a b c) q ∧ impl_valueText.f a b c = some q) := by
  by_cases ha : a = 3
  · have hc : c.size ≤ 60 := by
      rcases h with ⟨h, _⟩ | ⟨h, _⟩ | ⟨h, _⟩ | ⟨_, _, h⟩
      · omega
      · omega
      · omega
      · exact h
    refine ⟨strOfNums (impl_quoteText.upto c c.size ++ [39]), ?_, fun _ => ⟨⟨c.size + 1, fun k hk => spec_quote c (by omega) k (by omega)⟩, impl_quote c (by omega)⟩, fun h => absurd ha h⟩
    have h2 := impl_quoteText.upto_le c c.size
    rw [strOfNums_size, List.length_append]
    simp only [List.length_cons, List.length_nil]
    omega
  · obtain ⟨x, h1, h2, h3⟩ := value_text a b c h
    exact ⟨x, by omega, fun h => absurd h ha, fun _ => ⟨h1, h2⟩⟩
/-- The reference's text of a right instruction. -/
theorem spec_text (op n m a b : Int) (t c q : ByteArray) (h1 : 1 ≤ op) (h2 : op ≤ 16) (hn : 0 ≤ n ∧ n ≤ 10000) (hm : 0 ≤ m ∧ m ≤ 10000) (ht : t.size ≤ 20) (hq : q.size ≤ 200)
    (hq1 : a = 3 → Tos (fun k => spec_l02Quote.f k c) q) (hq2 : a ≠ 3 → Tos (fun k => spec_l01ValueText.f k a b c) q) :
    ∃ x : ByteArray, x.toList = join (Wd op) (rest op n m t q) ∧ Tos (fun k => spec_InsText.j0 k false op n m t a b c) (x, 0) := by
  obtain ⟨_, hw⟩ := word_same op h1 h2
  have hlen : op < (NM.length : Int) := by
    have : NM.length = 17 := rfl
    omega
  have dn := D_spec n hn.1 hn.2
  have dm := D_spec m hm.1 hm.2
  have sn := D_size n hn.1 hn.2
  have sm := D_size m hm.1 hm.2
  have s1 : (Wd op ++ sp).size ≤ 11 := by rw [app_size, sp_size]; omega
  have step : ∀ (G : Nat → Option (ByteArray × Int)) (v : ByteArray × Int), Tos G v → (∀ k, spec_InsText.j0 (k + 1) false op n m t a b c = G k) → Tos (fun k => spec_InsText.j0 k false op n m t a b c) v := fun G v hG he => Tos.step hG he
  have e0 : ∀ k, spec_InsText.j0 (k + 1) false op n m t a b c = (if op = 1 then (if a = 3 then (if (Wd op).size + 1 ≤ 9223372036854775807 then ((spec_l02Quote.f k c).bind fun t150 => (if (Wd op ++ sp).size + t150.size ≤ 9223372036854775807 then (some ((Wd op ++ sp) ++ t150, 0)) else none)) else none) else (if (Wd op).size + 1 ≤ 9223372036854775807 then ((spec_l01ValueText.f k a b c).bind fun t151 => (if (Wd op ++ sp).size + t151.size ≤ 9223372036854775807 then (some ((Wd op ++ sp) ++ t151, 0)) else none)) else none)) else (if op = 4 then (spec_InsText.j1 k (Wd op) op (op == 4) op n m t a b c) else (spec_InsText.j1 k (Wd op) op (op == 5) op n m t a b c))) := fun k => by
    rw [spec_InsText.j0, if_neg (by decide), nm_is]
    simp only [Option.bind_some]
    rw [if_pos (by omega), if_pos hlen]
    rfl
  by_cases c1 : op = 1
  · by_cases ca : a = 3
    · refine ⟨(Wd op ++ sp) ++ q, by rw [join1]; simp [rest, c1], step _ _ (Tos.ifPos c1 (Tos.ifPos ca (Tos.ifPos (by omega) (Tos.bind (hq1 ca) (Tos.ifPos (by omega) (Tos.pure _)))))) e0⟩
    · refine ⟨(Wd op ++ sp) ++ q, by rw [join1]; simp [rest, c1], step _ _ (Tos.ifPos c1 (Tos.ifNeg ca (Tos.ifPos (by omega) (Tos.bind (hq2 ca) (Tos.ifPos (by omega) (Tos.pure _)))))) e0⟩
  suffices hh : ∃ x : ByteArray, x.toList = join (Wd op) (rest op n m t q) ∧ Tos (fun k => spec_InsText.j1 k (Wd op) op (decide (op = 4 ∨ op = 5)) op n m t a b c) (x, 0) by
    obtain ⟨x, hx, hj⟩ := hh
    refine ⟨x, hx, step _ _ (Tos.ifNeg c1 (Tos.ite (fun c4 => ?_) (fun c4 => ?_))) e0⟩
    · rw [show (op == 4) = decide (op = 4 ∨ op = 5) by simp [c4]]
      exact hj
    · rw [show (op == 5) = decide (op = 4 ∨ op = 5) by by_cases c5 : op = 5 <;> simp [c4, c5]]
      exact hj
  have e1 : ∀ k, spec_InsText.j1 (k + 1) (Wd op) op (decide (op = 4 ∨ op = 5)) op n m t a b c = if op = 4 ∨ op = 5 then some ((Wd op ++ sp) ++ t, 0) else if op = 11 then (spec_l00Digits.f k n).bind (fun t152 => if (((Wd op ++ sp) ++ t) ++ sp).size + t152.size ≤ 9223372036854775807 then some ((((Wd op ++ sp) ++ t) ++ sp) ++ t152, 0) else none) else if op = 10 then (spec_l00Digits.f k n).bind (fun t153 => if (Wd op ++ sp).size + t153.size ≤ 9223372036854775807 then (if ((Wd op ++ sp) ++ t153).size + 1 ≤ 9223372036854775807 then ((spec_l00Digits.f k m).bind fun t154 => (if (((Wd op ++ sp) ++ t153) ++ sp).size + t154.size ≤ 9223372036854775807 then (some ((((Wd op ++ sp) ++ t153) ++ sp) ++ t154, 0)) else none)) else none) else none) else if op = 12 ∨ op = 13 ∨ op = 15 ∨ op = 16 then some (Wd op, 0) else (spec_l00Digits.f k n).bind (fun t155 => if (Wd op ++ sp).size + t155.size ≤ 9223372036854775807 then some ((Wd op ++ sp) ++ t155, 0) else none) := fun k => by
    have s2 : ((Wd op ++ sp) ++ t).size ≤ 31 := by rw [app_size]; omega
    rw [spec_InsText.j1]
    simp only [if_pos (show (Wd op).size + 1 ≤ 9223372036854775807 by omega), if_pos (show (Wd op ++ sp).size + t.size ≤ 9223372036854775807 by omega), if_pos (show ((Wd op ++ sp) ++ t).size + 1 ≤ 9223372036854775807 by omega)]
    by_cases c45 : op = 4 ∨ op = 5
    · rw [if_pos (by simpa using c45), if_pos c45]
    · rw [if_neg (by simpa using c45), if_neg c45]
      by_cases c11 : op = 11
      · rw [if_pos c11, if_pos c11]
      · rw [if_neg c11, if_neg c11]
        by_cases c10 : op = 10
        · rw [if_pos c10, if_pos c10]
        · rw [if_neg c10, if_neg c10]
          by_cases c12 : op = 12
          · rw [if_pos c12, if_pos (.inl c12)]
          · by_cases c13 : op = 13
            · rw [if_neg c12, if_pos c13, if_pos (.inr (.inl c13))]
            · by_cases c15 : op = 15
              · rw [if_neg c12, if_neg c13, if_pos c15, if_pos (.inr (.inr (.inl c15)))]
              · by_cases c16 : op = 16
                · rw [if_neg c12, if_neg c13, if_neg c15, if_pos c16, if_pos (.inr (.inr (.inr c16)))]
                · rw [if_neg c12, if_neg c13, if_neg c15, if_neg c16, if_neg (by omega)]
  by_cases c45 : op = 4 ∨ op = 5
  · exact ⟨(Wd op ++ sp) ++ t, by rw [join1]; simp [rest, c1, c45], Tos.step (Tos.ifPos c45 (Tos.pure _)) e1⟩
  by_cases c11 : op = 11
  · refine ⟨(((Wd op ++ sp) ++ t) ++ sp) ++ D n, by rw [join2]; simp [rest, c11], Tos.step (Tos.ifNeg c45 (Tos.ifPos c11 (Tos.bind dn (Tos.ifPos ?_ (Tos.pure _))))) e1⟩
    rw [app_size, app_size, sp_size]; omega
  by_cases c10 : op = 10
  · refine ⟨(((Wd op ++ sp) ++ D n) ++ sp) ++ D m, by rw [join2]; simp [rest, c10], Tos.step (Tos.ifNeg c45 (Tos.ifNeg c11 (Tos.ifPos c10 (Tos.bind dn (Tos.ifPos ?_ (Tos.ifPos ?_ (Tos.bind dm (Tos.ifPos ?_ (Tos.pure _))))))))) e1⟩
    · omega
    · rw [app_size]; omega
    · rw [app_size, app_size, sp_size]; omega
  by_cases c12 : op = 12 ∨ op = 13 ∨ op = 15 ∨ op = 16
  · exact ⟨Wd op, by simp [rest, c1, c45, c10, c11, c12, join], Tos.step (Tos.ifNeg c45 (Tos.ifNeg c11 (Tos.ifNeg c10 (Tos.ifPos c12 (Tos.pure _))))) e1⟩
  · exact ⟨(Wd op ++ sp) ++ D n, by rw [join1]; simp [rest, c1, c45, c10, c11, c12], Tos.step (Tos.ifNeg c45 (Tos.ifNeg c11 (Tos.ifNeg c10 (Tos.ifNeg c12 (Tos.bind dn (Tos.ifPos (by omega) (Tos.pure _))))))) e1⟩
theorem leads_is (op : Int) (h1 : 1 ≤ op) (h2 : op ≤ 16) : Tos (fun k => impl_leads.f k op) (decide (op = 6 ∨ op = 7 ∨ op = 8 ∨ op = 9 ∨ op = 14)) := by
  refine ⟨7, fun k hk => at_rounds (g := fun k => impl_leads.f k op) (impl_leads.mono op) hk ?_⟩
  have e1 : wrap64 1 = 1 := by unfold wrap64; omega
  have e2 : wrap64 2 = 2 := by unfold wrap64; omega
  have e3 : wrap64 3 = 3 := by unfold wrap64; omega
  have e4 : wrap64 4 = 4 := by unfold wrap64; omega
  have e5 : wrap64 5 = 5 := by unfold wrap64; omega
  show impl_leads.f 7 op = _
  unfold impl_leads.f slices_Contains_int_int.f slices_Index_int_int.f
  by_cases c1 : op = 6
  · simp [slices_Index_int_int.l0, rd, c1]
  by_cases c2 : op = 7
  · simp [slices_Index_int_int.l0, rd, c2, e1]
  by_cases c3 : op = 8
  · simp [slices_Index_int_int.l0, rd, c3, e1, e2]
  by_cases c4 : op = 9
  · simp [slices_Index_int_int.l0, rd, c4, e1, e2, e3]
  by_cases c5 : op = 14
  · simp [slices_Index_int_int.l0, rd, c5, e1, e2, e3, e4]
  simp [slices_Index_int_int.l0, rd, c1, c2, c3, c4, c5, e1, e2, e3, e4, e5]
/-- The program's text of a right instruction. -/
theorem impl_text (op n m a b : Int) (t c q : ByteArray) (h1 : 1 ≤ op) (h2 : op ≤ 16) (hn : 0 ≤ n ∧ n ≤ 10000) (hm : 0 ≤ m ∧ m ≤ 10000) (ht : t.size ≤ 20) (hq : q.size ≤ 200)
    (hq1 : a = 3 → impl_quoteText.f c = some q) (hq2 : a ≠ 3 → impl_valueText.f a b c = some q) :
    ∃ x : ByteArray, x.toList = join (Wd op) (rest op n m t q) ∧ Tos (fun k => impl_insText.j1 k false op n m t a b c) (x, true) := by
  obtain ⟨hw0, hw⟩ := word_same op h1 h2
  have hlen : op - 1 < (OW.length : Int) := by
    have : OW.length = 16 := rfl
    omega
  have hwr : wrap64 (op - 1) = op - 1 := by unfold wrap64; omega
  have dn := D_impl n hn.1 hn.2
  have dm := D_impl m hm.1 hm.2
  have sn := D_size n hn.1 hn.2
  have sm := D_size m hm.1 hm.2
  have e1 : ∀ k, impl_insText.j1 (k + 1) false op n m t a b c = if op = 1 then impl_insText.j2 k (Wd op) (D n) (a == 3) op n m t a b c else impl_insText.j2 k (Wd op) (D n) false op n m t a b c := fun k => by
    rw [impl_insText.j1, if_neg (by decide), ow_is]
    simp only [Option.bind_some]
    rw [hw0, hwr, if_pos (by omega), if_pos hlen, dn]
    rfl
  have sq0 : (sp ++ q).size ≤ 201 := by rw [app_size, sp_size]; omega
  have sq : ((⟨#[32]⟩ : ByteArray) ++ q).size ≤ 201 := sq0
  have st0 : (sp ++ t).size ≤ 21 := by rw [app_size, sp_size]; omega
  have st : ((⟨#[32]⟩ : ByteArray) ++ t).size ≤ 21 := st0
  have sd0 : (sp ++ D n).size ≤ 22 := by rw [app_size, sp_size]; omega
  have sd : ((⟨#[32]⟩ : ByteArray) ++ D n).size ≤ 22 := sd0
  by_cases c1 : op = 1
  · by_cases ca : a = 3
    · refine ⟨Wd op ++ (sp ++ q), by rw [join1']; simp [rest, c1], Tos.step (Tos.ifPos c1 (Tos.step (G := fun _ => some (Wd op ++ (sp ++ q), true)) (Tos.pure _) (fun k => ?_))) e1⟩
      rw [impl_insText.j2, if_pos (by simp [ca]), hq1 ca]
      simp only [Option.bind_some]
      rw [if_pos (by omega), if_pos (by omega)]
    · refine ⟨Wd op ++ (sp ++ q), by rw [join1']; simp [rest, c1], Tos.step (Tos.ifPos c1 (Tos.step (G := fun _ => some (Wd op ++ (sp ++ q), true)) (Tos.pure _) (fun k => ?_))) e1⟩
      rw [impl_insText.j2, if_neg (by simp [ca]), if_pos c1, hq2 ca]
      simp only [Option.bind_some]
      rw [if_pos (by omega), if_pos (by omega)]
  have e2 : ∀ k, impl_insText.j2 (k + 1) (Wd op) (D n) false op n m t a b c = impl_insText.j3 k (Wd op) (D n) (decide (op = 4 ∨ op = 5)) op n m t a b c := fun k => by
    rw [impl_insText.j2, if_neg (by decide), if_neg c1]
    by_cases c4 : op = 4
    · rw [if_pos c4]
      simp [c4]
    · rw [if_neg c4, show (op == 5) = decide (op = 4 ∨ op = 5) by by_cases c5 : op = 5 <;> simp [c4, c5]]
  suffices hh : ∃ x : ByteArray, x.toList = join (Wd op) (rest op n m t q) ∧ Tos (fun k => impl_insText.j3 k (Wd op) (D n) (decide (op = 4 ∨ op = 5)) op n m t a b c) (x, true) by
    obtain ⟨x, hx, hj⟩ := hh
    exact ⟨x, hx, Tos.step (Tos.ifNeg c1 (Tos.step hj e2)) e1⟩
  by_cases c45 : op = 4 ∨ op = 5
  · refine ⟨Wd op ++ (sp ++ t), by rw [join1']; simp [rest, c1, c45], Tos.step (G := fun _ => some (Wd op ++ (sp ++ t), true)) (Tos.pure _) (fun k => ?_)⟩
    rw [impl_insText.j3, if_pos (by simpa using c45), if_pos (by omega), if_pos (by omega)]
  have hb : ¬ (decide (op = 4 ∨ op = 5) = true) := by simpa using c45
  by_cases c10 : op = 10
  · have z10 : (sp ++ D n ++ sp).size ≤ 23 := by rw [app_size, sp_size]; omega
    have z1 : ((⟨#[32]⟩ : ByteArray) ++ D n ++ (⟨#[32]⟩ : ByteArray)).size ≤ 23 := z10
    have z20 : (sp ++ D n ++ sp ++ D m).size ≤ 44 := by rw [app_size]; omega
    have z2 : ((⟨#[32]⟩ : ByteArray) ++ D n ++ (⟨#[32]⟩ : ByteArray) ++ D m).size ≤ 44 := z20
    refine ⟨Wd op ++ (sp ++ D n ++ sp ++ D m), by rw [join2']; simp [rest, c10], Tos.step (G := fun _ => some (Wd op ++ (sp ++ D n ++ sp ++ D m), true)) (Tos.pure _) (fun k => ?_)⟩
    rw [impl_insText.j3, if_neg hb, if_pos c10, dm]
    simp only [Option.bind_some]
    rw [if_pos (by omega), if_pos (by omega), if_pos (by omega), if_pos (by omega)]
  by_cases c11 : op = 11
  · have z10 : (sp ++ t ++ sp).size ≤ 22 := by rw [app_size, sp_size]; omega
    have z1 : ((⟨#[32]⟩ : ByteArray) ++ t ++ (⟨#[32]⟩ : ByteArray)).size ≤ 22 := z10
    have z20 : (sp ++ t ++ sp ++ D n).size ≤ 43 := by rw [app_size]; omega
    have z2 : ((⟨#[32]⟩ : ByteArray) ++ t ++ (⟨#[32]⟩ : ByteArray) ++ D n).size ≤ 43 := z20
    refine ⟨Wd op ++ (sp ++ t ++ sp ++ D n), by rw [join2']; simp [rest, c11], Tos.step (G := fun _ => some (Wd op ++ (sp ++ t ++ sp ++ D n), true)) (Tos.pure _) (fun k => ?_)⟩
    rw [impl_insText.j3, if_neg hb, if_neg c10, if_pos c11, if_pos (by omega), if_pos (by omega), if_pos (by omega), if_pos (by omega)]
  by_cases c2 : op = 2
  · refine ⟨Wd op ++ (sp ++ D n), by rw [join1']; simp [rest, c2], Tos.step (G := fun _ => some (Wd op ++ (sp ++ D n), true)) (Tos.pure _) (fun k => ?_)⟩
    rw [impl_insText.j3, if_neg hb, if_neg c10, if_neg c11, if_pos c2, if_pos (by omega), if_pos (by omega)]
  by_cases c3 : op = 3
  · refine ⟨Wd op ++ (sp ++ D n), by rw [join1']; simp [rest, c3], Tos.step (G := fun _ => some (Wd op ++ (sp ++ D n), true)) (Tos.pure _) (fun k => ?_)⟩
    rw [impl_insText.j3, if_neg hb, if_neg c10, if_neg c11, if_neg c2, if_pos c3, if_pos (by omega), if_pos (by omega)]
  have hl := leads_is op h1 h2
  by_cases cl : op = 6 ∨ op = 7 ∨ op = 8 ∨ op = 9 ∨ op = 14
  · rw [decide_eq_true cl] at hl
    refine ⟨Wd op ++ (sp ++ D n), by rw [join1']; simp only [rest]; rw [if_neg c1, if_neg c45, if_neg c10, if_neg c11, if_neg (by omega)], Tos.step (G := fun k => (impl_leads.f k op).bind fun t194 => if t194 = true then some (Wd op ++ (sp ++ D n), true) else some (Wd op, true)) (Tos.bind hl (Tos.ifPos rfl (Tos.pure _))) (fun k => ?_)⟩
    rw [impl_insText.j3, if_neg hb, if_neg c10, if_neg c11, if_neg c2, if_neg c3, if_pos (by omega), if_pos (by omega)]
  · rw [decide_eq_false cl] at hl
    refine ⟨Wd op, by simp only [rest]; rw [if_neg c1, if_neg c45, if_neg c10, if_neg c11, if_pos (by omega)]; rfl, Tos.step (G := fun k => (impl_leads.f k op).bind fun t194 => if t194 = true then some (Wd op ++ (sp ++ D n), true) else some (Wd op, true)) (Tos.bind hl (Tos.ifNeg (by decide) (Tos.pure _))) (fun k => ?_)⟩
    rw [impl_insText.j3, if_neg hb, if_neg c10, if_neg c11, if_neg c2, if_neg c3, if_pos (by omega), if_pos (by omega)]
theorem same (op n m a b : Int) (t c : ByteArray) : ∃ (x y : ByteArray) (z : Int), y.toList = x.toList ∧ Tos (fun k => spec_InsText.f k op n m t a b c) (x, z) ∧ Tos (fun k => impl_InsText.f k op n m t a b c) (y, z) := by
  have bad1 : Tos (fun k => spec_InsText.j0 k true op n m t a b c) (⟨#[]⟩, 1) := Tos.step (G := fun _ => some ((⟨#[]⟩ : ByteArray), (1 : Int))) (Tos.pure _) (fun k => by simp only [spec_InsText.j0, if_true])
  have bad2 : Tos (fun k => impl_insText.j1 k true op n m t a b c) (⟨#[]⟩, false) := Tos.step (G := fun _ => some ((⟨#[]⟩ : ByteArray), false)) (Tos.pure _) (fun k => by simp only [impl_insText.j1, if_true])
  have impl0 : ∀ (p : Bool) (v : ByteArray × Bool), Tos (fun k => impl_insText.j1 k (!(decide (1 ≤ op ∧ op ≤ 16) && decide (Right a b c) && p)) op n m t a b c) v → Tos (fun k => impl_insText.j0 k p op n m t a b c) v := fun p v hv => by
    refine Tos.step hv (fun k => ?_)
    rw [impl_insText.j0, in_impl, impl_right]
    cases decide (1 ≤ op ∧ op ≤ 16) <;> cases decide (Right a b c) <;> cases p <;> rfl
  have impl1 : ∀ (v : ByteArray × Bool), Tos (fun k => impl_insText.j0 k (decide (0 ≤ n ∧ n ≤ 10000) && decide (0 ≤ m ∧ m ≤ 10000) && decide ((t.size : Int) ≤ 20)) op n m t a b c) v → Tos (fun k => impl_insText.f k op n m t a b c) v := fun v hv => by
    unfold impl_insText.f
    rw [in_impl, in_impl]
    cases h1 : decide (0 ≤ n ∧ n ≤ 10000) with
    | false => rw [h1] at hv; exact Tos.bind (Tos.pure false) (Tos.ifNeg (by decide) hv)
    | true =>
      rw [h1] at hv
      cases h2 : decide (0 ≤ m ∧ m ≤ 10000) with
      | false => rw [h2] at hv; exact Tos.bind (Tos.pure true) (Tos.ifPos rfl (Tos.bind (Tos.pure false) (Tos.ifNeg (by decide) hv)))
      | true => rw [h2] at hv; exact Tos.bind (Tos.pure true) (Tos.ifPos rfl (Tos.bind (Tos.pure true) (Tos.ifPos rfl hv)))
  have spec1 : ∀ (v : ByteArray × Int), Tos (fun k => spec_InsText.j0 k (!(decide (1 ≤ op ∧ op ≤ 16) && decide (Right a b c) && decide ((t.size : Int) ≤ 20) && decide (0 ≤ n ∧ n ≤ 10000) && decide (0 ≤ m ∧ m ≤ 10000))) op n m t a b c) v → Tos (fun k => spec_InsText.f k op n m t a b c) v := fun v hv => by
    unfold spec_InsText.f
    rw [in_spec, spec_right, in_spec, in_spec]
    cases h1 : decide (1 ≤ op ∧ op ≤ 16) with
    | false => rw [h1] at hv; exact Tos.bind (Tos.pure false) (Tos.ifNeg (by decide) hv)
    | true =>
      rw [h1] at hv
      refine Tos.bind (Tos.pure true) (Tos.ifPos rfl ?_)
      cases h2 : decide (Right a b c) with
      | false => rw [h2] at hv; exact Tos.bind (Tos.pure false) (Tos.ifNeg (by decide) hv)
      | true =>
        rw [h2] at hv
        refine Tos.bind (Tos.pure true) (Tos.ifPos rfl ?_)
        by_cases h3 : (t.size : Int) ≤ 20
        · rw [decide_eq_true h3] at hv
          refine Tos.ifNeg (by omega) ?_
          cases h4 : decide (0 ≤ n ∧ n ≤ 10000) with
          | false => rw [h4] at hv; exact Tos.bind (Tos.pure false) (Tos.ifNeg (by decide) hv)
          | true =>
            rw [h4] at hv
            exact Tos.bind (Tos.pure true) (Tos.ifPos rfl (Tos.bind (Tos.pure _) hv))
        · rw [decide_eq_false h3] at hv
          exact Tos.ifPos (by omega) hv
  by_cases hv : (1 ≤ op ∧ op ≤ 16) ∧ Right a b c ∧ (t.size : Int) ≤ 20 ∧ (0 ≤ n ∧ n ≤ 10000) ∧ (0 ≤ m ∧ m ≤ 10000)
  · obtain ⟨⟨v1, v2⟩, v3, v4, v5, v6⟩ := hv
    obtain ⟨q, q0, q1, q2⟩ := push_text a b c v3
    obtain ⟨x, hx, hX⟩ := spec_text op n m a b t c q v1 v2 v5 v6 (by omega) q0 (fun h => (q1 h).1) (fun h => (q2 h).1)
    obtain ⟨y, hy, hY⟩ := impl_text op n m a b t c q v1 v2 v5 v6 (by omega) q0 (fun h => (q1 h).2) (fun h => (q2 h).2)
    refine ⟨x, y, 0, hy.trans hx.symm, spec1 _ ?_, ?_⟩
    · rw [decide_eq_true (show 1 ≤ op ∧ op ≤ 16 from ⟨v1, v2⟩), decide_eq_true v3, decide_eq_true v4, decide_eq_true v5, decide_eq_true v6]
      exact hX
    · unfold impl_InsText.f
      refine Tos.bind (impl1 _ (?_ : Tos _ (y, true))) (Tos.ifPos rfl (Tos.pure _))
      rw [decide_eq_true v4, decide_eq_true v5, decide_eq_true v6]
      refine impl0 _ _ ?_
      rw [decide_eq_true (show 1 ≤ op ∧ op ≤ 16 from ⟨v1, v2⟩), decide_eq_true v3]
      exact hY
  · refine ⟨⟨#[]⟩, ⟨#[]⟩, 1, rfl, spec1 _ ?_, ?_⟩
    · rw [show (!(decide (1 ≤ op ∧ op ≤ 16) && decide (Right a b c) && decide ((t.size : Int) ≤ 20) && decide (0 ≤ n ∧ n ≤ 10000) && decide (0 ≤ m ∧ m ≤ 10000))) = true by
        rw [Bool.not_eq_true', ← Bool.not_eq_true]
        simp only [Bool.and_eq_true, decide_eq_true_eq]
        exact fun h => hv ⟨h.1.1.1.1, h.1.1.1.2, h.1.1.2, h.1.2, h.2⟩]
      exact bad1
    · unfold impl_InsText.f
      refine Tos.bind (impl1 _ (impl0 _ (⟨#[]⟩, false) ?_)) (Tos.ifNeg (by decide) (Tos.pure _))
      rw [show (!(decide (1 ≤ op ∧ op ≤ 16) && decide (Right a b c) && (decide (0 ≤ n ∧ n ≤ 10000) && decide (0 ≤ m ∧ m ≤ 10000) && decide ((t.size : Int) ≤ 20)))) = true by
        rw [Bool.not_eq_true', ← Bool.not_eq_true]
        simp only [Bool.and_eq_true, decide_eq_true_eq]
        exact fun h => hv ⟨h.1.1, h.1.2, h.2.2, h.2.1.1, h.2.1.2⟩]
      exact bad2
theorem FnExactInsText : GoalFnExactInsText.Pure := by
  intro op n m t a b c _ _ _ ht _ _ hc
  refine Tos.at (F := fun k => laws_FnExactInsText.f k op n m t a b c) ?_
  unfold laws_FnExactInsText.f
  obtain ⟨z, hz, hs0⟩ := sz_Ins op n m t a b c ht hc 1048576 (by omega) (by omega)
  rcases hz with rfl | ⟨hz0, hz1, hs⟩
  · exact Tos.bind hs0 (Tos.ifPos (by decide) (Tos.pure _))
  refine Tos.bind hs0 (Tos.ifNeg (by omega) ?_)
  have h6 := to_Ins op n m t a b c hs
  generalize g_Ins op n m t a b c = v at *
  obtain ⟨x, y, z, hxy, e1, e2⟩ := same v.1 v.2.1 v.2.2.1 v.2.2.2.2.1 v.2.2.2.2.2.1 v.2.2.2.1 v.2.2.2.2.2.2
  exact Tos.bind h6 (Tos.bind e1 (Tos.bind h6 (Tos.bind e2 (Tos.ifPos hxy (Tos.eq (Tos.pure _))))))

end Go.Proofs.YthclofmcinknlaaDoor.Pure
