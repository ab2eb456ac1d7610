/- The law FnExactBuiltin over plain data; no condition. -/
import Derived.Test.YthclofmcinknlaaDoorGoalFnExactBuiltin
import Derived.Test.YthclofmcinknlaaDoorFamFnExactBuiltin
import Derived.Lib.ItoaLen
namespace Go.Proofs.YthclofmcinknlaaDoor.Pure
open Go.RowKit Go.Proofs.YthclofmcinknlaaDoor.QFnExactBuiltin Go.Proofs.YthclofmcinknlaaDoorW.PrintWords Go.Proofs.YthclofmcinknlaaDoorW.PrintLast Go.Proofs.YthclofmcinknlaaDoor.GoalFnExactBuiltin Go.Proofs.YthclofmcinknlaaDoor

set_option linter.unusedSimpArgs false
set_option linter.unusedVariables false

open Go.Proofs.YthclofmcinknlaaDoor.Fam Go.Proofs.YthclofmcinknlaaDoor.FamFnExactBuiltin
/-- A right value. -/
def Right (k n : Int) (t : ByteArray) : Prop :=
  (k = 0 ∧ n = 0 ∧ t.toList = []) ∨ (k = 1 ∧ -2147483648 ≤ n ∧ n ≤ 2147483647 ∧ t.toList = []) ∨ (k = 2 ∧ 0 ≤ n ∧ n ≤ 1 ∧ t.toList = []) ∨ (k = 3 ∧ n = 0 ∧ t.size ≤ 60)
instance (k n : Int) (t : ByteArray) : Decidable (Right k n t) := by unfold Right; exact inferInstance

theorem spec_right (k n : Int) (t : ByteArray) : spec_ValueOK.f k n t = some (decide (Right k n t)) := by
  unfold spec_ValueOK.f spec_l01In.f Right
  by_cases h0 : k = 0
  · subst h0
    by_cases hn : n = 0 <;> by_cases ht : t.toList = [] <;> simp [hn, ht]
  by_cases h1 : k = 1
  · subst h1
    by_cases ha : -2147483648 ≤ n <;> by_cases hb : n ≤ 2147483647 <;> by_cases ht : t.toList = [] <;> simp [ha, hb, ht]
  by_cases h2 : k = 2
  · subst h2
    by_cases ha : 0 ≤ n <;> by_cases hb : n ≤ 1 <;> by_cases ht : t.toList = [] <;> simp [ha, hb, ht]
  by_cases h3 : k = 3
  · subst h3
    by_cases hn : n = 0 <;> by_cases ht : t.size ≤ 60 <;> simp [hn, ht] <;> omega
  simp [h0, h1, h2, h3]

theorem impl_right (k n : Int) (t : ByteArray) : impl_ValueOK.f k n t = some (decide (Right k n t)) := by
  unfold impl_ValueOK.f impl_within.f Right
  by_cases h0 : k = 0
  · subst h0
    by_cases hn : n = 0 <;> by_cases ht : t.toList = [] <;> simp [hn, ht]
  by_cases h1 : k = 1
  · subst h1
    by_cases ha : -2147483648 ≤ n <;> by_cases hb : n ≤ 2147483647 <;> by_cases ht : t.toList = [] <;> simp [ha, hb, ht]
  by_cases h2 : k = 2
  · subst h2
    by_cases ha : 0 ≤ n <;> by_cases hb : n ≤ 1 <;> by_cases ht : t.toList = [] <;> simp [ha, hb, ht]
  by_cases h3 : k = 3
  · subst h3
    by_cases hn : n = 0 <;> by_cases ht : t.size ≤ 60 <;> simp [hn, ht] <;> omega
  simp [h0, h1, h2, h3]

/-- The bulk of a value: what is left, or -1. -/
theorem sz_value (k n : Int) (t : ByteArray) (l : Int) (h0 : 0 ≤ l) (h1 : l ≤ 1048576) (ht : t.size ≤ maxLen) :
    (laws_szValue.f k n t l = some (-1)) ∨ (laws_szValue.f k n t l = some (l - t.size) ∧ (t.size : Int) ≤ l) := by
  unfold maxLen at ht
  have e : wrap64 (l - (t.size : Int)) = l - t.size := by unfold wrap64; omega
  unfold laws_szValue.f
  rw [e]
  by_cases h : l - (t.size : Int) < 0
  · rw [if_pos h]; exact .inl rfl
  · rw [if_neg h]; exact .inr ⟨rfl, by omega⟩

theorem digits_nat (u : Nat) (hu : u < 9223372036854775808) : Tos (fun k => spec_l00Digits.f k (u : Int)) (⟨(Lib.decDigits u).toArray⟩ : ByteArray) := by
  induction u using Nat.strongRecOn with
  | _ u ih =>
    by_cases h : u < 10
    · refine ⟨1, fun k hk => ?_⟩
      obtain ⟨k, rfl⟩ : ∃ m, k = m + 1 := ⟨k - 1, by omega⟩
      show spec_l00Digits.f (k + 1) (u : Int) = _
      have e : wrap64 (48 + (u : Int)) % 256 = ((48 + u : Nat) : Int) := by unfold wrap64; omega
      rw [spec_l00Digits.f, if_neg (by omega), if_neg (by omega), if_pos (by omega), e, Lib.decDigits_one h]
      rfl
    · obtain ⟨K, hK⟩ := ih (u / 10) (by omega) (by omega)
      refine ⟨K + 1, fun k hk => ?_⟩
      obtain ⟨k, rfl⟩ : ∃ m, k = m + 1 := ⟨k - 1, by omega⟩
      show spec_l00Digits.f (k + 1) (u : Int) = _
      have e1 : wrap64 (Int.tdiv (u : Int) 10) = ((u / 10 : Nat) : Int) := by
        rw [Int.tdiv_eq_ediv_of_nonneg (by omega)]
        unfold wrap64
        omega
      have e2 : wrap64 (48 + Int.tmod (u : Int) 10) % 256 = ((48 + u % 10 : Nat) : Int) := by
        rw [Int.tmod_eq_emod_of_nonneg (by omega)]
        unfold wrap64
        omega
      have hK' : spec_l00Digits.f k ((u / 10 : Nat) : Int) = _ := hK k (by omega)
      have hl := Lib.itoa_length_le ((u / 10 : Nat) : Int) (by omega) (by omega)
      rw [Lib.itoa_nonneg] at hl
      have hs : (⟨(Lib.decDigits (u / 10)).toArray⟩ : ByteArray).size ≤ 21 := by simpa [ByteArray.size] using hl
      have h1 : (strOfNums [((48 + u % 10 : Nat) : Int)]).size = 1 := rfl
      rw [spec_l00Digits.f, if_neg (by omega), if_neg (by omega), if_neg (by omega), e1, e2, hK']
      simp only [Option.bind_some]
      rw [if_pos (by omega)]
      rw [show Lib.decDigits u = Lib.decDigits (u / 10) ++ [UInt8.ofNat (48 + u % 10)] by rw [Lib.decDigits, dif_neg h]]
      congr 1

/-- The numeral of an int, as the specification writes it. -/
theorem digits (n : Int) (h0 : -9223372036854775808 < n) (h1 : n ≤ 9223372036854775807) : Tos (fun k => spec_l00Digits.f k n) (⟨(Lib.itoa n).toArray⟩ : ByteArray) := by
  by_cases h : n < 0
  · obtain ⟨u, rfl⟩ : ∃ u : Nat, n = -(u : Int) := ⟨n.natAbs, by omega⟩
    obtain ⟨K, hK⟩ := digits_nat u (by omega)
    refine ⟨K + 1, fun k hk => ?_⟩
    obtain ⟨k, rfl⟩ : ∃ m, k = m + 1 := ⟨k - 1, by omega⟩
    show spec_l00Digits.f (k + 1) (-(u : Int)) = _
    have e : wrap64 (- -(u : Int)) = (u : Int) := by unfold wrap64; omega
    have hK' : spec_l00Digits.f k (u : Int) = _ := hK k (by omega)
    have hl := Lib.itoa_length_le (u : Int) (by omega) (by omega)
    rw [Lib.itoa_nonneg] at hl
    have hs : (⟨(Lib.decDigits u).toArray⟩ : ByteArray).size ≤ 21 := by simpa [ByteArray.size] using hl
    rw [spec_l00Digits.f, if_neg (by omega), if_pos (by omega), e, hK']
    simp only [Option.bind_some]
    rw [if_pos (by omega), Lib.itoa_neg u (by omega)]
    congr 1
  · obtain ⟨u, rfl⟩ : ∃ u : Nat, n = (u : Int) := ⟨n.toNat, by omega⟩
    rw [Lib.itoa_nonneg]
    exact digits_nat u (by omega)

theorem digits_size (n : Int) (h0 : -9223372036854775808 ≤ n) (h1 : n ≤ 9223372036854775807) : (⟨(Lib.itoa n).toArray⟩ : ByteArray).size ≤ 21 := by
  have hl := Lib.itoa_length_le n h0 h1
  simpa [ByteArray.size] using hl

theorem app_data (a b : ByteArray) : (a ++ b).toList = a.toList ++ b.toList := by
  rw [ByteArray.toList_eq, ByteArray.toList_eq, ByteArray.toList_eq, ByteArray.data_append, Array.toList_append]

theorem lit_data (a : Array UInt8) : (⟨a⟩ : ByteArray).toList = a.toList := by rw [ByteArray.toList_eq]

theorem value_text (k n : Int) (t : ByteArray) (h : Right k n t) : ∃ x : ByteArray, Tos (fun f => spec_l01ValueText.f f k n t) x ∧ impl_valueText.f k n t = some x ∧ x.size ≤ 60 := by
  unfold spec_l01ValueText.f impl_valueText.f
  rcases h with ⟨rfl, h1, h2⟩ | ⟨rfl, h1, h2, h3⟩ | ⟨rfl, h1, h2, h3⟩ | ⟨rfl, h1, h2⟩
  · exact ⟨⟨#[110, 117, 108, 108]⟩, Tos.of fun _ => by simp, by simp, by decide⟩
  · refine ⟨⟨(Lib.itoa n).toArray⟩, Tos.ifPos rfl (Tos.bind (digits n (by omega) (by omega)) (Tos.pure _)), ?_, Nat.le_trans (digits_size n (by omega) (by omega)) (by decide)⟩
    unfold strconv_Itoa_70.f
    rw [if_neg (by decide), if_pos rfl, if_pos ⟨by omega, by omega⟩]
    rfl
  · by_cases hn : n = 1
    · subst hn
      exact ⟨⟨#[116, 114, 117, 101]⟩, Tos.of fun _ => by simp, by simp [strconv_FormatBool_71.f, strconv_FormatBool_91.f], by decide⟩
    · exact ⟨⟨#[102, 97, 108, 115, 101]⟩, Tos.of fun _ => by simp [hn], by simp [strconv_FormatBool_71.f, strconv_FormatBool_91.f, hn], by decide⟩
  · exact ⟨t, Tos.of fun _ => by simp, by simp, h2⟩

theorem in_spec (a b c : Int) : spec_l01In.f a b c = some (decide (b ≤ a ∧ a ≤ c)) := by
  unfold spec_l01In.f
  by_cases h : b ≤ a <;> by_cases h2 : a ≤ c <;> simp [h, h2]
theorem in_impl (a b c : Int) : impl_within.f a b c = some (decide (b ≤ a ∧ a ≤ c)) := by
  unfold impl_within.f
  by_cases h : b ≤ a <;> by_cases h2 : a ≤ c <;> simp [h, h2]

/-- The kinds of a function's arguments; is it one. -/
def kinds (n : List UInt8) : List Int × Bool :=
  if n = [108, 101, 110] then ([3], true) else if n = [115, 116, 114] then ([-1], true) else if n = [97, 98, 115] then ([1], true) else if n = [97, 116] then ([3, 1], true) else if n = [109, 97, 120] then ([1, 1], true) else if n = [109, 105, 110] then ([1, 1], true) else if n = [99, 117, 116] then ([3, 1, 1], true) else ([], false)
theorem kinds_impl (a : ByteArray) : Tos (fun k => impl_builtinKinds.f k a) (kinds a.toList) := by
  refine ⟨1, fun k hk => ?_⟩
  obtain ⟨k, rfl⟩ : ∃ m, k = m + 1 := ⟨k - 1, by omega⟩
  show impl_builtinKinds.f (k + 1) a = _
  unfold impl_builtinKinds.f kinds
  simp only [impl_builtinKinds.j0]
  by_cases h1 : a.toList = [108, 101, 110] <;> by_cases h2 : a.toList = [115, 116, 114] <;> by_cases h3 : a.toList = [97, 98, 115] <;> by_cases h4 : a.toList = [97, 116] <;> by_cases h5 : a.toList = [109, 97, 120] <;> by_cases h6 : a.toList = [109, 105, 110] <;> by_cases h7 : a.toList = [99, 117, 116] <;> simp_all
def count (n : List UInt8) : Int := if (kinds n).2 = true then ((kinds n).1.length : Int) else -1
theorem count_spec (a : ByteArray) : Tos (fun k => spec_l01Count.f k a) (count a.toList) := by
  refine ⟨4, fun k hk => ?_⟩
  obtain ⟨k, rfl⟩ : ∃ m, k = m + 4 := ⟨k - 4, by omega⟩
  show spec_l01Count.f (k + 4) a = _
  unfold spec_l01Count.f count kinds
  simp only [spec_l01Count.j0, spec_l01Count.j1]
  by_cases h1 : a.toList = [108, 101, 110] <;> by_cases h2 : a.toList = [115, 116, 114] <;> by_cases h3 : a.toList = [97, 98, 115] <;> by_cases h4 : a.toList = [97, 116] <;> by_cases h5 : a.toList = [109, 97, 120] <;> by_cases h6 : a.toList = [109, 105, 110] <;> by_cases h7 : a.toList = [99, 117, 116] <;> simp_all
theorem rdT (l : List S29) (j : Nat) (h : j < l.length) : rd_T29 l (j : Int) = l[j] := by
  show l.getD (j : Int).toNat _ = _
  rw [Int.toNat_natCast, List.getD_eq_getElem?_getD, List.getElem?_eq_getElem h]
  rfl
def rt (x : S29) : Bool := decide (Right x.f0 x.f1 x.f2)
theorem p_rt (x : S29) : impl_valuesOK.p x = !rt x := by
  unfold impl_valuesOK.p impl_valuesOK_1.f rt
  rw [impl_right]
  rfl
theorem from_all (l : List S29) : ∀ (d j : Nat), j + d = l.length → decide (0 ≤ impl_Value_93.from impl_valuesOK.p l d (j : Int)) = !((l.drop j).all rt)
  | 0, j, hj => by
    rw [List.drop_eq_nil_iff.2 (by omega)]
    rfl
  | d + 1, j, hj => by
    have hj' : j < l.length := by omega
    rw [impl_Value_93.from, rdT l j hj', p_rt, List.drop_eq_getElem_cons hj', List.all_cons]
    have g := from_all l d (j + 1) (by omega)
    cases hq : rt l[j] with
    | false =>
      rw [if_pos (by decide), decide_eq_true (by omega)]
      rfl
    | true =>
      rw [if_neg (by decide), show (j : Int) + 1 = ((j + 1 : Nat) : Int) by omega, g]
      rfl
theorem valid_impl (l : List S29) (hl : l.length ≤ 4611686018427387904) : impl_valuesOK.f l = some (l.all rt) := by
  unfold impl_valuesOK.f
  have g := from_all l l.length 0 (by omega)
  rw [List.drop_zero] at g
  have g' : decide (0 ≤ impl_Value_93.from impl_valuesOK.p l l.length 0) = !l.all rt := g
  rw [if_pos hl, g', Bool.not_not]
/-- The reference's tail, behind the look at the values. -/
theorem valid_spec (a : ByteArray) (l : List S29) (hl : l.length ≤ 4611686018427387904) (v : Int × Int × ByteArray × Int) (hv : l.all rt = true → Tos (fun k => (spec_l01Count.f k a).bind fun t251 => (if t251 < 0 then (some ((0 : Int), (0 : Int), (⟨#[]⟩ : ByteArray), (5 : Int))) else (if (l.length : Int) = t251 then ((spec_l01Builtin.f k a l).bind fun bt252 => (some (bt252.1, bt252.2.1, bt252.2.2.1, bt252.2.2.2))) else (some (0, 0, (⟨#[]⟩ : ByteArray), 14))))) v) :
    ∀ (d j : Nat), j + d = l.length → (l.take j).all rt = true → Tos (fun k => spec_Builtin.l0 k a l (j : Int)) (if (l.drop j).all rt = true then v else (0, 0, (⟨#[]⟩ : ByteArray), 1))
  | 0, j, hj, hp => by
    rw [List.take_of_length_le (by omega)] at hp
    rw [List.drop_eq_nil_iff.2 (by omega), if_pos (by simp)]
    refine Tos.step (hv hp) (fun k => ?_)
    rw [spec_Builtin.l0, if_neg (by omega)]
  | d + 1, j, hj, hp => by
    have hj' : j < l.length := by omega
    have e2 : wrap64 ((j : Int) + 1) = ((j + 1 : Nat) : Int) := by unfold wrap64; omega
    rw [List.drop_eq_getElem_cons hj', List.all_cons]
    cases hq : rt l[j] with
    | false =>
      rw [if_neg (by simp)]
      refine Tos.step (G := fun _ => some ((0 : Int), (0 : Int), (⟨#[]⟩ : ByteArray), (1 : Int))) (Tos.pure _) (fun k => ?_)
      rw [spec_Builtin.l0, if_pos (by omega), if_pos (by omega), rdT l j hj', spec_right, show decide (Right l[j].f0 l[j].f1 l[j].f2) = false from hq]
      rfl
    | true =>
      have g := valid_spec a l hl v hv d (j + 1) (by omega) (by rw [List.take_succ_eq_append_getElem hj', List.all_append, hp]; simp [hq])
      rw [Bool.true_and]
      refine Tos.step g (fun k => ?_)
      rw [spec_Builtin.l0, if_pos (by omega), if_pos (by omega), rdT l j hj', spec_right, show decide (Right l[j].f0 l[j].f1 l[j].f2) = true from hq, e2]
      rfl
/-- With enough rounds both answer so. -/
def Both {α : Type} (F G : Nat → Option α) : Prop := ∃ v, Tos F v ∧ Tos G v
theorem Both.at6 {α : Type} {F G : Nat → Option α} (v : α) (h1 : ∀ k, F (k + 6) = some v) (h2 : ∀ k, G (k + 6) = some v) : Both F G :=
  ⟨v, ⟨6, fun k hk => by obtain ⟨k, rfl⟩ : ∃ m, k = m + 6 := ⟨k - 6, by omega⟩; exact h1 k⟩, ⟨6, fun k hk => by obtain ⟨k, rfl⟩ : ∃ m, k = m + 6 := ⟨k - 6, by omega⟩; exact h2 k⟩⟩
theorem w1 : wrap64 1 = 1 := by unfold wrap64; omega
theorem w2 : wrap64 2 = 2 := by unfold wrap64; omega
theorem w3 : wrap64 3 = 3 := by unfold wrap64; omega
theorem do_len (a : ByteArray) (ha : a.toList = [108, 101, 110]) (x : S29) : Both (fun k => impl_builtin.f k a [x]) (fun k => spec_l01Builtin.f k a [x]) := by
  by_cases h : x.f0 = 3
  · refine Both.at6 (1, (x.f2.size : Int), ⟨#[]⟩, 0) (fun k => ?_) (fun k => ?_)
    · show impl_builtin.f (k + 6) a [x] = _
      unfold impl_builtin.f impl_builtinKinds.f
      simp [ha, impl_builtin.l0, rd, rd_T29, h, w1, impl_ofInt.f]
    · show spec_l01Builtin.f (k + 6) a [x] = _
      unfold spec_l01Builtin.f
      simp [ha, spec_l01Builtin.j0, spec_l01Builtin.j1, rd_T29, h, spec_l01Int.f]
  · refine Both.at6 (0, 0, ⟨#[]⟩, 8) (fun k => ?_) (fun k => ?_)
    · show impl_builtin.f (k + 6) a [x] = _
      unfold impl_builtin.f impl_builtinKinds.f
      simp [ha, impl_builtin.l0, rd, rd_T29, h, w1, impl_ofInt.f]
    · show spec_l01Builtin.f (k + 6) a [x] = _
      unfold spec_l01Builtin.f
      simp [ha, spec_l01Builtin.j0, spec_l01Builtin.j1, rd_T29, h, spec_l01Int.f]
theorem do_str (a : ByteArray) (ha : a.toList = [115, 116, 114]) (x : S29) (hx : Right x.f0 x.f1 x.f2) : Both (fun k => impl_builtin.f k a [x]) (fun k => spec_l01Builtin.f k a [x]) := by
  obtain ⟨t, h1, h2, _⟩ := value_text x.f0 x.f1 x.f2 hx
  refine ⟨(3, 0, t, 0), ⟨6, fun k hk => ?_⟩, ?_⟩
  · obtain ⟨k, rfl⟩ : ∃ m, k = m + 6 := ⟨k - 6, by omega⟩
    show impl_builtin.f (k + 6) a [x] = _
    unfold impl_builtin.f impl_builtinKinds.f
    simp [ha, impl_builtin.l0, rd, rd_T29, w1, impl_ofText.f, h2]
  · unfold spec_l01Builtin.f
    exact Tos.ifPos (by simp) (Tos.ifPos ha (Tos.bind h1 (Tos.pure _)))
theorem do_abs (a : ByteArray) (ha : a.toList = [97, 98, 115]) (x : S29) : Both (fun k => impl_builtin.f k a [x]) (fun k => spec_l01Builtin.f k a [x]) := by
  have e1 : ∀ n : Int, impl_inBounds.f n = spec_l01Fit.f n := fun n => by
    unfold impl_inBounds.f spec_l01Fit.f impl_within.f spec_l01In.f impl_ofInt.f spec_l01Int.f
    by_cases h1 : -2147483648 ≤ n <;> by_cases h2 : n ≤ 2147483647 <;> simp [h1, h2]
  have e2 : ∀ n : Int, ∃ v, spec_l01Fit.f n = some v := fun n => by
    unfold spec_l01Fit.f spec_l01In.f spec_l01Int.f
    by_cases h1 : -2147483648 ≤ n <;> by_cases h2 : n ≤ 2147483647 <;> simp [h1, h2]
  by_cases h : x.f0 = 1
  · obtain ⟨v, hv⟩ := e2 (mx x.f1 (wrap64 (-x.f1)))
    refine Both.at6 (v.1, v.2.1, v.2.2.1, v.2.2.2) (fun k => ?_) (fun k => ?_)
    · show impl_builtin.f (k + 6) a [x] = _
      unfold impl_builtin.f impl_builtinKinds.f
      simp [ha, impl_builtin.l0, rd, rd_T29, h, w1, e1, hv]
    · show spec_l01Builtin.f (k + 6) a [x] = _
      unfold spec_l01Builtin.f
      simp [ha, spec_l01Builtin.j0, spec_l01Builtin.j2, rd_T29, h, hv]
  · refine Both.at6 (0, 0, ⟨#[]⟩, 8) (fun k => ?_) (fun k => ?_)
    · show impl_builtin.f (k + 6) a [x] = _
      unfold impl_builtin.f impl_builtinKinds.f
      simp [ha, impl_builtin.l0, rd, rd_T29, h, w1]
    · show spec_l01Builtin.f (k + 6) a [x] = _
      unfold spec_l01Builtin.f
      simp [ha, spec_l01Builtin.j0, spec_l01Builtin.j2, rd_T29, h]
theorem do_max (a : ByteArray) (ha : a.toList = [109, 97, 120]) (x y : S29) : Both (fun k => impl_builtin.f k a [x, y]) (fun k => spec_l01Builtin.f k a [x, y]) := by
  by_cases h : x.f0 = 1 ∧ y.f0 = 1
  · refine Both.at6 (1, mx x.f1 y.f1, ⟨#[]⟩, 0) (fun k => ?_) (fun k => ?_)
    · show impl_builtin.f (k + 6) a [x, y] = _
      unfold impl_builtin.f impl_builtinKinds.f
      simp [ha, impl_builtinKinds.j0, impl_builtin.l0, rd, rd_T29, h.1, h.2, w1, w2, impl_ofInt.f]
    · show spec_l01Builtin.f (k + 6) a [x, y] = _
      unfold spec_l01Builtin.f
      simp [ha, spec_l01Builtin.j0, spec_l01Builtin.j2, rd_T29, h.1, h.2, spec_l01Int.f]
  · refine Both.at6 (0, 0, ⟨#[]⟩, 8) (fun k => ?_) (fun k => ?_)
    · show impl_builtin.f (k + 6) a [x, y] = _
      unfold impl_builtin.f impl_builtinKinds.f
      by_cases h1 : x.f0 = 1
      · have h2 : ¬ y.f0 = 1 := fun h2 => h ⟨h1, h2⟩
        simp [ha, impl_builtinKinds.j0, impl_builtin.l0, rd, rd_T29, h1, h2, w1, w2]
      · simp [ha, impl_builtinKinds.j0, impl_builtin.l0, rd, rd_T29, h1, w1, w2]
    · show spec_l01Builtin.f (k + 6) a [x, y] = _
      unfold spec_l01Builtin.f
      by_cases h1 : x.f0 = 1
      · have h2 : ¬ y.f0 = 1 := fun h2 => h ⟨h1, h2⟩
        simp [ha, spec_l01Builtin.j0, spec_l01Builtin.j2, rd_T29, h1, h2]
      · simp [ha, spec_l01Builtin.j0, spec_l01Builtin.j2, rd_T29, h1]
theorem do_min (a : ByteArray) (ha : a.toList = [109, 105, 110]) (x y : S29) : Both (fun k => impl_builtin.f k a [x, y]) (fun k => spec_l01Builtin.f k a [x, y]) := by
  by_cases h : x.f0 = 1 ∧ y.f0 = 1
  · refine Both.at6 (1, mn x.f1 y.f1, ⟨#[]⟩, 0) (fun k => ?_) (fun k => ?_)
    · show impl_builtin.f (k + 6) a [x, y] = _
      unfold impl_builtin.f impl_builtinKinds.f
      simp [ha, impl_builtinKinds.j0, impl_builtin.l0, rd, rd_T29, h.1, h.2, w1, w2, impl_ofInt.f]
    · show spec_l01Builtin.f (k + 6) a [x, y] = _
      unfold spec_l01Builtin.f
      simp [ha, spec_l01Builtin.j0, spec_l01Builtin.j2, rd_T29, h.1, h.2, spec_l01Int.f]
  · refine Both.at6 (0, 0, ⟨#[]⟩, 8) (fun k => ?_) (fun k => ?_)
    · show impl_builtin.f (k + 6) a [x, y] = _
      unfold impl_builtin.f impl_builtinKinds.f
      by_cases h1 : x.f0 = 1
      · have h2 : ¬ y.f0 = 1 := fun h2 => h ⟨h1, h2⟩
        simp [ha, impl_builtinKinds.j0, impl_builtin.l0, rd, rd_T29, h1, h2, w1, w2]
      · simp [ha, impl_builtinKinds.j0, impl_builtin.l0, rd, rd_T29, h1, w1, w2]
    · show spec_l01Builtin.f (k + 6) a [x, y] = _
      unfold spec_l01Builtin.f
      by_cases h1 : x.f0 = 1
      · have h2 : ¬ y.f0 = 1 := fun h2 => h ⟨h1, h2⟩
        simp [ha, spec_l01Builtin.j0, spec_l01Builtin.j2, rd_T29, h1, h2]
      · simp [ha, spec_l01Builtin.j0, spec_l01Builtin.j2, rd_T29, h1]
theorem do_at (a : ByteArray) (ha : a.toList = [97, 116]) (x y : S29) (hx : x.f2.size ≤ 1048576) : Both (fun k => impl_builtin.f k a [x, y]) (fun k => spec_l01Builtin.f k a [x, y]) := by
  by_cases h : x.f0 = 3 ∧ y.f0 = 1
  · have e : wrap64 ((x.f2.size : Int) - 1) = (x.f2.size : Int) - 1 := by unfold wrap64; omega
    by_cases hc : 0 ≤ y.f1 ∧ y.f1 ≤ (x.f2.size : Int) - 1
    · have hc' : y.f1 < (x.f2.size : Int) := by omega
      refine Both.at6 (1, wrap64 (bt x.f2 y.f1), ⟨#[]⟩, 0) (fun k => ?_) (fun k => ?_)
      · show impl_builtin.f (k + 6) a [x, y] = _
        unfold impl_builtin.f impl_builtinKinds.f
        simp [ha, impl_builtin.l0, rd, rd_T29, h.1, h.2, w1, w2, in_impl, e, hc, hc', impl_ofInt.f]
      · show spec_l01Builtin.f (k + 6) a [x, y] = _
        unfold spec_l01Builtin.f
        simp [ha, spec_l01Builtin.j0, spec_l01Builtin.j1, rd_T29, h.1, h.2, in_spec, e, hc, hc', spec_l01Int.f]
    · refine Both.at6 (0, 0, ⟨#[]⟩, 4) (fun k => ?_) (fun k => ?_)
      · show impl_builtin.f (k + 6) a [x, y] = _
        unfold impl_builtin.f impl_builtinKinds.f
        simp [ha, impl_builtin.l0, rd, rd_T29, h.1, h.2, w1, w2, in_impl, e, hc]
      · show spec_l01Builtin.f (k + 6) a [x, y] = _
        unfold spec_l01Builtin.f
        simp [ha, spec_l01Builtin.j0, spec_l01Builtin.j1, rd_T29, h.1, h.2, in_spec, e, hc]
  · refine Both.at6 (0, 0, ⟨#[]⟩, 8) (fun k => ?_) (fun k => ?_)
    · show impl_builtin.f (k + 6) a [x, y] = _
      unfold impl_builtin.f impl_builtinKinds.f
      by_cases h1 : x.f0 = 3
      · have h2 : ¬ y.f0 = 1 := fun h2 => h ⟨h1, h2⟩
        simp [ha, impl_builtin.l0, rd, rd_T29, h1, h2, w1, w2]
      · simp [ha, impl_builtin.l0, rd, rd_T29, h1, w1, w2]
    · show spec_l01Builtin.f (k + 6) a [x, y] = _
      unfold spec_l01Builtin.f
      by_cases h1 : x.f0 = 3
      · have h2 : ¬ y.f0 = 1 := fun h2 => h ⟨h1, h2⟩
        simp [ha, spec_l01Builtin.j0, spec_l01Builtin.j1, rd_T29, h1, h2]
      · simp [ha, spec_l01Builtin.j0, spec_l01Builtin.j1, rd_T29, h1]
theorem do_cut (a : ByteArray) (ha : a.toList = [99, 117, 116]) (x y z : S29) : Both (fun k => impl_builtin.f k a [x, y, z]) (fun k => spec_l01Builtin.f k a [x, y, z]) := by
  by_cases h : x.f0 = 3 ∧ y.f0 = 1 ∧ z.f0 = 1
  · obtain ⟨h1, h2, h3⟩ := h
    by_cases hc : 0 ≤ y.f1 ∧ y.f1 ≤ (x.f2.size : Int)
    · by_cases hd : y.f1 ≤ z.f1 ∧ z.f1 ≤ (x.f2.size : Int)
      · refine Both.at6 (3, 0, x.f2.extract y.f1.toNat z.f1.toNat, 0) (fun k => ?_) (fun k => ?_)
        · show impl_builtin.f (k + 6) a [x, y, z] = _
          unfold impl_builtin.f impl_builtinKinds.f
          simp [ha, impl_builtinKinds.j0, impl_builtin.l0, rd, rd_T29, h1, h2, h3, w1, w2, w3, in_impl, hc, hd, impl_ofText.f]
        · show spec_l01Builtin.f (k + 6) a [x, y, z] = _
          unfold spec_l01Builtin.f
          simp [ha, spec_l01Builtin.j0, spec_l01Builtin.j1, rd_T29, h1, h2, h3, in_spec, hc, hd, spec_l01Text.f]
      · refine Both.at6 (0, 0, ⟨#[]⟩, 4) (fun k => ?_) (fun k => ?_)
        · show impl_builtin.f (k + 6) a [x, y, z] = _
          unfold impl_builtin.f impl_builtinKinds.f
          simp [ha, impl_builtinKinds.j0, impl_builtin.l0, rd, rd_T29, h1, h2, h3, w1, w2, w3, in_impl, hc, hd]
        · show spec_l01Builtin.f (k + 6) a [x, y, z] = _
          unfold spec_l01Builtin.f
          simp [ha, spec_l01Builtin.j0, spec_l01Builtin.j1, rd_T29, h1, h2, h3, in_spec, hc, hd]
    · refine Both.at6 (0, 0, ⟨#[]⟩, 4) (fun k => ?_) (fun k => ?_)
      · show impl_builtin.f (k + 6) a [x, y, z] = _
        unfold impl_builtin.f impl_builtinKinds.f
        simp [ha, impl_builtinKinds.j0, impl_builtin.l0, rd, rd_T29, h1, h2, h3, w1, w2, w3, in_impl, hc]
      · show spec_l01Builtin.f (k + 6) a [x, y, z] = _
        unfold spec_l01Builtin.f
        simp [ha, spec_l01Builtin.j0, spec_l01Builtin.j1, rd_T29, h1, h2, h3, in_spec, hc]
  · refine Both.at6 (0, 0, ⟨#[]⟩, 8) (fun k => ?_) (fun k => ?_)
    · show impl_builtin.f (k + 6) a [x, y, z] = _
      unfold impl_builtin.f impl_builtinKinds.f
      by_cases h1 : x.f0 = 3
      · by_cases h2 : y.f0 = 1
        · have h3 : ¬ z.f0 = 1 := fun h3 => h ⟨h1, h2, h3⟩
          simp [ha, impl_builtinKinds.j0, impl_builtin.l0, rd, rd_T29, h1, h2, h3, w1, w2, w3]
        · simp [ha, impl_builtinKinds.j0, impl_builtin.l0, rd, rd_T29, h1, h2, w1, w2, w3]
      · simp [ha, impl_builtinKinds.j0, impl_builtin.l0, rd, rd_T29, h1, w1, w2, w3]
    · show spec_l01Builtin.f (k + 6) a [x, y, z] = _
      unfold spec_l01Builtin.f
      by_cases h1 : x.f0 = 3
      · by_cases h2 : y.f0 = 1
        · have h3 : ¬ z.f0 = 1 := fun h3 => h ⟨h1, h2, h3⟩
          simp [ha, spec_l01Builtin.j0, spec_l01Builtin.j1, rd_T29, h1, h2, h3]
        · simp [ha, spec_l01Builtin.j0, spec_l01Builtin.j1, rd_T29, h1, h2]
      · simp [ha, spec_l01Builtin.j0, spec_l01Builtin.j1, rd_T29, h1]
theorem do_all (a : ByteArray) (l : List S29) (hr : l.all rt = true) (hk : (kinds a.toList).2 = true) (hl : l.length = (kinds a.toList).1.length) (hs : ∀ x ∈ l, x.f2.size ≤ 1048576) : Both (fun k => impl_builtin.f k a l) (fun k => spec_l01Builtin.f k a l) := by
  unfold kinds at hk hl
  by_cases h1 : a.toList = [108, 101, 110]
  · rw [if_pos h1] at hl
    obtain ⟨x, rfl⟩ := List.length_eq_one_iff.1 hl
    exact do_len a h1 x
  by_cases h2 : a.toList = [115, 116, 114]
  · rw [if_neg h1, if_pos h2] at hl
    obtain ⟨x, rfl⟩ := List.length_eq_one_iff.1 hl
    refine do_str a h2 x (of_decide_eq_true ?_)
    simpa [rt] using hr
  by_cases h3 : a.toList = [97, 98, 115]
  · rw [if_neg h1, if_neg h2, if_pos h3] at hl
    obtain ⟨x, rfl⟩ := List.length_eq_one_iff.1 hl
    exact do_abs a h3 x
  by_cases h4 : a.toList = [97, 116]
  · rw [if_neg h1, if_neg h2, if_neg h3, if_pos h4] at hl
    match l, hl with
    | [x, y], _ => exact do_at a h4 x y (hs x (by simp))
  by_cases h5 : a.toList = [109, 97, 120]
  · rw [if_neg h1, if_neg h2, if_neg h3, if_neg h4, if_pos h5] at hl
    match l, hl with
    | [x, y], _ => exact do_max a h5 x y
  by_cases h6 : a.toList = [109, 105, 110]
  · rw [if_neg h1, if_neg h2, if_neg h3, if_neg h4, if_neg h5, if_pos h6] at hl
    match l, hl with
    | [x, y], _ => exact do_min a h6 x y
  by_cases h7 : a.toList = [99, 117, 116]
  · rw [if_neg h1, if_neg h2, if_neg h3, if_neg h4, if_neg h5, if_neg h6, if_pos h7] at hl
    match l, hl with
    | [x, y, z], _ => exact do_cut a h7 x y z
  rw [if_neg h1, if_neg h2, if_neg h3, if_neg h4, if_neg h5, if_neg h6, if_neg h7] at hk
  cases hk
/-- Both, of right values and any name. -/
theorem same (a : ByteArray) (l : List S29) (hl : l.length ≤ 4611686018427387904) (hs : ∀ x ∈ l, x.f2.size ≤ 1048576) : ∃ v : Int × Int × ByteArray × Int, Tos (fun k => spec_Builtin.f k a l) v ∧ Tos (fun k => impl_Builtin.f k a l) v := by
  have hlong : Tos (fun k => spec_Builtin.j0 k a l true) (0, 0, ⟨#[]⟩, 2) := Tos.step (G := fun _ => some ((0 : Int), (0 : Int), (⟨#[]⟩ : ByteArray), (2 : Int))) (Tos.pure _) (fun k => by simp only [spec_Builtin.j0, if_true])
  have hlong2 : Tos (fun k => impl_Builtin.j0 k a l (kinds a.toList).1 (kinds a.toList).2 true) (0, 0, ⟨#[]⟩, 2) := Tos.step (G := fun _ => some ((0 : Int), (0 : Int), (⟨#[]⟩ : ByteArray), (2 : Int))) (Tos.pure _) (fun k => by simp only [impl_Builtin.j0, if_true])
  unfold spec_Builtin.f impl_Builtin.f
  by_cases ha : (a.size : Int) > 65536
  · exact ⟨_, Tos.ifPos ha hlong, Tos.bind (kinds_impl a) (Tos.ifPos ha hlong2)⟩
  by_cases hb : (l.length : Int) > 4096
  · exact ⟨_, Tos.ifNeg ha (by rw [decide_eq_true hb]; exact hlong), Tos.bind (kinds_impl a) (Tos.ifNeg ha (by rw [decide_eq_true hb]; exact hlong2))⟩
  rw [decide_eq_false hb]
  have spec_step : ∀ v w, (l.all rt = true → Tos (fun k => (spec_l01Count.f k a).bind fun t251 => (if t251 < 0 then (some ((0 : Int), (0 : Int), (⟨#[]⟩ : ByteArray), (5 : Int))) else (if (l.length : Int) = t251 then ((spec_l01Builtin.f k a l).bind fun bt252 => (some (bt252.1, bt252.2.1, bt252.2.2.1, bt252.2.2.2))) else (some (0, 0, (⟨#[]⟩ : ByteArray), 14))))) v) → (if l.all rt = true then v else (0, 0, (⟨#[]⟩ : ByteArray), 1)) = w → Tos (fun k => spec_Builtin.j0 k a l false) w := fun v w hv hw => by
    have g := valid_spec a l hl v hv l.length 0 (by omega) rfl
    rw [List.drop_zero, hw] at g
    refine Tos.step g (fun k => ?_)
    simp only [spec_Builtin.j0, Bool.false_eq_true, if_false]
    rfl
  have impl_step : ∀ w, Tos (fun k => (impl_valuesOK.f l).bind fun t181 => (if t181 = true then (if (kinds a.toList).2 = true then (if (l.length : Int) = ((kinds a.toList).1.length : Int) then ((impl_builtin.f k a l).bind fun bt182 => (some (bt182.1, bt182.2.1, bt182.2.2.1, bt182.2.2.2))) else (some ((0 : Int), (0 : Int), (⟨#[]⟩ : ByteArray), (14 : Int)))) else (some (0, 0, (⟨#[]⟩ : ByteArray), 5))) else (some (0, 0, (⟨#[]⟩ : ByteArray), 1)))) w → Tos (fun k => impl_Builtin.j0 k a l (kinds a.toList).1 (kinds a.toList).2 false) w := fun w hw => by
    refine Tos.step hw (fun k => ?_)
    simp only [impl_Builtin.j0, Bool.false_eq_true, if_false]
  suffices hh : ∃ v, Tos (fun k => spec_Builtin.j0 k a l false) v ∧ Tos (fun k => impl_Builtin.j0 k a l (kinds a.toList).1 (kinds a.toList).2 false) v by
    obtain ⟨v, h1, h2⟩ := hh
    exact ⟨v, Tos.ifNeg ha h1, Tos.bind (kinds_impl a) (Tos.ifNeg ha h2)⟩
  have hc := count_spec a
  unfold count at hc
  by_cases hr : l.all rt = true
  case neg =>
    refine ⟨(0, 0, ⟨#[]⟩, 1), spec_step (0, 0, ⟨#[]⟩, 1) _ (fun h => absurd h hr) (by rw [if_neg hr]), impl_step _ ?_⟩
    rw [valid_impl l hl]
    exact Tos.bind (Tos.pure _) (Tos.ifNeg hr (Tos.pure _))
  by_cases hk : (kinds a.toList).2 = true
  · rw [if_pos hk] at hc
    have hn : ¬ ((kinds a.toList).1.length : Int) < 0 := by omega
    by_cases hlen : (l.length : Int) = ((kinds a.toList).1.length : Int)
    · obtain ⟨v, h1, h2⟩ := do_all a l hr hk (by omega) hs
      refine ⟨v, spec_step v v (fun _ => ?_) (by rw [if_pos hr]), impl_step v ?_⟩
      · exact Tos.bind hc (Tos.ifNeg hn (Tos.ifPos hlen (Tos.bind h2 (Tos.pure _))))
      · rw [valid_impl l hl, hr]
        exact Tos.bind (Tos.pure true) (Tos.ifPos rfl (Tos.ifPos hk (Tos.ifPos hlen (Tos.bind h1 (Tos.pure _)))))
    · refine ⟨(0, 0, ⟨#[]⟩, 14), spec_step (0, 0, ⟨#[]⟩, 14) _ (fun _ => ?_) (by rw [if_pos hr]), impl_step _ ?_⟩
      · exact Tos.bind hc (Tos.ifNeg hn (Tos.ifNeg hlen (Tos.pure _)))
      · rw [valid_impl l hl, hr]
        exact Tos.bind (Tos.pure true) (Tos.ifPos rfl (Tos.ifPos hk (Tos.ifNeg hlen (Tos.pure _))))
  · rw [if_neg hk] at hc
    refine ⟨(0, 0, ⟨#[]⟩, 5), spec_step (0, 0, ⟨#[]⟩, 5) _ (fun _ => ?_) (by rw [if_pos hr]), impl_step _ ?_⟩
    · exact Tos.bind hc (Tos.ifPos (by decide) (Tos.pure _))
    · rw [valid_impl l hl, hr]
      exact Tos.bind (Tos.pure true) (Tos.ifPos rfl (Tos.ifNeg hk (Tos.pure _)))
theorem FnExactBuiltin : GoalFnExactBuiltin.Pure := by
  intro a l _ hl
  refine Tos.at (F := fun k => laws_FnExactBuiltin.f k a l) ?_
  unfold laws_FnExactBuiltin.f
  by_cases hz : (a.size : Int) > 1048576
  · exact Tos.ifPos hz (Tos.pure _)
  refine Tos.ifNeg hz ?_
  obtain ⟨z, hz, ht⟩ := sz_ValueS l hl 1048576 (by omega) (by omega)
  rcases hz with rfl | ⟨hz0, hz1, hs⟩
  · exact Tos.bind ht (Tos.ifPos (by decide) (Tos.pure _))
  refine Tos.bind ht (Tos.ifNeg (by omega) ?_)
  have h6 := to_ValueS l hs
  have h7 := eq_ValueS _ (el_ValueS l hs)
  have h8 : ∀ x ∈ g_ValueS l, x.f2.size ≤ 1048576 := fun y hy => by
    obtain ⟨x, hx, rfl⟩ := List.mem_map.mp hy
    exact (hs.2 x hx).1
  have h9 : (g_ValueS l).length ≤ 4611686018427387904 := by
    have := hs.1
    unfold g_ValueS
    rw [List.length_map]
    omega
  generalize g_ValueS l = m at *
  obtain ⟨v, e1, e2⟩ := same a m h9 h8
  have e3 : laws_eqValue.f v.1 v.2.1 v.2.2.1 v.1 v.2.1 v.2.2.1 = some true := by
    obtain ⟨K, hK⟩ := eq_Value v.1 v.2.1 v.2.2.1 trivial
    exact hK K (Nat.le_refl _)
  refine Tos.bind h6 (Tos.bind e1 (Tos.bind h6 (Tos.bind e2 (Tos.bind (y := true) (Tos.of fun _ => e3) (Tos.ifPos rfl ?_)))))
  refine Tos.step (G := fun k => (laws_toValueS.f k l).bind fun bt => (laws_eqValueS.f k m bt).bind fun t => (if t = true then (some true) else (some false))) ?_ (fun k => ?_)
  · exact Tos.bind h6 (Tos.yes h7 (Tos.pure _))
  · simp only [laws_FnExactBuiltin.j0, bne_self_eq_false, Bool.false_eq_true, if_false]

end Go.Proofs.YthclofmcinknlaaDoor.Pure
