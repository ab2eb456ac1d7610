/- The law FnBounds over plain data; no condition. -/
import Derived.Test.YthclofmcinknlaaDoorGoalFnBounds
import Derived.Test.YthclofmcinknlaaDoorFam
namespace Go.Proofs.YthclofmcinknlaaDoor.Pure
open Go.RowKit Go.Proofs.YthclofmcinknlaaDoor.QFnBounds Go.Proofs.YthclofmcinknlaaDoorW.PrintWords Go.Proofs.YthclofmcinknlaaDoorW.PrintLast Go.Proofs.YthclofmcinknlaaDoor.GoalFnBounds Go.Proofs.YthclofmcinknlaaDoor

set_option linter.unusedSimpArgs false
set_option linter.unusedVariables false

open Go.Proofs.YthclofmcinknlaaDoor.Fam
/-- A right value. -/
def Right (k n : Int) (t : ByteArray) : Prop :=
  (k = 0 ∧ n = 0 ∧ t.toList = []) ∨ (k = 1 ∧ -2147483648 ≤ n ∧ n ≤ 2147483647 ∧ t.toList = []) ∨ (k = 2 ∧ 0 ≤ n ∧ n ≤ 1 ∧ t.toList = []) ∨ (k = 3 ∧ n = 0 ∧ t.size ≤ 60)
instance (k n : Int) (t : ByteArray) : Decidable (Right k n t) := by unfold Right; exact inferInstance

theorem impl_right (k n : Int) (t : ByteArray) : impl_ValueOK.f k n t = some (decide (Right k n t)) := by
  unfold impl_ValueOK.f impl_within.f Right
  by_cases h0 : k = 0
  · subst h0
    by_cases hn : n = 0 <;> by_cases ht : t.toList = [] <;> simp [hn, ht]
  by_cases h1 : k = 1
  · subst h1
    by_cases ha : -2147483648 ≤ n <;> by_cases hb : n ≤ 2147483647 <;> by_cases ht : t.toList = [] <;> simp [ha, hb, ht]
  by_cases h2 : k = 2
  · subst h2
    by_cases ha : 0 ≤ n <;> by_cases hb : n ≤ 1 <;> by_cases ht : t.toList = [] <;> simp [ha, hb, ht]
  by_cases h3 : k = 3
  · subst h3
    by_cases hn : n = 0 <;> by_cases ht : t.size ≤ 60 <;> simp [hn, ht] <;> omega
  simp [h0, h1, h2, h3]


theorem in_impl (a b c : Int) : impl_within.f a b c = some (decide (b ≤ a ∧ a ≤ c)) := by
  unfold impl_within.f
  by_cases h : b ≤ a <;> by_cases h2 : a ≤ c <;> simp [h, h2]

theorem app_data (a b : ByteArray) : (a ++ b).toList = a.toList ++ b.toList := by
  rw [ByteArray.toList_eq, ByteArray.toList_eq, ByteArray.toList_eq, ByteArray.data_append, Array.toList_append]

theorem lit_data (a : Array UInt8) : (⟨a⟩ : ByteArray).toList = a.toList := by rw [ByteArray.toList_eq]

/-- The place of the first text that is v, counted from j; -1 without one. -/
def find : List ByteArray → ByteArray → Nat → Int
  | [], _, _ => -1
  | x :: xs, v, j => if x.toList = v.toList then (j : Int) else find xs v (j + 1)

theorem drop_at (l : List ByteArray) (j : Nat) (h : j < l.length) : l.drop j = rdOf ByteArray.empty l (j : Int) :: l.drop (j + 1) := by
  rw [List.drop_eq_getElem_cons h]
  simp [rdOf, h]

theorem index_tells (l : List ByteArray) (v : ByteArray) (hl : l.length < 4611686018427387904) (d : Nat) : ∀ (k j : Nat), j + d = l.length → d < k →
    slices_Index_string_string.l0 k l v (l.length : Int) (j : Int) = some (find (l.drop j) v j) := by
  induction d with
  | zero =>
    intro k j hj hk
    obtain ⟨k, rfl⟩ : ∃ m, k = m + 1 := ⟨k - 1, by omega⟩
    simp only [slices_Index_string_string.l0]
    rw [if_neg (by omega), List.drop_of_length_le (by omega)]
    rfl
  | succ d ih =>
    intro k j hj hk
    obtain ⟨k, rfl⟩ : ∃ m, k = m + 1 := ⟨k - 1, by omega⟩
    simp only [slices_Index_string_string.l0]
    rw [if_pos (by omega), if_pos (by omega), if_pos (by omega), drop_at l j (by omega), Plain.next j (by omega), ih k (j + 1) (by omega) (by omega)]
    simp only [find]
    by_cases e : v.toList = (rdOf ByteArray.empty l (j : Int)).toList
    · rw [if_pos e, if_pos e.symm]
    · rw [if_neg e, if_neg (fun h => e h.symm)]

theorem index_is (l : List ByteArray) (v : ByteArray) (hl : l.length < 4611686018427387904) (k : Nat) (hk : l.length < k) : slices_Index_string_string.f k l v = some (find l v 0) := by
  have h := index_tells l v hl l.length k 0 (by omega) hk
  exact h

/-- The kinds of a function's arguments; is it one. -/
def kinds (n : List UInt8) : List Int × Bool :=
  if n = [108, 101, 110] then ([3], true) else if n = [115, 116, 114] then ([-1], true) else if n = [97, 98, 115] then ([1], true) else if n = [97, 116] then ([3, 1], true) else if n = [109, 97, 120] then ([1, 1], true) else if n = [109, 105, 110] then ([1, 1], true) else if n = [99, 117, 116] then ([3, 1, 1], true) else ([], false)
theorem kinds_impl (a : ByteArray) : Tos (fun k => impl_builtinKinds.f k a) (kinds a.toList) := by
  refine ⟨1, fun k hk => ?_⟩
  obtain ⟨k, rfl⟩ : ∃ m, k = m + 1 := ⟨k - 1, by omega⟩
  show impl_builtinKinds.f (k + 1) a = _
  unfold impl_builtinKinds.f kinds
  simp only [impl_builtinKinds.j0]
  by_cases h1 : a.toList = [108, 101, 110] <;> by_cases h2 : a.toList = [115, 116, 114] <;> by_cases h3 : a.toList = [97, 98, 115] <;> by_cases h4 : a.toList = [97, 116] <;> by_cases h5 : a.toList = [109, 97, 120] <;> by_cases h6 : a.toList = [109, 105, 110] <;> by_cases h7 : a.toList = [99, 117, 116] <;> simp_all
theorem rdT (l : List S29) (j : Nat) (h : j < l.length) : rd_T29 l (j : Int) = l[j] := by
  show l.getD (j : Int).toNat _ = _
  rw [Int.toNat_natCast, List.getD_eq_getElem?_getD, List.getElem?_eq_getElem h]
  rfl
def rt (x : S29) : Bool := decide (Right x.f0 x.f1 x.f2)
theorem p_rt (x : S29) : impl_valuesOK.p x = !rt x := by
  unfold impl_valuesOK.p impl_valuesOK_1.f rt
  rw [impl_right]
  rfl
theorem from_all (l : List S29) : ∀ (d j : Nat), j + d = l.length → decide (0 ≤ impl_Value_93.from impl_valuesOK.p l d (j : Int)) = !((l.drop j).all rt)
  | 0, j, hj => by
    rw [List.drop_eq_nil_iff.2 (by omega)]
    rfl
  | d + 1, j, hj => by
    have hj' : j < l.length := by omega
    rw [impl_Value_93.from, rdT l j hj', p_rt, List.drop_eq_getElem_cons hj', List.all_cons]
    have g := from_all l d (j + 1) (by omega)
    cases hq : rt l[j] with
    | false =>
      rw [if_pos (by decide), decide_eq_true (by omega)]
      rfl
    | true =>
      rw [if_neg (by decide), show (j : Int) + 1 = ((j + 1 : Nat) : Int) by omega, g]
      rfl
theorem valid_impl (l : List S29) (hl : l.length ≤ 4611686018427387904) : impl_valuesOK.f l = some (l.all rt) := by
  unfold impl_valuesOK.f
  have g := from_all l l.length 0 (by omega)
  rw [List.drop_zero] at g
  have g' : decide (0 ≤ impl_Value_93.from impl_valuesOK.p l l.length 0) = !l.all rt := g
  rw [if_pos hl, g', Bool.not_not]

def nul : ByteArray := ⟨#[]⟩
theorem nul_data : nul.toList = [] := lit_data #[]
theorem bounds (n : Int) : impl_inBounds.f n = some (if -2147483648 ≤ n ∧ n ≤ 2147483647 then (1, n, nul, 0) else (0, 0, nul, 4)) := by
  unfold impl_inBounds.f
  rw [in_impl]
  by_cases h : -2147483648 ≤ n ∧ n ≤ 2147483647
  · rw [decide_eq_true h, if_pos h]
    rfl
  · rw [decide_eq_false h, if_neg h]
    rfl
theorem right_int (n : Int) (h : -2147483648 ≤ n ∧ n ≤ 2147483647) : impl_ValueOK.f 1 n nul = some true := by
  rw [impl_right, decide_eq_true]
  exact .inr (.inl ⟨rfl, h.1, h.2, nul_data⟩)
theorem isb (op : ByteArray) (h : op.toList = [60] ∨ op.toList = [43] ∨ op.toList = [42] ∨ op.toList = [47] ∨ op.toList = [37]) : impl_isBinary.f 9 op = some true := by
  unfold impl_isBinary.f slices_Contains_string_string.f
  rw [index_is _ _ (by decide) 9 (by decide)]
  rcases h with h | h | h | h | h <;> simp [find, h, lit_data]
/-- A binary operation on two numbers. -/
theorem bin (op : ByteArray) (h : op.toList = [60] ∨ op.toList = [43] ∨ op.toList = [42] ∨ op.toList = [47] ∨ op.toList = [37]) (hs : op.size ≤ 2) (a b : Int) (ra : -2147483648 ≤ a ∧ a ≤ 2147483647) (rb : -2147483648 ≤ b ∧ b ≤ 2147483647) (v : Int × Int × ByteArray × Int) (ha : ∀ k, impl_arithmetic.f (k + 1) op a b = some v) :
    Tos (fun k => impl_Binary.f k op 1 a nul 1 b nul) v := by
  refine ⟨20, fun k hk => ?_⟩
  obtain ⟨k, rfl⟩ : ∃ m, k = m + 20 := ⟨k - 20, by omega⟩
  have he : op.toList ≠ [61, 61] := by rcases h with h | h | h | h | h <;> rw [h] <;> decide
  have hb : impl_isBinary.f (k + 19) op = some true := at_rounds (g := fun k => impl_isBinary.f k op) (impl_isBinary.mono op) (show 9 ≤ k + 19 by omega) (isb op h)
  have e2 : impl_binary.f (k + 19) op 1 a nul 1 b nul = some v := by
    unfold impl_binary.f
    rw [if_neg (by decide), impl_binary.j0, if_neg he, if_neg (by decide), impl_binary.j1, if_neg (by decide), if_neg (by decide), impl_binary.j2, if_neg (by decide), if_pos rfl, if_pos rfl, ha]
    rfl
  show impl_Binary.f (k + 20) op 1 a nul 1 b nul = some v
  unfold impl_Binary.f
  rw [if_neg (by omega), right_int a ra, right_int b rb]
  show impl_Binary.j0 (k + 20) op false 1 a nul 1 b nul = some v
  rw [impl_Binary.j0, if_neg (by decide), hb]
  show (impl_binary.f (k + 19) op 1 a nul 1 b nul).bind _ = some v
  rw [e2]
  rfl
theorem o42 : (⟨#[42]⟩ : ByteArray).toList = [42] := lit_data _
theorem o47 : (⟨#[47]⟩ : ByteArray).toList = [47] := lit_data _
theorem o37 : (⟨#[37]⟩ : ByteArray).toList = [37] := lit_data _
theorem o60 : (⟨#[60]⟩ : ByteArray).toList = [60] := lit_data _
theorem mul_is (a b : Int) (ra : -2147483648 ≤ a ∧ a ≤ 2147483647) (rb : -2147483648 ≤ b ∧ b ≤ 2147483647) (rp : -2147483648 ≤ a * b ∧ a * b ≤ 2147483647) : Tos (fun k => impl_Binary.f k ⟨#[42]⟩ 1 a nul 1 b nul) (1, a * b, nul, 0) :=
  bin _ (.inr (.inr (.inl o42))) (by decide) a b ra rb _ (fun k => by
    have e : wrap64 (a * b) = a * b := by
      generalize a * b = p at *
      unfold wrap64
      omega
    unfold impl_arithmetic.f
    rw [o42, if_neg (by decide), if_neg (by decide), if_neg (by decide), if_pos (by decide), e, bounds, if_pos rp]
    rfl)
theorem div_is (a b : Int) (ra : -2147483648 ≤ a ∧ a ≤ 2147483647) (rb : -2147483648 ≤ b ∧ b ≤ 2147483647) (hb : b ≠ 0) (hd : Int.tmod a b = 0) (rq : -2147483648 ≤ Int.tdiv a b ∧ Int.tdiv a b ≤ 2147483647) : Tos (fun k => impl_Binary.f k ⟨#[47]⟩ 1 a nul 1 b nul) (1, Int.tdiv a b, nul, 0) :=
  bin _ (.inr (.inr (.inr (.inl o47)))) (by decide) a b ra rb _ (fun k => by
    have e : wrap64 (Int.tdiv a b) = Int.tdiv a b := by
      generalize Int.tdiv a b = p at *
      unfold wrap64
      omega
    unfold impl_arithmetic.f
    rw [o47, if_neg (by decide), if_neg (by decide), if_neg (by decide), if_neg (by decide), if_neg hb, if_pos (by decide), hd, impl_arithmetic.j0, if_neg (by decide), o47, if_neg (by decide), if_neg hb, e, bounds, if_pos rq]
    rfl)
theorem div_not (a b : Int) (ra : -2147483648 ≤ a ∧ a ≤ 2147483647) (rb : -2147483648 ≤ b ∧ b ≤ 2147483647) (hd : b = 0 ∨ Int.tmod a b ≠ 0) : Tos (fun k => impl_Binary.f k ⟨#[47]⟩ 1 a nul 1 b nul) (0, 0, nul, 4) :=
  bin _ (.inr (.inr (.inr (.inl o47)))) (by decide) a b ra rb _ (fun k => by
    unfold impl_arithmetic.f
    rw [o47, if_neg (by decide), if_neg (by decide), if_neg (by decide), if_neg (by decide)]
    by_cases hb : b = 0
    · rw [if_pos hb, impl_arithmetic.j0, if_pos rfl]
      rfl
    · have h2 : (Int.tmod a b != 0) = true := bne_iff_ne.2 (hd.resolve_left hb)
      rw [if_neg hb, if_pos (by decide), h2, impl_arithmetic.j0, if_pos rfl]
      rfl)
theorem mod_is (a b : Int) (ra : -2147483648 ≤ a ∧ a ≤ 2147483647) (rb : -2147483648 ≤ b ∧ b ≤ 2147483647) (hb : b ≠ 0) (rq : -2147483648 ≤ Int.tmod a b ∧ Int.tmod a b ≤ 2147483647) : Tos (fun k => impl_Binary.f k ⟨#[37]⟩ 1 a nul 1 b nul) (1, Int.tmod a b, nul, 0) :=
  bin _ (.inr (.inr (.inr (.inr o37)))) (by decide) a b ra rb _ (fun k => by
    unfold impl_arithmetic.f
    rw [o37, if_neg (by decide), if_neg (by decide), if_neg (by decide), if_neg (by decide), if_neg hb, if_neg (by decide), impl_arithmetic.j0, if_neg (by decide), o37, if_pos (by decide), if_neg hb, bounds, if_pos rq]
    rfl)
theorem plus_is (a b : Int) (ra : -2147483648 ≤ a ∧ a ≤ 2147483647) (rb : -2147483648 ≤ b ∧ b ≤ 2147483647) (rp : -2147483648 ≤ a + b ∧ a + b ≤ 2147483647) : Tos (fun k => impl_Binary.f k ⟨#[43]⟩ 1 a nul 1 b nul) (1, a + b, nul, 0) :=
  bin _ (.inr (.inl (lit_data _))) (by decide) a b ra rb _ (fun k => by
    have e : wrap64 (a + b) = a + b := by unfold wrap64; omega
    unfold impl_arithmetic.f
    rw [lit_data, if_neg (by decide), if_pos (by decide), e, bounds, if_pos rp]
    rfl)
theorem less_any (a b : Int) (ra : -2147483648 ≤ a ∧ a ≤ 2147483647) (rb : -2147483648 ≤ b ∧ b ≤ 2147483647) : Tos (fun k => impl_Binary.f k ⟨#[60]⟩ 1 a nul 1 b nul) (2, if a < b then 1 else 0, nul, 0) :=
  bin _ (.inl o60) (by decide) a b ra rb _ (fun k => by
    unfold impl_arithmetic.f
    by_cases h : a < b
    · rw [o60, if_pos (by decide), decide_eq_true h, if_pos h]
      rfl
    · rw [o60, if_pos (by decide), decide_eq_false h, if_neg h]
      rfl)
theorem less_is (a b : Int) (ra : -2147483648 ≤ a ∧ a ≤ 2147483647) (rb : -2147483648 ≤ b ∧ b ≤ 2147483647) (h : a < b) : Tos (fun k => impl_Binary.f k ⟨#[60]⟩ 1 a nul 1 b nul) (2, 1, nul, 0) :=
  bin _ (.inl o60) (by decide) a b ra rb _ (fun k => by
    unfold impl_arithmetic.f
    rw [o60, if_pos (by decide), decide_eq_true h]
    rfl)

theorem at_is (l : List Int) (hl : l.length ≤ 1048576) (hu : ∀ y ∈ l, (Lit.int .u8 y).wf = true) (i n : Int) (hi : 0 ≤ i ∧ i ≤ 1) (hn : 2 ≤ n ∧ n ≤ 60000) : ∃ v, laws_at.f l i n = some v ∧ 0 ≤ v ∧ v < n := by
  have rdb : ∀ j : Int, 0 ≤ rd l j ∧ rd l j ≤ 255 := fun j => by
    unfold rd
    rw [List.getD_eq_getElem?_getD]
    cases e : l[j.toNat]? with
    | none => exact ⟨by decide, by decide⟩
    | some y =>
      have := hu y (List.mem_of_getElem? e)
      have m0 : IntKind.u8.min = 0 := rfl
      have m1 : IntKind.u8.max = 255 := rfl
      simp [Lit.wf, IntKind.wrap] at this
      show 0 ≤ y ∧ y ≤ 255
      omega
  have tm : ∀ x : Int, 0 ≤ x → 0 ≤ Int.tmod x n ∧ Int.tmod x n < n := fun x hx => ⟨Int.tmod_nonneg _ hx, Int.tmod_lt_of_pos _ (by omega)⟩
  unfold laws_at.f
  rw [if_neg (by omega)]
  by_cases h0 : (l.length : Int) = 0
  · rw [if_pos h0, if_neg (by omega)]
    have : wrap64 (i * 7) = i * 7 := by unfold wrap64; omega
    rw [this]
    exact ⟨_, rfl, tm _ (by omega)⟩
  · have hp : (0 : Int) < l.length := by omega
    have w1 : wrap64 (i + 1) = i + 1 := by unfold wrap64; omega
    rw [if_neg h0, w1, if_pos (Int.tmod_nonneg _ hi.1), if_pos (Int.tmod_lt_of_pos _ hp), if_pos (Int.tmod_nonneg _ (by omega)), if_pos (Int.tmod_lt_of_pos _ hp), if_neg (by omega)]
    have r1 := rdb (Int.tmod i (l.length : Int))
    have r2 := rdb (Int.tmod (i + 1) (l.length : Int))
    have hdv : 0 ≤ Int.tdiv i (l.length : Int) ∧ Int.tdiv i (l.length : Int) ≤ 1 := by
      rw [Int.tdiv_eq_ediv_of_nonneg hi.1]
      exact ⟨Int.ediv_nonneg hi.1 (by omega), Int.le_trans (Int.ediv_le_self _ hi.1) hi.2⟩
    generalize rd l (Int.tmod i (l.length : Int)) = x at *
    generalize rd l (Int.tmod (i + 1) (l.length : Int)) = y at *
    generalize Int.tdiv i (l.length : Int) = z at *
    have v1 : wrap64 x = x := by unfold wrap64; omega
    have v2 : wrap64 (x * 31) = x * 31 := by unfold wrap64; omega
    have v3 : wrap64 y = y := by unfold wrap64; omega
    have v4 : wrap64 (x * 31 + y) = x * 31 + y := by unfold wrap64; omega
    have v5 : wrap64 z = z := by unfold wrap64; omega
    have v6 : wrap64 (x * 31 + y + z) = x * 31 + y + z := by unfold wrap64; omega
    rw [v1, v2, v3, v4, v5, v6]
    exact ⟨_, rfl, tm _ (by omega)⟩

theorem omax : (⟨#[109, 97, 120]⟩ : ByteArray).toList = [109, 97, 120] := lit_data _
theorem omin : (⟨#[109, 105, 110]⟩ : ByteArray).toList = [109, 105, 110] := lit_data _
theorem right_rt (n : Int) (h : -2147483648 ≤ n ∧ n ≤ 2147483647) : rt ⟨1, n, nul⟩ = true := decide_eq_true (.inr (.inl ⟨rfl, h.1, h.2, nul_data⟩))
theorem max_is (a b : Int) (ra : -2147483648 ≤ a ∧ a ≤ 2147483647) (rb : -2147483648 ≤ b ∧ b ≤ 2147483647) : Tos (fun k => impl_Builtin.f k ⟨#[109, 97, 120]⟩ [⟨1, a, nul⟩, ⟨1, b, nul⟩]) (1, if a < b then b else a, nul, 0) := by
  refine ⟨12, fun k hk => ?_⟩
  obtain ⟨k, rfl⟩ : ∃ m, k = m + 12 := ⟨k - 12, by omega⟩
  have hv : impl_valuesOK.f [(⟨1, a, nul⟩ : S29), ⟨1, b, nul⟩] = some true := by
    rw [valid_impl _ (by simp)]
    simp [right_rt a ra, right_rt b rb]
  have e1 : mx a b = if a < b then b else a := by
    unfold mx
    omega
  have hb : ∀ j, impl_builtin.f (j + 6) ⟨#[109, 97, 120]⟩ [(⟨1, a, nul⟩ : S29), ⟨1, b, nul⟩] = some (1, if a < b then b else a, nul, 0) := fun j => by
    unfold impl_builtin.f impl_builtinKinds.f
    simp [omax, impl_builtinKinds.j0, impl_builtin.l0, rd, rd_T29, show wrap64 1 = 1 by unfold wrap64; omega, show wrap64 2 = 2 by unfold wrap64; omega, e1, impl_ofInt.f]
    rfl
  show impl_Builtin.f (k + 12) ⟨#[109, 97, 120]⟩ [(⟨1, a, nul⟩ : S29), ⟨1, b, nul⟩] = _
  unfold impl_Builtin.f impl_builtinKinds.f
  have hs : (⟨#[109, 97, 120]⟩ : ByteArray).size = 3 := rfl
  simp [omax, hs, impl_builtinKinds.j0, impl_Builtin.j0, hv, hb (k + 5)]
theorem min_is (a b : Int) (ra : -2147483648 ≤ a ∧ a ≤ 2147483647) (rb : -2147483648 ≤ b ∧ b ≤ 2147483647) : Tos (fun k => impl_Builtin.f k ⟨#[109, 105, 110]⟩ [⟨1, a, nul⟩, ⟨1, b, nul⟩]) (1, if a < b then a else b, nul, 0) := by
  refine ⟨12, fun k hk => ?_⟩
  obtain ⟨k, rfl⟩ : ∃ m, k = m + 12 := ⟨k - 12, by omega⟩
  have hv : impl_valuesOK.f [(⟨1, a, nul⟩ : S29), ⟨1, b, nul⟩] = some true := by
    rw [valid_impl _ (by simp)]
    simp [right_rt a ra, right_rt b rb]
  have e1 : mn a b = if a < b then a else b := by
    unfold mn
    omega
  have hb : ∀ j, impl_builtin.f (j + 6) ⟨#[109, 105, 110]⟩ [(⟨1, a, nul⟩ : S29), ⟨1, b, nul⟩] = some (1, if a < b then a else b, nul, 0) := fun j => by
    unfold impl_builtin.f impl_builtinKinds.f
    simp [omin, impl_builtinKinds.j0, impl_builtin.l0, rd, rd_T29, show wrap64 1 = 1 by unfold wrap64; omega, show wrap64 2 = 2 by unfold wrap64; omega, e1, impl_ofInt.f]
    rfl
  show impl_Builtin.f (k + 12) ⟨#[109, 105, 110]⟩ [(⟨1, a, nul⟩ : S29), ⟨1, b, nul⟩] = _
  unfold impl_Builtin.f impl_builtinKinds.f
  have hs : (⟨#[109, 105, 110]⟩ : ByteArray).size = 3 := rfl
  simp [omin, hs, impl_builtinKinds.j0, impl_Builtin.j0, hv, hb (k + 5)]
theorem max_one (a : Int) (ra : -2147483648 ≤ a ∧ a ≤ 2147483647) : Tos (fun k => impl_Builtin.f k ⟨#[109, 97, 120]⟩ [⟨1, a, nul⟩]) (0, 0, nul, 14) := by
  refine ⟨12, fun k hk => ?_⟩
  obtain ⟨k, rfl⟩ : ∃ m, k = m + 12 := ⟨k - 12, by omega⟩
  have hv : impl_valuesOK.f [(⟨1, a, nul⟩ : S29)] = some true := by
    rw [valid_impl _ (by simp)]
    simp [right_rt a ra]
  show impl_Builtin.f (k + 12) ⟨#[109, 97, 120]⟩ [(⟨1, a, nul⟩ : S29)] = _
  unfold impl_Builtin.f impl_builtinKinds.f
  have hs : (⟨#[109, 97, 120]⟩ : ByteArray).size = 3 := rfl
  simp [omax, hs, impl_builtinKinds.j0, impl_Builtin.j0, hv]
  rfl
theorem neg_is (a : Int) (ra : -2147483647 ≤ a ∧ a ≤ 2147483647) : impl_Unary.f ⟨#[45]⟩ 1 a nul = some (1, -a, nul, 0) := by
  have h1 : (⟨#[45]⟩ : ByteArray).toList = [45] := lit_data _
  have hs : (⟨#[45]⟩ : ByteArray).size = 1 := rfl
  have e : wrap64 (-a) = -a := by unfold wrap64; omega
  have hin : -2147483648 ≤ -a ∧ -a ≤ 2147483647 := by omega
  unfold impl_Unary.f impl_isUnary.f impl_unary.f
  rw [right_int a (by omega), e, bounds, if_pos hin]
  simp [h1, hs]
theorem good_is (a b : Int) (ra : -30000 ≤ a ∧ a ≤ 30000) (rb : -30000 ≤ b ∧ b ≤ 30000) : ∃ K, ∀ k, K ≤ k → laws_FnBounds.good k a b = true := by
  have hsum : (if a < b then b else a) + (if a < b then a else b) = a + b := by split <;> omega
  obtain ⟨k1, t1⟩ := max_is a b (by omega) (by omega)
  obtain ⟨k2, t2⟩ := min_is a b (by omega) (by omega)
  obtain ⟨k3, t3⟩ := plus_is (if a < b then b else a) (if a < b then a else b) (by split <;> omega) (by split <;> omega) (by omega)
  obtain ⟨k4, t4⟩ := plus_is a b (by omega) (by omega) (by omega)
  obtain ⟨k5, t5⟩ := less_any a b (by omega) (by omega)
  obtain ⟨k6, t6⟩ := max_one a (by omega)
  have t7 := neg_is a (by omega)
  have t8 := neg_is (-a) (by omega)
  rw [Int.neg_neg] at t8
  rw [hsum] at t3
  refine ⟨k1 + k2 + k3 + k4 + k5 + k6, fun k hk => ?_⟩
  have t1 := t1 k (by omega)
  have t2 := t2 k (by omega)
  have t3 := t3 k (by omega)
  have t4 := t4 k (by omega)
  have t5 := t5 k (by omega)
  have t6 := t6 k (by omega)
  unfold laws_FnBounds.good
  simp only [nul] at *
  simp only [t1, t2, t3, t4, t5, t6, t7, t8]
  simp
theorem FnBounds : GoalFnBounds.Pure := by
  intro l m hl hm
  by_cases hz : l.length > 1048576 ∨ m.length > 1048576
  · exact ⟨0, by unfold laws_FnBounds.f; rw [if_pos hz]⟩
  obtain ⟨x, ex, x0, x1⟩ := at_is l (by omega) hl.2 0 60000 (by decide) (by decide)
  obtain ⟨y, ey, y0, y1⟩ := at_is m (by omega) hm.2 0 60000 (by decide) (by decide)
  have e1 : wrap64 (x - 30000) = x - 30000 := by unfold wrap64; omega
  have e2 : wrap64 (y - 30000) = y - 30000 := by unfold wrap64; omega
  obtain ⟨K, hK⟩ := good_is (x - 30000) (y - 30000) (by omega) (by omega)
  refine ⟨K, ?_⟩
  unfold laws_FnBounds.f
  rw [if_neg hz, ex, ey]
  simp only [Option.bind_some]
  rw [e1, e2, hK K (Nat.le_refl _), if_pos rfl]

end Go.Proofs.YthclofmcinknlaaDoor.Pure
