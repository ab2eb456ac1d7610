/- Loops by rounds over plain lists: copies, bulks, comparisons; no condition. -/
import Derived.Test.YtlhbcgmmgofcgaaWMore
namespace Go.Proofs.Ytlhbcgmmgofcgaa.Plain
open Go.RowKit Go.Proofs.YtlhbcgmmgofcgaaW.PrintWords

theorem next (j : Nat) (h : j < 4611686018427387904) : wrap64 ((j : Int) + 1) = ((j + 1 : Nat) : Int) := by
  unfold wrap64
  omega

/-- A loop that counts up to n: at each round it ends, or goes on with another state. -/
theorem loop {σ ρ : Type} (l : Nat → σ → Int → Option ρ) (n : Nat) (Inv : Nat → σ → Prop) (Post : ρ → Prop)
    (step : ∀ i s, i < n → Inv i s → (∃ r, Post r ∧ ∃ K, ∀ k, K ≤ k → l (k + 1) s (i : Int) = some r) ∨ ∃ s', Inv (i + 1) s' ∧ ∃ K, ∀ k, K ≤ k → l (k + 1) s (i : Int) = l k s' ((i + 1 : Nat) : Int))
    (last : ∀ s, Inv n s → ∃ r, Post r ∧ ∃ K, ∀ k, K ≤ k → l (k + 1) s (n : Int) = some r) :
    ∀ d i s, i + d = n → Inv i s → ∃ r, Post r ∧ ∃ K, ∀ k, K ≤ k → l k s (i : Int) = some r := by
  intro d
  induction d with
  | zero =>
    intro i s hi hs
    obtain rfl : i = n := by omega
    obtain ⟨r, hp, K, h⟩ := last s hs
    refine ⟨r, hp, K + 1, fun k hk => ?_⟩
    obtain ⟨k, rfl⟩ : ∃ m, k = m + 1 := ⟨k - 1, by omega⟩
    exact h k (by omega)
  | succ d ih =>
    intro i s hi hs
    rcases step i s (by omega) hs with ⟨r, hp, K, h⟩ | ⟨s', hs', K, h⟩
    · refine ⟨r, hp, K + 1, fun k hk => ?_⟩
      obtain ⟨k, rfl⟩ : ∃ m, k = m + 1 := ⟨k - 1, by omega⟩
      exact h k (by omega)
    · obtain ⟨r, hp, K', h'⟩ := ih (i + 1) s' (by omega) hs'
      refine ⟨r, hp, K + K' + 1, fun k hk => ?_⟩
      obtain ⟨k, rfl⟩ : ∃ m, k = m + 1 := ⟨k - 1, by omega⟩
      rw [h k (by omega)]
      exact h' k (by omega)

/-- A copy, element by element. -/
theorem to_list {α β : Type} (l : Nat → List β → Int → Option (List β)) (xs : List α) (g : α → β) (z : β)
    (step : ∀ i x ys, xs[i]? = some x → i < xs.length → ys.length = xs.length → ∃ K, ∀ k, K ≤ k → l (k + 1) ys (i : Int) = l k (ys.set i (g x)) ((i + 1 : Nat) : Int))
    (last : ∀ ys k, l (k + 1) ys (xs.length : Int) = some ys) : ∃ K, ∀ k, K ≤ k → l k (List.replicate xs.length z) 0 = some (xs.map g) := by
  obtain ⟨r, rfl, K, h⟩ := loop l xs.length (fun i ys => ys.length = xs.length ∧ ys.take i = (xs.take i).map g) (fun r => r = xs.map g)
    (fun i ys hi ⟨hl, ht⟩ => by
      have hx : xs[i]? = some xs[i] := List.getElem?_eq_getElem hi
      obtain ⟨K, h⟩ := step i xs[i] ys hx hi hl
      refine .inr ⟨ys.set i (g xs[i]), ⟨by rw [List.length_set, hl], ?_⟩, K, h⟩
      rw [List.take_add_one, List.take_add_one, List.map_append, ← ht, List.getElem?_set_self (by omega), hx, List.take_set_of_le (Nat.le_refl i)]
      rfl)
    (fun ys ⟨hl, ht⟩ => by
      refine ⟨ys, ?_, 0, fun k _ => last ys k⟩
      rw [← hl, List.take_length, hl, List.take_length] at ht
      exact ht)
    xs.length 0 (List.replicate xs.length z) (by omega) ⟨by simp, by simp⟩
  exact ⟨K, h⟩

/-- A bulk, element by element. -/
theorem sz_list {α : Type} (l : Nat → Int → Int → Option Int) (xs : List α) (Sm : α → Prop)
    (step : ∀ i x v, xs[i]? = some x → i < xs.length → 0 ≤ v → v ≤ 1048576 → ∃ r, (r = -1 ∨ (0 ≤ r ∧ r ≤ v ∧ Sm x)) ∧ ∃ K, ∀ k, K ≤ k → l (k + 1) v (i : Int) = if r < 0 then some (-1) else l k r ((i + 1 : Nat) : Int))
    (last : ∀ v k, l (k + 1) v (xs.length : Int) = some v) (v : Int) (h0 : 0 ≤ v) (h1 : v ≤ 1048576) :
    ∃ r, (r = -1 ∨ (0 ≤ r ∧ r ≤ v ∧ ∀ x ∈ xs, Sm x)) ∧ ∃ K, ∀ k, K ≤ k → l k v 0 = some r := by
  refine loop l xs.length (fun i u => 0 ≤ u ∧ u ≤ v ∧ ∀ x ∈ xs.take i, Sm x) _ (fun i u hi ⟨h2, h3, hs⟩ => ?_) (fun u ⟨h2, h3, hs⟩ => ⟨u, .inr ⟨h2, h3, ?_⟩, 0, fun k _ => last u k⟩) xs.length 0 v (by omega) ⟨h0, Int.le_refl v, by simp⟩
  · have hx : xs[i]? = some xs[i] := List.getElem?_eq_getElem hi
    obtain ⟨r, hr, K, h⟩ := step i xs[i] u hx hi h2 (by omega)
    rcases hr with rfl | ⟨h4, h5, h6⟩
    · refine .inl ⟨-1, .inl rfl, K, fun k hk => ?_⟩
      rw [h k hk, if_pos (by omega)]
    · refine .inr ⟨r, ⟨h4, by omega, fun x hxm => ?_⟩, K, fun k hk => ?_⟩
      · rw [List.take_add_one, hx] at hxm
        rcases List.mem_append.1 hxm with hm | hm
        · exact hs x hm
        · obtain rfl : x = xs[i] := by simpa using hm
          exact h6
      · rw [h k hk, if_neg (by omega)]
  · rw [List.take_length] at hs
    exact hs

/-- A comparison, element by element. -/
theorem eq_list (l : Nat → Int → Option Bool) (n : Nat) (step : ∀ i, i < n → ∃ K, ∀ k, K ≤ k → l (k + 1) (i : Int) = l k ((i + 1 : Nat) : Int)) (last : ∀ k, l (k + 1) (n : Int) = some true) :
    ∃ K, ∀ k, K ≤ k → l k 0 = some true := by
  obtain ⟨r, rfl, K, h⟩ := loop (fun k (_ : Unit) i => l k i) n (fun _ _ => True) (fun r => r = true) (fun i _ hi _ => .inr ⟨(), trivial, step i hi⟩) (fun _ _ => ⟨true, rfl, 0, fun k _ => last k⟩) n 0 () (by omega) trivial
  exact ⟨K, h⟩

theorem bytesLess_irrefl : ∀ l : List UInt8, Op.bytesLess l l = false
  | [] => rfl
  | a :: x => by simp [Op.bytesLess, bytesLess_irrefl x]

theorem bytesLess_total : ∀ l m : List UInt8, l ≠ m → Op.bytesLess l m = !Op.bytesLess m l
  | [], [], h => absurd rfl h
  | [], _ :: _, _ => rfl
  | _ :: _, [], _ => rfl
  | a :: x, b :: y, h => by
    simp only [Op.bytesLess]
    by_cases e : a = b
    · subst e
      have h2 : x ≠ y := fun h2 => h (by rw [h2])
      simp [bytesLess_total x y h2]
    · have e2 : (a == b) = false := beq_eq_false_iff_ne.2 e
      have e3 : (b == a) = false := beq_eq_false_iff_ne.2 (fun h => e h.symm)
      simp only [e2, e3, Bool.false_and, Bool.or_false]
      rcases UInt8.lt_or_lt_of_ne e with h3 | h3
      · rw [decide_eq_true h3, decide_eq_false (fun h4 => UInt8.lt_irrefl _ (UInt8.lt_trans h3 h4))]
        rfl
      · rw [decide_eq_true h3, decide_eq_false (fun h4 => UInt8.lt_irrefl _ (UInt8.lt_trans h3 h4))]
        rfl

end Go.Proofs.Ytlhbcgmmgofcgaa.Plain
