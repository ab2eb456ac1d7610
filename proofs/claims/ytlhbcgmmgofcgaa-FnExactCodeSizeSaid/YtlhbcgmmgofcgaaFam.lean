/- Families over data (bulk, copy, comparison), general part: what goes on with enough rounds; no condition. -/
import Derived.Test.YtlhbcgmmgofcgaaPlain
namespace Go.Proofs.Ytlhbcgmmgofcgaa.Fam
open Go.RowKit Go.Proofs.YtlhbcgmmgofcgaaW.PrintWords Go.Proofs.Ytlhbcgmmgofcgaa

/-- With enough rounds it answers y. -/
def Tos {α : Type} (F : Nat → Option α) (y : α) : Prop := ∃ K, ∀ k, K ≤ k → F k = some y
theorem Tos.pure {α : Type} (y : α) : Tos (fun _ => some y) y := ⟨0, fun _ _ => rfl⟩
theorem Tos.bind {α β : Type} {F : Nat → Option α} {G : Nat → α → Option β} {y : α} {z : β} (h : Tos F y) (h2 : Tos (fun k => G k y) z) : Tos (fun k => (F k).bind (G k)) z := by
  obtain ⟨K, h⟩ := h
  obtain ⟨K2, h2⟩ := h2
  exact ⟨K + K2, fun k hk => by
    show (F k).bind (G k) = some z
    rw [h k (by omega)]
    exact h2 k (by omega)⟩
theorem Tos.eq {α β : Type} {a : α} {F : Nat → Option β} {c : Nat → Option β} {y : β} {d : Decidable (a = a)} (h : Tos F y) : Tos (fun k => if a = a then F k else c k) y := by
  obtain ⟨K, h⟩ := h
  exact ⟨K, fun k hk => by
    show (if a = a then F k else c k) = some y
    rw [if_pos rfl]
    exact h k hk⟩
theorem Tos.ne {β : Type} {a : Bool} {F : Nat → Option β} {c : Nat → Option β} {y : β} (h : Tos F y) : Tos (fun k => if (a != a) = true then c k else F k) y := by
  obtain ⟨K, h⟩ := h
  exact ⟨K, fun k hk => by
    show (if (a != a) = true then c k else F k) = some y
    rw [if_neg (by simp)]
    exact h k hk⟩
theorem Tos.yes {β : Type} {A : Nat → Option Bool} {F c : Nat → Option β} {y : β} (h : Tos A true) (h2 : Tos F y) : Tos (fun k => (A k).bind fun t => if t = true then F k else c k) y := by
  obtain ⟨K, h⟩ := h
  obtain ⟨K2, h2⟩ := h2
  exact ⟨K + K2, fun k hk => by
    show ((A k).bind fun t => if t = true then F k else c k) = some y
    rw [h k (by omega)]
    exact h2 k (by omega)⟩
theorem Tos.no {β : Type} {A : Nat → Option Bool} {F c : Nat → Option β} {y : β} (h : Tos A false) (h2 : Tos F y) : Tos (fun k => (A k).bind fun t => if t = true then c k else F k) y := by
  obtain ⟨K, h⟩ := h
  obtain ⟨K2, h2⟩ := h2
  exact ⟨K + K2, fun k hk => by
    show ((A k).bind fun t => if t = true then c k else F k) = some y
    rw [h k (by omega)]
    exact h2 k (by omega)⟩
theorem Tos.ifPos {β : Type} {p : Prop} {d : Decidable p} {F c : Nat → Option β} {y : β} (hp : p) (h : Tos F y) : Tos (fun k => if p then F k else c k) y := by
  obtain ⟨K, h⟩ := h
  exact ⟨K, fun k hk => by
    show (if p then F k else c k) = some y
    rw [if_pos hp]
    exact h k hk⟩
theorem Tos.ifNeg {β : Type} {p : Prop} {d : Decidable p} {F c : Nat → Option β} {y : β} (hp : ¬ p) (h : Tos F y) : Tos (fun k => if p then c k else F k) y := by
  obtain ⟨K, h⟩ := h
  exact ⟨K, fun k hk => by
    show (if p then c k else F k) = some y
    rw [if_neg hp]
    exact h k hk⟩
theorem Tos.ite {β : Type} {p : Prop} {d : Decidable p} {F G : Nat → Option β} {y : β} (h : p → Tos F y) (h2 : ¬ p → Tos G y) : Tos (fun k => if p then F k else G k) y := by
  by_cases hp : p
  · exact Tos.ifPos hp (h hp)
  · exact Tos.ifNeg hp (h2 hp)
theorem Tos.of {β : Type} {F : Nat → Option β} {y : β} (h : ∀ k, F k = some y) : Tos F y := ⟨0, fun k _ => h k⟩
theorem Tos.step {α : Type} {F G : Nat → Option α} {y : α} (h : Tos G y) (he : ∀ k, F (k + 1) = G k) : Tos F y := by
  obtain ⟨K, h⟩ := h
  refine ⟨K + 1, fun k hk => ?_⟩
  obtain ⟨k, rfl⟩ : ∃ m, k = m + 1 := ⟨k - 1, by omega⟩
  rw [he]
  exact h k (by omega)
theorem Tos.at {α : Type} {F : Nat → Option α} {y : α} (h : Tos F y) : ∃ k, F k = some y := ⟨h.choose, h.choose_spec _ (Nat.le_refl _)⟩

/-- With enough rounds it answers something of which P holds. -/
def TosE {α : Type} (F : Nat → Option α) (P : α → Prop) : Prop := ∃ x, Tos F x ∧ P x
theorem TosE.pure {α : Type} {P : α → Prop} (x : α) (h : P x) : TosE (fun _ => some x) P := ⟨x, Tos.pure x, h⟩
theorem TosE.bind {α β : Type} {F : Nat → Option α} {G : Nat → α → Option β} {P : β → Prop} {y : α} (h : Tos F y) (h2 : TosE (fun k => G k y) P) : TosE (fun k => (F k).bind (G k)) P := by
  obtain ⟨x, h3, h4⟩ := h2
  exact ⟨x, Tos.bind h h3, h4⟩
theorem TosE.bindE {α β : Type} {F : Nat → Option α} {G : Nat → α → Option β} {P : β → Prop} {Q : α → Prop} (h : TosE F Q) (h2 : ∀ y, Q y → TosE (fun k => G k y) P) : TosE (fun k => (F k).bind (G k)) P := by
  obtain ⟨y, h3, h4⟩ := h
  exact TosE.bind h3 (h2 y h4)
theorem TosE.ifPos {β : Type} {p : Prop} {d : Decidable p} {F c : Nat → Option β} {P : β → Prop} (hp : p) (h : TosE F P) : TosE (fun k => if p then F k else c k) P := by
  obtain ⟨x, h3, h4⟩ := h
  exact ⟨x, Tos.ifPos hp h3, h4⟩
theorem TosE.ifNeg {β : Type} {p : Prop} {d : Decidable p} {F c : Nat → Option β} {P : β → Prop} (hp : ¬ p) (h : TosE F P) : TosE (fun k => if p then c k else F k) P := by
  obtain ⟨x, h3, h4⟩ := h
  exact ⟨x, Tos.ifNeg hp h3, h4⟩
theorem TosE.of {β : Type} {F : Option β} {P : β → Prop} (h : TosE (fun _ => F) P) : ∃ x, F = some x ∧ P x := by
  obtain ⟨x, ⟨K, h3⟩, h4⟩ := h
  exact ⟨x, h3 K (Nat.le_refl _), h4⟩

/-- A bulk: what is left, or -1. -/
def Szs (F : Nat → Int → Option Int) (P : Prop) : Prop := ∀ v, 0 ≤ v → v ≤ 1048576 → ∃ r, (r = -1 ∨ (0 ≤ r ∧ r ≤ v ∧ P)) ∧ Tos (fun k => F k v) r
theorem Szs.done : Szs (fun _ v => some v) True := fun v h0 _ => ⟨v, .inr ⟨h0, Int.le_refl v, trivial⟩, Tos.pure v⟩
theorem Szs.cut' {G : Nat → Int → Option Int} {Q : Prop} (n : Nat) (hn : n ≤ 9223372036854775807) (h : n ≤ 1048576 → Szs G Q) : Szs (fun k v => if wrap64 (v - (n : Int)) < 0 then some (-1) else G k (wrap64 (v - (n : Int)))) (n ≤ 1048576 ∧ Q) := by
  intro v h0 h1
  have e : wrap64 (v - (n : Int)) = v - n := by unfold wrap64; omega
  by_cases hc : v - (n : Int) < 0
  · exact ⟨-1, .inl rfl, Tos.ifPos (by rw [e]; exact hc) (Tos.pure _)⟩
  · obtain ⟨r, hr, ht⟩ := h (by omega) (v - n) (by omega) (by omega)
    refine ⟨r, ?_, Tos.ifNeg (by rw [e]; exact hc) (by rw [e]; exact ht)⟩
    rcases hr with hr | ⟨h2, h3, h4⟩
    · exact .inl hr
    · exact .inr ⟨h2, by omega, by omega, h4⟩
theorem Szs.cut {G : Nat → Int → Option Int} {Q : Prop} (n : Nat) (hn : n ≤ 9223372036854775807) (h : Szs G Q) : Szs (fun k v => if wrap64 (v - (n : Int)) < 0 then some (-1) else G k (wrap64 (v - (n : Int)))) (n ≤ 1048576 ∧ Q) := Szs.cut' n hn fun _ => h
theorem Szs.seq {F G : Nat → Int → Option Int} {P Q : Prop} (h : Szs F P) (h2 : Szs G Q) : Szs (fun k v => (F k v).bind fun t => if t < 0 then some (-1) else G k t) (P ∧ Q) := by
  intro v h0 h1
  obtain ⟨r, hr, ht⟩ := h v h0 h1
  rcases hr with rfl | ⟨h3, h4, h5⟩
  · exact ⟨-1, .inl rfl, Tos.bind ht (Tos.ifPos (by decide) (Tos.pure _))⟩
  · obtain ⟨r2, hr2, ht2⟩ := h2 r h3 (by omega)
    refine ⟨r2, ?_, Tos.bind ht (Tos.ifNeg (by omega) ht2)⟩
    rcases hr2 with hr2 | ⟨h6, h7, h8⟩
    · exact .inl hr2
    · exact .inr ⟨h6, by omega, h5, h8⟩
theorem at_of {α : Type} {xs : List α} {i : Nat} {x : α} (z : α) (h : xs[i]? = some x) : xs.getD ((i : Nat) : Int).toNat z = x := by
  rw [Int.toNat_natCast, List.getD_eq_getElem?_getD, h]
  rfl
theorem Szs.list {α : Type} {l0 : Nat → List α → Int → Int → Option Int} (F : Nat → α → Int → Option Int) (z : α) {S : α → Prop} (xs : List α) (hl : xs.length ≤ 9223372036854775807)
    (he : ∀ k v i, l0 (k + 1) xs v i = if i < (xs.length : Int) then (if 0 ≤ i then ((F k (xs.getD i.toNat z) v).bind fun t => if t < 0 then some (-1) else l0 k xs t (wrap64 (i + 1))) else none) else some v)
    (el : ∀ x ∈ xs, Szs (fun k v => F k x v) (S x)) :
    Szs (fun k v => if wrap64 (v - (xs.length : Int)) < 0 then some (-1) else l0 k xs (wrap64 (v - (xs.length : Int))) 0) (xs.length ≤ 1048576 ∧ ∀ x ∈ xs, S x) := by
  refine Szs.cut' (G := fun k v => l0 k xs v 0) xs.length hl fun hl2 => ?_
  intro v h0 h1
  refine Plain.sz_list (fun k v i => l0 k xs v i) xs S (fun i x u hx hi h2 h3 => ?_) (fun u k => ?_) v h0 h1
  · obtain ⟨r, hr, K, h⟩ := el x (List.mem_of_getElem? hx) u h2 h3
    refine ⟨r, hr, K, fun k hk => ?_⟩
    show l0 (k + 1) xs u (i : Int) = _
    have h' : F k x u = some r := h k hk
    rw [he, if_pos (by omega), if_pos (by omega), at_of z hx, h', Plain.next i (by omega)]
    rfl
  · show l0 (k + 1) xs u (xs.length : Int) = _
    rw [he, if_neg (by omega)]
theorem Szs.texts {l0 : Nat → List ByteArray → Int → Int → Option Int} (xs : List ByteArray) (hl : xs.length ≤ 9223372036854775807 ∧ ∀ x ∈ xs, x.size ≤ 9223372036854775807)
    (he : ∀ k v i, l0 (k + 1) xs v i = if i < (xs.length : Int) then (if 0 ≤ i then (if wrap64 (v - ((xs.getD i.toNat ByteArray.empty).size : Int)) < 0 then some (-1) else l0 k xs (wrap64 (v - ((xs.getD i.toNat ByteArray.empty).size : Int))) (wrap64 (i + 1))) else none) else some v) :
    Szs (fun k v => if wrap64 (v - (xs.length : Int)) < 0 then some (-1) else l0 k xs (wrap64 (v - (xs.length : Int))) 0) (xs.length ≤ 1048576 ∧ ∀ x ∈ xs, x.size ≤ 1048576 ∧ True) := by
  refine Szs.list (fun _ s v => if wrap64 (v - (s.size : Int)) < 0 then some (-1) else some (wrap64 (v - (s.size : Int)))) ByteArray.empty xs hl.1 ?_ (fun x hx => Szs.cut x.size (hl.2 x hx) Szs.done)
  intro k v i
  rw [he]
  split
  · split
    · split
      · rfl
      · next h => show _ = if _ then _ else _; rw [if_neg h]
    · rfl
  · rfl
theorem Tos.list {α β γ : Type} {l0 : Nat → List α → List β → Int → Option (List β)} (F : Nat → α → Option γ) (t : α → γ) (c : γ → β) (z : α) (z' : β) (cap : Nat) (xs : List α) (hl : xs.length ≤ 1048576) (hcap : 1048576 ≤ cap)
    (he : ∀ k ys i, l0 (k + 1) xs ys i = if i < (xs.length : Int) then (if 0 ≤ i then ((F k (xs.getD i.toNat z)).bind fun b => if i < (ys.length : Int) then l0 k xs (ys.set i.toNat (c b)) (wrap64 (i + 1)) else none) else none) else some ys)
    (el : ∀ x ∈ xs, Tos (fun k => F k x) (t x)) :
    Tos (fun k => if 0 ≤ (xs.length : Int) then (if ((xs.length : Int) : Int).toNat ≤ cap then l0 k xs (List.replicate ((xs.length : Int) : Int).toNat z') 0 else none) else none) (xs.map fun x => c (t x)) := by
  refine Tos.ifPos (by omega) (Tos.ifPos (by omega) ?_)
  rw [Int.toNat_natCast]
  refine Plain.to_list (fun k ys i => l0 k xs ys i) xs (fun x => c (t x)) z' (fun i x ys hx hi hy => ?_) (fun ys k => ?_)
  · obtain ⟨K, h⟩ := el x (List.mem_of_getElem? hx)
    refine ⟨K, fun k hk => ?_⟩
    show l0 (k + 1) xs ys (i : Int) = _
    have h' : F k x = some (t x) := h k hk
    rw [he, if_pos (by omega), if_pos (by omega), at_of z hx, h', Plain.next i (by omega)]
    show (if (i : Int) < (ys.length : Int) then _ else none) = _
    rw [if_pos (by omega), Int.toNat_natCast]
  · show l0 (k + 1) xs ys (xs.length : Int) = _
    rw [he, if_neg (by omega)]
theorem Tos.eqs {α : Type} {l0 : Nat → List α → List α → Int → Option Bool} (F : Nat → α → Option Bool) (z : α) (xs : List α) (hl : xs.length ≤ 2305843009213693952)
    (he : ∀ k i, l0 (k + 1) xs xs i = if i < (xs.length : Int) then (if 0 ≤ i then (if i < (xs.length : Int) then ((F k (xs.getD i.toNat z)).bind fun t => if t = true then l0 k xs xs (wrap64 (i + 1)) else some false) else none) else none) else some true)
    (el : ∀ x ∈ xs, Tos (fun k => F k x) true) :
    Tos (fun k => if (xs.length : Int) = (xs.length : Int) then l0 k xs xs 0 else some false) true := by
  refine Tos.eq ?_
  refine Plain.eq_list (fun k i => l0 k xs xs i) xs.length (fun i hi => ?_) (fun k => ?_)
  · have hx : xs[i]? = some xs[i] := List.getElem?_eq_getElem hi
    obtain ⟨K, h⟩ := el xs[i] (List.mem_of_getElem? hx)
    refine ⟨K, fun k hk => ?_⟩
    show l0 (k + 1) xs xs (i : Int) = _
    have h' : F k xs[i] = some true := h k hk
    rw [he, if_pos (by omega), if_pos (by omega), if_pos (by omega), at_of z hx, h', Plain.next i (by omega)]
    rfl
  · show l0 (k + 1) xs xs (xs.length : Int) = _
    rw [he, if_neg (by omega)]
theorem Tos.eqsPlain {α γ : Type} [DecidableEq γ] {l0 : Nat → List α → List α → Int → Option Bool} (c : α → γ) (z : α) (xs : List α) (hl : xs.length ≤ 2305843009213693952)
    (he : ∀ k i, l0 (k + 1) xs xs i = if i < (xs.length : Int) then (if 0 ≤ i then (if i < (xs.length : Int) then (if c (xs.getD i.toNat z) = c (xs.getD i.toNat z) then l0 k xs xs (wrap64 (i + 1)) else some false) else none) else none) else some true) :
    Tos (fun k => if (xs.length : Int) = (xs.length : Int) then l0 k xs xs 0 else some false) true := by
  refine Tos.eqs (fun _ _ => some true) z xs hl (fun k i => ?_) (fun _ _ => Tos.pure true)
  rw [he, if_pos (rfl : c (xs.getD i.toNat z) = c (xs.getD i.toNat z))]
  rfl

end Go.Proofs.Ytlhbcgmmgofcgaa.Fam
