/- A tree that is walked by places, each place once: what is seen, what a place's parents are; no condition. -/
import Derived.Test.YtlhbcgmmgofcgaaWMore
namespace Go.Proofs.Ytlhbcgmmgofcgaa.Tw
open Go.RowKit Go.Proofs.YtlhbcgmmgofcgaaW.PrintWords

/-- A walk over kids, one behind the other. -/
def fold {σ : Type} (g : σ → Int → Int → Option σ) : List (Int × Int) → σ → Option σ
  | [], s => some s
  | p :: t, s => (g s p.1 p.2).bind (fold g t)

/-- What a walk from a place has seen; none where a place is none, was seen, or is not fine. -/
def W (n : Nat) (fine : Int → Int → Bool) (kids : Int → List (Int × Int)) : Nat → List Bool → Int → Int → Option (List Bool)
  | 0, _, _, _ => none
  | d + 1, seen, k, s => if 0 ≤ k ∧ k ≤ (n : Int) - 1 ∧ rdOf false seen k = false ∧ fine k s = true then fold (W n fine kids d) (kids k) (seen.set k.toNat true) else none

variable {n : Nat} {fine : Int → Int → Bool} {kids : Int → List (Int × Int)}

theorem fold_some {σ : Type} {g : σ → Int → Int → Option σ} {p : Int × Int} {t : List (Int × Int)} {s r : σ} (h : fold g (p :: t) s = some r) : ∃ s', g s p.1 p.2 = some s' ∧ fold g t s' = some r := by
  unfold fold at h
  exact Option.bind_eq_some_iff.1 h

/-- What each step keeps, a walk keeps. -/
theorem fold_keep {σ : Type} {g : σ → Int → Int → Option σ} (P : σ → σ → Prop) (h0 : ∀ s, P s s) (ht : ∀ a b c, P a b → P b c → P a c) (hg : ∀ s k q r, g s k q = some r → P s r) : ∀ (l : List (Int × Int)) (s r : σ), fold g l s = some r → P s r
  | [], s, r, h => by
    unfold fold at h
    obtain rfl := Option.some.inj h
    exact h0 s
  | p :: t, s, r, h => by
    obtain ⟨s', h1, h2⟩ := fold_some h
    exact ht _ _ _ (hg _ _ _ _ h1) (fold_keep P h0 ht hg t s' r h2)

theorem W_some {d : Nat} {seen r : List Bool} {k s : Int} (h : W n fine kids d seen k s = some r) : ∃ d', d = d' + 1 ∧ 0 ≤ k ∧ k ≤ (n : Int) - 1 ∧ rdOf false seen k = false ∧ fine k s = true ∧ fold (W n fine kids d') (kids k) (seen.set k.toNat true) = some r := by
  cases d with
  | zero => simp [W] at h
  | succ d =>
    unfold W at h
    split at h
    · next hc => exact ⟨d, rfl, hc.1, hc.2.1, hc.2.2.1, hc.2.2.2, h⟩
    · cases h

theorem W_len : ∀ (d : Nat) (seen r : List Bool) (k s : Int), W n fine kids d seen k s = some r → r.length = seen.length
  | 0, seen, r, k, s, h => by simp [W] at h
  | d + 1, seen, r, k, s, h => by
    obtain ⟨d', e, _, _, _, _, h⟩ := W_some h
    obtain rfl : d = d' := by omega
    have := fold_keep (fun a b : List Bool => b.length = a.length) (fun _ => rfl) (fun a b c h1 h2 => h2.trans h1) (fun s k q r h => W_len d s r k q h) _ _ _ h
    rw [this, List.length_set]

theorem rd_set (l : List Bool) (k j : Int) (_hk : 0 ≤ k) (_hj : 0 ≤ j) (h : rdOf false l j = true) : rdOf false (l.set k.toNat true) j = true := by
  unfold rdOf at *
  by_cases e : k.toNat = j.toNat
  · have hl : j.toNat < l.length := by
      apply Classical.byContradiction
      intro hn
      rw [List.getD_eq_getElem?_getD, List.getElem?_eq_none (by omega)] at h
      cases h
    rw [List.getD_eq_getElem?_getD, e, List.getElem?_set_self hl]
    rfl
  · rw [List.getD_eq_getElem?_getD, List.getElem?_set_ne e, ← List.getD_eq_getElem?_getD]
    exact h

theorem rd_set_self (l : List Bool) (k : Int) (hk : k.toNat < l.length) : rdOf false (l.set k.toNat true) k = true := by
  unfold rdOf
  rw [List.getD_eq_getElem?_getD, List.getElem?_set_self hk]
  rfl

theorem rd_set_ne (l : List Bool) (k j : Int) (hk : 0 ≤ k) (hj : 0 ≤ j) (e : j ≠ k) : rdOf false (l.set k.toNat true) j = rdOf false l j := by
  unfold rdOf
  rw [List.getD_eq_getElem?_getD, List.getElem?_set_ne (by omega), ← List.getD_eq_getElem?_getD]

/-- What was seen stays seen. -/
theorem W_mono : ∀ (d : Nat) (seen r : List Bool) (k s : Int), W n fine kids d seen k s = some r → ∀ j, 0 ≤ j → rdOf false seen j = true → rdOf false r j = true
  | 0, seen, r, k, s, h => by simp [W] at h
  | d + 1, seen, r, k, s, h => by
    obtain ⟨d', e, hk, _, _, _, h⟩ := W_some h
    obtain rfl : d = d' := by omega
    intro j hj hs
    exact fold_keep (fun a b : List Bool => ∀ j, 0 ≤ j → rdOf false a j = true → rdOf false b j = true) (fun _ _ _ h => h) (fun a b c h1 h2 j hj h => h2 j hj (h1 j hj h)) (fun s k q r h => W_mono d s r k q h) _ _ _ h j hj (rd_set _ _ _ hk hj hs)

/-- What is seen newly is the place itself, or some place's kid. -/
theorem W_parent : ∀ (d : Nat) (seen r : List Bool) (k s : Int), W n fine kids d seen k s = some r → ∀ j, 0 ≤ j → rdOf false r j = true → rdOf false seen j = true ∨ j = k ∨ ∃ i, 0 ≤ i ∧ i ≤ (n : Int) - 1 ∧ ∃ q, (j, q) ∈ kids i
  | 0, seen, r, k, s, h => by simp [W] at h
  | d + 1, seen, r, k, s, h => by
    obtain ⟨d', e, hk, hk1, _, _, h⟩ := W_some h
    obtain rfl : d = d' := by omega
    intro j hj hr
    have key : ∀ (l : List (Int × Int)) (a b : List Bool), (∀ p ∈ l, p ∈ kids k) → fold (W n fine kids d) l a = some b → rdOf false b j = true → rdOf false a j = true ∨ ∃ i, 0 ≤ i ∧ i ≤ (n : Int) - 1 ∧ ∃ q, (j, q) ∈ kids i := by
      intro l
      induction l with
      | nil =>
        intro a b _ hf hb
        unfold fold at hf
        obtain rfl := Option.some.inj hf
        exact .inl hb
      | cons p t ih =>
        intro a b hl hf hb
        obtain ⟨a', h1, h2⟩ := fold_some hf
        rcases ih a' b (fun q hq => hl q (List.mem_cons_of_mem _ hq)) h2 hb with h3 | h3
        · rcases W_parent d a a' p.1 p.2 h1 j hj h3 with h4 | h4 | h4
          · exact .inl h4
          · refine .inr ⟨k, hk, hk1, p.2, ?_⟩
            rw [h4]
            exact hl p List.mem_cons_self
          · exact .inr h4
        · exact .inr h3
    rcases key _ _ _ (fun _ h => h) h hr with h3 | h3
    · by_cases e : j = k
      · exact .inr (.inl e)
      · rw [rd_set_ne _ _ _ hk hj e] at h3
        exact .inl h3
    · exact .inr (.inr h3)

/-- A place that is seen newly has no kids that were seen, and not the first place itself. -/
theorem W_noback : ∀ (d : Nat) (seen r : List Bool) (k s : Int), seen.length = n → W n fine kids d seen k s = some r → ∀ j, 0 ≤ j → rdOf false r j = true → rdOf false seen j = false → ∀ c q, (c, q) ∈ kids j → 0 ≤ c ∧ c ≤ (n : Int) - 1 ∧ rdOf false seen c = false ∧ c ≠ k
  | 0, seen, r, k, s, _, h => by simp [W] at h
  | d + 1, seen, r, k, s, hn, h => by
    obtain ⟨d', e, hk, hk1, hsk, _, h⟩ := W_some h
    obtain rfl : d = d' := by omega
    intro j hj hr hsj c q hc
    have hlt : k.toNat < seen.length := by omega
    have up : ∀ c, 0 ≤ c → rdOf false (seen.set k.toNat true) c = false → rdOf false seen c = false ∧ c ≠ k := by
      intro c h0 h1
      by_cases e : c = k
      · subst e
        rw [rd_set_self _ _ hlt] at h1
        cases h1
      · rw [rd_set_ne _ _ _ hk h0 e] at h1
        exact ⟨h1, e⟩
    have back : ∀ a b : List Bool, (∀ j, 0 ≤ j → rdOf false a j = true → rdOf false b j = true) → ∀ c, 0 ≤ c → rdOf false b c = false → rdOf false a c = false := by
      intro a b h c h0 h1
      cases e : rdOf false a c with
      | false => rfl
      | true => rw [h c h0 e] at h1; cases h1
    have key : ∀ (l : List (Int × Int)) (a b : List Bool), a.length = n → fold (W n fine kids d) l a = some b →
        (∀ p ∈ l, 0 ≤ p.1 ∧ p.1 ≤ (n : Int) - 1 ∧ rdOf false a p.1 = false) ∧ (rdOf false b j = true → rdOf false a j = false → 0 ≤ c ∧ c ≤ (n : Int) - 1 ∧ rdOf false a c = false) := by
      intro l
      induction l with
      | nil =>
        intro a b _ hf
        unfold fold at hf
        obtain rfl := Option.some.inj hf
        exact ⟨fun p hp => by simp at hp, fun h1 h2 => by rw [h1] at h2; cases h2⟩
      | cons p t ih =>
        intro a b ha hf
        obtain ⟨a', h1, h2⟩ := fold_some hf
        have hm := W_mono d a a' p.1 p.2 h1
        obtain ⟨i1, i2⟩ := ih a' b ((W_len d a a' p.1 p.2 h1).trans ha) h2
        obtain ⟨_, _, p0, p1, p2, _, _⟩ := W_some h1
        refine ⟨fun x hx => ?_, fun hb haj => ?_⟩
        · rcases List.mem_cons.1 hx with rfl | hx
          · exact ⟨p0, p1, p2⟩
          · have := i1 x hx
            exact ⟨this.1, this.2.1, back _ _ hm _ this.1 this.2.2⟩
        · cases hq : rdOf false a' j with
          | true =>
            have := W_noback d a a' p.1 p.2 ha h1 j hj hq haj c q hc
            exact ⟨this.1, this.2.1, this.2.2.1⟩
          | false =>
            have := i2 hb hq
            exact ⟨this.1, this.2.1, back _ _ hm _ this.1 this.2.2⟩
    obtain ⟨k1, k2⟩ := key (kids k) _ _ (by rw [List.length_set]; exact hn) h
    by_cases e : j = k
    · subst e
      have := k1 (c, q) hc
      exact ⟨this.1, this.2.1, up c this.1 this.2.2⟩
    · have := k2 hr (by rw [rd_set_ne _ _ _ hk hj e]; exact hsj)
      exact ⟨this.1, this.2.1, up c this.1 this.2.2⟩

end Go.Proofs.Ytlhbcgmmgofcgaa.Tw
