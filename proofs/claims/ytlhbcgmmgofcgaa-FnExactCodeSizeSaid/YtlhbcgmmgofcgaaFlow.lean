/- Ways through a code: a worklist that gives each place that is reached one label; whatever is taken first, it ends alike; no condition. -/
set_option linter.unusedSectionVars false
namespace Go.Proofs.Ytlhbcgmmgofcgaa.Fl

variable {σ : Type}

/-- What is reached, with its label. -/
inductive R (nx : Nat → σ → Option (List (Nat × σ))) (s0 : σ) : Nat → σ → Prop
  | start : R nx s0 0 s0
  | step {k : Nat} {s : σ} {ws : List (Nat × σ)} {w : Nat} {t : σ} : R nx s0 k s → nx k s = some ws → (w, t) ∈ ws → R nx s0 w t

/-- Each place that is reached goes on, and has one label. -/
def Okay (nx : Nat → σ → Option (List (Nat × σ))) (s0 : σ) : Prop :=
  (∀ k s, R nx s0 k s → ∃ ws, nx k s = some ws) ∧ (∀ k s s', R nx s0 k s → R nx s0 k s' → s = s')

variable [DecidableEq σ]

/-- A label comes to a place: none where another one is there; what is new. -/
def come (st : Nat → Option σ) (w : Nat) (t : σ) : Option ((Nat → Option σ) × List Nat) :=
  match st w with
  | none => some (fun k => if k = w then some t else st k, [w])
  | some t' => if t' = t then some (st, []) else none

def comes : List (Nat × σ) → (Nat → Option σ) → Option ((Nat → Option σ) × List Nat)
  | [], st => some (st, [])
  | p :: ws, st => (come st p.1 p.2).bind fun r => (comes ws r.1).bind fun r2 => some (r2.1, r.2 ++ r2.2)

/-- What holds between rounds. -/
structure Inv (nx : Nat → σ → Option (List (Nat × σ))) (s0 : σ) (st : Nat → Option σ) (todo : List Nat) : Prop where
  start : st 0 = some s0
  sound : ∀ k s, st k = some s → R nx s0 k s
  todo_in : ∀ k, k ∈ todo → ∃ s, st k = some s
  done : ∀ k s, st k = some s → k ∉ todo → ∃ ws, nx k s = some ws ∧ ∀ p ∈ ws, st p.1 = some p.2

theorem come_some {st st' : Nat → Option σ} {w : Nat} {t : σ} {n : List Nat} (h : come st w t = some (st', n)) :
    st' w = some t ∧ (∀ k s, st k = some s → st' k = some s) ∧ (∀ k s, st' k = some s → st k = some s ∨ (k ∈ n ∧ k = w ∧ s = t)) ∧ (∀ k, k ∈ n → st k = none ∧ st' k ≠ none) := by
  unfold come at h
  split at h
  · next e =>
    obtain ⟨rfl, rfl⟩ := Prod.mk.inj (Option.some.inj h)
    refine ⟨by simp, fun k s hk => ?_, fun k s hk => ?_, fun k hk => ?_⟩
    · have : k ≠ w := fun e2 => by rw [e2, e] at hk; cases hk
      simp [this, hk]
    · by_cases e2 : k = w
      · simp [e2] at hk
        exact .inr ⟨by simp [e2], e2, hk.symm⟩
      · simp [e2] at hk
        exact .inl hk
    · obtain rfl : k = w := by simpa using hk
      exact ⟨e, by simp⟩
  · next t' e =>
    split at h
    · next e2 =>
      obtain ⟨rfl, rfl⟩ := Prod.mk.inj (Option.some.inj h)
      exact ⟨by rw [e, e2], fun _ _ h => h, fun _ _ h => .inl h, fun k hk => by simp at hk⟩
    · cases h

theorem comes_some : ∀ (ws : List (Nat × σ)) (st st' : Nat → Option σ) (n : List Nat), comes ws st = some (st', n) →
    (∀ p ∈ ws, st' p.1 = some p.2) ∧ (∀ k s, st k = some s → st' k = some s) ∧ (∀ k s, st' k = some s → st k = some s ∨ (k ∈ n ∧ (k, s) ∈ ws)) ∧ (∀ k, k ∈ n → st k = none ∧ st' k ≠ none)
  | [], st, st', n, h => by
    obtain ⟨rfl, rfl⟩ := Prod.mk.inj (Option.some.inj h)
    exact ⟨fun p hp => by simp at hp, fun _ _ h => h, fun _ _ h => .inl h, fun k hk => by simp at hk⟩
  | p :: ws, st, st', n, h => by
    unfold comes at h
    obtain ⟨⟨st1, n1⟩, h1, h⟩ := Option.bind_eq_some_iff.1 h
    obtain ⟨⟨st2, n2⟩, h2, h⟩ := Option.bind_eq_some_iff.1 h
    obtain ⟨rfl, rfl⟩ := Prod.mk.inj (Option.some.inj h)
    obtain ⟨a1, a2, a3, a4⟩ := come_some h1
    obtain ⟨b1, b2, b3, b4⟩ := comes_some ws _ _ _ h2
    refine ⟨fun q hq => ?_, fun k s hk => b2 k s (a2 k s hk), fun k s hk => ?_, fun k hk => ?_⟩
    · rcases List.mem_cons.1 hq with rfl | hq
      · exact b2 _ _ a1
      · exact b1 q hq
    · rcases b3 k s hk with h3 | ⟨h3, h4⟩
      · rcases a3 k s h3 with h5 | ⟨h5, rfl, rfl⟩
        · exact .inl h5
        · exact .inr ⟨List.mem_append.2 (.inl h5), List.mem_cons_self⟩
      · exact .inr ⟨List.mem_append.2 (.inr h3), List.mem_cons_of_mem _ h4⟩
    · rcases List.mem_append.1 hk with hk | hk
      · obtain ⟨h3, h4⟩ := a4 k hk
        refine ⟨h3, fun h5 => h4 ?_⟩
        cases e : st1 k with
        | none => rfl
        | some s => exact absurd ((b2 k s e).symm.trans h5) (by simp)
      · obtain ⟨h3, h4⟩ := b4 k hk
        refine ⟨?_, h4⟩
        cases e : st k with
        | none => rfl
        | some s => exact absurd ((a2 k s e).symm.trans h3) (by simp)

theorem comes_append : ∀ (ws vs : List (Nat × σ)) (st : Nat → Option σ), comes (ws ++ vs) st = (comes ws st).bind fun r => (comes vs r.1).bind fun r2 => some (r2.1, r.2 ++ r2.2)
  | [], vs, st => by
    show comes vs st = (comes vs st).bind fun r2 => some (r2.1, [] ++ r2.2)
    cases comes vs st with
    | none => rfl
    | some r => rfl
  | p :: ws, vs, st => by
    show ((come st p.1 p.2).bind fun r => (comes (ws ++ vs) r.1).bind fun r2 => some (r2.1, r.2 ++ r2.2)) = ((come st p.1 p.2).bind fun r => (comes ws r.1).bind fun r2 => some (r2.1, r.2 ++ r2.2)).bind _
    cases come st p.1 p.2 with
    | none => rfl
    | some r =>
      show ((comes (ws ++ vs) r.1).bind fun r2 => some (r2.1, r.2 ++ r2.2)) = ((comes ws r.1).bind fun r2 => some (r2.1, r.2 ++ r2.2)).bind _
      rw [comes_append ws vs r.1]
      cases comes ws r.1 with
      | none => rfl
      | some r2 =>
        show ((comes vs r2.1).bind fun r3 => some (r3.1, r2.2 ++ r3.2)).bind _ = (comes vs r2.1).bind _
        cases comes vs r2.1 with
        | none => rfl
        | some r3 =>
          show some (r3.1, r.2 ++ (r2.2 ++ r3.2)) = some (r3.1, (r.2 ++ r2.2) ++ r3.2)
          rw [List.append_assoc]

/-- A round. -/
theorem Inv.round {nx : Nat → σ → Option (List (Nat × σ))} {s0 : σ} {st st' : Nat → Option σ} {todo rest n : List Nat} {k : Nat} {s : σ} {ws : List (Nat × σ)} (h : Inv nx s0 st todo)
    (hp : ∀ x, x ∈ todo ↔ x = k ∨ x ∈ rest) (hk : st k = some s) (hw : nx k s = some ws) (hc : comes ws st = some (st', n)) (todo' : List Nat) (ht : ∀ x, x ∈ todo' ↔ x ∈ rest ∨ x ∈ n) : Inv nx s0 st' todo' := by
  obtain ⟨c1, c2, c3, c4⟩ := comes_some ws st st' n hc
  refine ⟨c2 _ _ h.start, fun j t hj => ?_, fun j hj => ?_, fun j t hj hn => ?_⟩
  · rcases c3 j t hj with h1 | ⟨_, h1⟩
    · exact h.sound j t h1
    · exact R.step (h.sound k s hk) hw h1
  · rcases (ht j).1 hj with h1 | h1
    · obtain ⟨t, h2⟩ := h.todo_in j ((hp j).2 (.inr h1))
      exact ⟨t, c2 _ _ h2⟩
    · cases e : st' j with
      | none => exact absurd e (c4 j h1).2
      | some t => exact ⟨t, rfl⟩
  · have hn1 : j ∉ rest := fun h1 => hn ((ht j).2 (.inl h1))
    have hn2 : j ∉ n := fun h1 => hn ((ht j).2 (.inr h1))
    rcases c3 j t hj with h1 | ⟨h1, _⟩
    · by_cases e : j = k
      · subst e
        rw [hk] at h1
        cases h1
        exact ⟨ws, hw, c1⟩
      · obtain ⟨ws', h2, h3⟩ := h.done j t h1 (fun h4 => by rcases (hp j).1 h4 with h5 | h5; exact e h5; exact hn1 h5)
        exact ⟨ws', h2, fun p hp => c2 _ _ (h3 p hp)⟩
    · exact absurd h1 hn2

/-- Where nothing is left to do, it is all right, and what has a label is what is reached. -/
theorem Inv.ends {nx : Nat → σ → Option (List (Nat × σ))} {s0 : σ} {st : Nat → Option σ} (h : Inv nx s0 st []) : Okay nx s0 ∧ ∀ k s, st k = some s ↔ R nx s0 k s := by
  have key : ∀ k s, R nx s0 k s → st k = some s := fun k s hr => by
    induction hr with
    | start => exact h.start
    | step _ hw hm ih =>
      obtain ⟨ws', h1, h2⟩ := h.done _ _ ih (by simp)
      rw [hw] at h1
      cases h1
      exact h2 _ hm
  refine ⟨⟨fun k s hr => ?_, fun k s s' h1 h2 => ?_⟩, fun k s => ⟨h.sound k s, key k s⟩⟩
  · obtain ⟨ws, h1, _⟩ := h.done k s (key k s hr) (by simp)
    exact ⟨ws, h1⟩
  · have e1 := key k s h1
    rw [key k s' h2] at e1
    exact (Option.some.inj e1).symm

/-- Where a place does not go on, it is not all right. -/
theorem Inv.stops {nx : Nat → σ → Option (List (Nat × σ))} {s0 : σ} {st : Nat → Option σ} {todo : List Nat} (h : Inv nx s0 st todo) {k : Nat} {s : σ} (hk : st k = some s) (hw : nx k s = none) : ¬ Okay nx s0 := fun ho => by
  obtain ⟨ws, h1⟩ := ho.1 k s (h.sound k s hk)
  rw [hw] at h1
  cases h1

theorem come_none {nx : Nat → σ → Option (List (Nat × σ))} {s0 : σ} {st : Nat → Option σ} {w : Nat} {t : σ} (hs : ∀ k s, st k = some s → R nx s0 k s) (hw : R nx s0 w t) (h : come st w t = none) : ¬ Okay nx s0 := fun ho => by
  unfold come at h
  split at h
  · cases h
  · next t' e =>
    split at h
    · cases h
    · next e2 => exact e2 (ho.2 w t' t (hs w t' e) hw)

theorem comes_none {nx : Nat → σ → Option (List (Nat × σ))} {s0 : σ} : ∀ (ws : List (Nat × σ)) (st : Nat → Option σ), (∀ k s, st k = some s → R nx s0 k s) → (∀ p ∈ ws, R nx s0 p.1 p.2) → comes ws st = none → ¬ Okay nx s0
  | [], st, _, _, h => by cases h
  | p :: ws, st, hs, hw, h => by
    unfold comes at h
    cases e : come st p.1 p.2 with
    | none => exact come_none hs (hw p List.mem_cons_self) e
    | some r =>
      obtain ⟨st1, n1⟩ := r
      rw [e] at h
      have h : ((comes ws st1).bind fun r2 => some (r2.1, n1 ++ r2.2)) = none := h
      cases e2 : comes ws st1 with
      | none =>
        refine comes_none ws st1 (fun k s hk => ?_) (fun q hq => hw q (List.mem_cons_of_mem _ hq)) e2
        rcases (come_some e).2.2.1 k s hk with h1 | ⟨_, rfl, rfl⟩
        · exact hs k s h1
        · exact hw p List.mem_cons_self
      | some r2 => rw [e2] at h; cases h

/-- Where labels do not agree, it is not all right. -/
theorem Inv.clash {nx : Nat → σ → Option (List (Nat × σ))} {s0 : σ} {st : Nat → Option σ} {todo : List Nat} (h : Inv nx s0 st todo) {k : Nat} {s : σ} {ws : List (Nat × σ)} (hk : st k = some s) (hw : nx k s = some ws) (hc : comes ws st = none) : ¬ Okay nx s0 :=
  comes_none ws st h.sound (fun p hp => R.step (h.sound k s hk) hw (by obtain ⟨a, b⟩ := p; exact hp)) hc

theorem Inv.init (nx : Nat → σ → Option (List (Nat × σ))) (s0 : σ) : Inv nx s0 (fun k => if k = 0 then some s0 else none) [0] := by
  refine ⟨by simp, fun k s hk => ?_, fun k hk => ?_, fun k s hk hn => ?_⟩
  · by_cases e : k = 0
    · subst e
      simp at hk
      subst hk
      exact R.start
    · simp [e] at hk
  · obtain rfl : k = 0 := by simpa using hk
    exact ⟨s0, by simp⟩
  · by_cases e : k = 0
    · exact absurd (by simp [e]) hn
    · simp [e] at hk

end Go.Proofs.Ytlhbcgmmgofcgaa.Fl
