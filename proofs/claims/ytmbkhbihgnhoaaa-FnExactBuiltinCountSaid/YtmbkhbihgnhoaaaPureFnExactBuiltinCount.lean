/- The law FnExactBuiltinCount over plain data: program and reference tell the same number of arguments of every name; no condition. -/
import Derived.Test.YtmbkhbihgnhoaaaPFnExactBuiltinCountx1
namespace Go.Proofs.Ytmbkhbihgnhoaaa.Pure
open Go.RowKit Go.Proofs.Ytmbkhbihgnhoaaa.PFnExactBuiltinCount Go.Proofs.YtmbkhbihgnhoaaaW.PrintWords Go.Proofs.YtmbkhbihgnhoaaaW.PrintLast

theorem kinds_count (s : List UInt8) (v : ByteArray) (hv : v.toList = s) (k : Nat) : ∃ n l b, spec_l01Count.f (k + 2) v = some n ∧ impl_builtinKinds.f (k + 2) v = some (l, b) ∧
    ((n < 0 ∧ b = false) ∨ (0 ≤ n ∧ b = true ∧ (l.length : Int) = n)) := by
  unfold spec_l01Count.f impl_builtinKinds.f
  simp only [spec_l01Count.j0, spec_l01Count.j1, impl_builtinKinds.j0, hv]
  by_cases h1 : s = [108, 101, 110]
  · subst h1; exact ⟨_, _, _, rfl, rfl, .inr ⟨by decide, rfl, rfl⟩⟩
  by_cases h2 : s = [115, 116, 114]
  · subst h2; exact ⟨_, _, _, rfl, rfl, .inr ⟨by decide, rfl, rfl⟩⟩
  by_cases h3 : s = [97, 98, 115]
  · subst h3; exact ⟨_, _, _, rfl, rfl, .inr ⟨by decide, rfl, rfl⟩⟩
  by_cases h4 : s = [97, 116]
  · subst h4; exact ⟨_, _, _, rfl, rfl, .inr ⟨by decide, rfl, rfl⟩⟩
  by_cases h5 : s = [109, 97, 120]
  · subst h5; exact ⟨_, _, _, rfl, rfl, .inr ⟨by decide, rfl, rfl⟩⟩
  by_cases h6 : s = [109, 105, 110]
  · subst h6; exact ⟨_, _, _, rfl, rfl, .inr ⟨by decide, rfl, rfl⟩⟩
  by_cases h7 : s = [99, 117, 116]
  · subst h7; exact ⟨_, _, _, rfl, rfl, .inr ⟨by decide, rfl, rfl⟩⟩
  have e3 : (s == [97, 98, 115]) = false := beq_eq_false_iff_ne.2 h3
  have e6 : (s == [109, 105, 110]) = false := beq_eq_false_iff_ne.2 h6
  simp only [if_neg h1, if_neg h2, if_neg h3, if_neg h4, if_neg h5, if_neg h7, e3, e6, Bool.false_eq_true, if_false]
  exact ⟨_, _, _, rfl, rfl, .inl ⟨by decide, rfl⟩⟩

theorem FnExactBuiltinCount : laws_FnExactBuiltinCount.Pure := by
  intro v _
  refine ⟨2, ?_⟩
  obtain ⟨n, l, b, h1, h2, h3⟩ := kinds_count v.toList v rfl 0
  unfold laws_FnExactBuiltinCount.f spec_BuiltinCount.f impl_BuiltinCount.f
  rw [show spec_l01Count.f 2 v = some n from h1, show impl_builtinKinds.f 2 v = some (l, b) from h2]
  simp only [Option.bind_some]
  by_cases hs : (v.size : Int) > 65536
  · rw [if_pos hs, if_pos hs]
    simp
  · rw [if_neg hs, if_neg hs]
    rcases h3 with ⟨hn, rfl⟩ | ⟨hn, rfl, hl⟩
    · rw [if_pos hn]
      simp
    · rw [if_neg (show ¬ n < 0 by omega), hl]
      simp

end Go.Proofs.Ytmbkhbihgnhoaaa.Pure
