/- The law FnExactCodeWord over plain data: program and reference tell the same word of every code; no condition. -/
import Derived.Test.YtmbkhbihgnhoaaaPFnExactCodeWordx1
namespace Go.Proofs.Ytmbkhbihgnhoaaa.Pure
open Go.RowKit Go.Proofs.Ytmbkhbihgnhoaaa.PFnExactCodeWord Go.Proofs.YtmbkhbihgnhoaaaW.PrintWords Go.Proofs.YtmbkhbihgnhoaaaW.PrintLast

theorem FnExactCodeWord : laws_FnExactCodeWord.Pure := by
  intro a _
  unfold laws_FnExactCodeWord.f spec_CodeWord.f impl_CodeWord.f impl_codeWords.f impl_within.f
  simp only [Option.bind_some, List.length_cons, List.length_nil, Nat.zero_add, Nat.reduceAdd]
  have e : wrap64 (((20 : Nat) : Int) - 1) = 19 := by unfold wrap64; omega
  rw [e]
  by_cases h0 : a < 0
  · rw [if_pos h0, if_neg (by omega)]
    simp
  · by_cases h1 : a ≥ ((20 : Nat) : Int)
    · rw [if_neg h0, if_pos h1, if_pos (by omega)]
      have e2 : decide (a ≤ 19) = false := decide_eq_false (by omega)
      simp [e2]
    · rw [if_neg h0, if_neg h1, if_pos (by omega), if_pos (by omega), if_pos (by omega)]
      have e2 : decide (a ≤ 19) = true := decide_eq_true (by omega)
      simp only [Option.bind_some, e2, if_true]

end Go.Proofs.Ytmbkhbihgnhoaaa.Pure
