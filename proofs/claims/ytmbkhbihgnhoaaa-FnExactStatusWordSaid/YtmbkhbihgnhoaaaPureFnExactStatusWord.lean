/- The law FnExactStatusWord over plain data: program and reference tell the same word of every status; no condition. -/
import Derived.Test.YtmbkhbihgnhoaaaPFnExactStatusWordx1
namespace Go.Proofs.Ytmbkhbihgnhoaaa.Pure
open Go.RowKit Go.Proofs.Ytmbkhbihgnhoaaa.PFnExactStatusWord Go.Proofs.YtmbkhbihgnhoaaaW.PrintWords Go.Proofs.YtmbkhbihgnhoaaaW.PrintLast

theorem status_same (a : Int) : impl_StatusWord.f a = spec_StatusWord.f a := rfl

theorem status_some (a : Int) : ∃ t, spec_StatusWord.f a = some t := by
  unfold spec_StatusWord.f
  repeat' split
  all_goals exact ⟨_, rfl⟩

theorem FnExactStatusWord : laws_FnExactStatusWord.Pure := by
  intro a _
  obtain ⟨t, h⟩ := status_some a
  unfold laws_FnExactStatusWord.f
  rw [status_same, h]
  simp only [Option.bind_some, if_true]

end Go.Proofs.Ytmbkhbihgnhoaaa.Pure
