/- The law FnExactFuncsOf: what its arguments are, read as plain values; the pure statement. No condition beyond what every such argument meets. -/
import Derived.Test.YtngcheicabbpoaaQFnExactFuncsOfx13
import Derived.Test.YtngcheicabbpoaaOpens
namespace Go.Proofs.Ytngcheicabbpoaa.GoalFnExactFuncsOf
open Go.RowKit Go.Proofs.Ytngcheicabbpoaa.QFnExactFuncsOf Go.Proofs.YtngcheicabbpoaaW.PrintWords Go.Proofs.YtngcheicabbpoaaW.PrintLast Go.Proofs.Ytngcheicabbpoaa

/-- What holds of a value of type 65. -/
def G65 (x : S65) : Prop := (Lit.int .i64 x.f0).wf = true ∧ (Lit.int .i64 x.f1).wf = true ∧ x.f2.size ≤ maxLen ∧ (x.f3.length ≤ maxLen ∧ ∀ y ∈ x.f3, y.size ≤ maxLen) ∧ (x.f4.length ≤ maxLen ∧ ∀ y ∈ x.f4, (Lit.int .i64 y).wf = true)
theorem opens65 : Opn.Opens Try.prog k65 65 G65 := Opn.opens_iso (fun x : S65 => (x.f0, x.f1, x.f2, x.f3, x.f4)) (fun y => ⟨y.1, y.2.1, y.2.2.1, y.2.2.2.1, y.2.2.2.2⟩) (fun _ => rfl) (Opn.opens_struct Try.underlying65 (by kernel_rfl) (Opn.opensF_cons rfl (Opn.opens_int Try.underlying3 (by kernel_rfl)) (Opn.opensF_cons rfl (Opn.opens_int Try.underlying3 (by kernel_rfl)) (Opn.opensF_cons rfl (Opn.opens_string Try.underlying9 (by kernel_rfl)) (Opn.opensF_cons rfl (Opn.opens_slice Try.underlying39 (by kernel_rfl) (Opn.opens_string Try.underlying9 (by kernel_rfl))) (Opn.opensF_one rfl (Opn.opens_slice Try.underlying50 (by kernel_rfl) (Opn.opens_int Try.underlying3 (by kernel_rfl)))))))))

/-- The pure statement. -/
def Pure : Prop := ∀ (l0_0 : List S65) (a0_1 : Int), (l0_0.length ≤ maxLen ∧ ∀ y ∈ l0_0, G65 y) → (Lit.int .i64 a0_1).wf = true → ∃ k, laws_FnExactFuncsOf.f k l0_0 a0_1 = some true

end Go.Proofs.Ytngcheicabbpoaa.GoalFnExactFuncsOf
