/- The law FnExactCodeSize: what its arguments are, read as plain values; the pure statement. No condition beyond what every such argument meets. -/
import Derived.Test.YtlhbcgmmgofcgaaQFnExactCodeSizey
import Derived.Test.YtlhbcgmmgofcgaaOpens
namespace Go.Proofs.Ytlhbcgmmgofcgaa.GoalFnExactCodeSize
open Go.RowKit Go.Proofs.Ytlhbcgmmgofcgaa.QFnExactProgramOK Go.Proofs.YtlhbcgmmgofcgaaW.PrintWords Go.Proofs.YtlhbcgmmgofcgaaW.PrintLast Go.Proofs.Ytlhbcgmmgofcgaa

/-- What holds of a value of type 152. -/
def G152 (x : S152) : Prop := (Lit.int .i64 x.f0).wf = true ∧ (Lit.int .i64 x.f1).wf = true ∧ x.f2.size ≤ maxLen
theorem opens152 : Opn.Opens Try.prog k152 152 G152 := Opn.opens_iso (fun x : S152 => (x.f0, x.f1, x.f2)) (fun y => ⟨y.1, y.2.1, y.2.2⟩) (fun _ => rfl) (Opn.opens_struct Try.underlying152 (by kernel_rfl) (Opn.opensF_cons rfl (Opn.opens_int Try.underlying3 (by kernel_rfl)) (Opn.opensF_cons rfl (Opn.opens_int Try.underlying3 (by kernel_rfl)) (Opn.opensF_one rfl (Opn.opens_string Try.underlying9 (by kernel_rfl))))))

/-- What holds of a value of type 154. -/
def G154 (x : S154) : Prop := (Lit.int .i64 x.f0).wf = true ∧ (Lit.int .i64 x.f1).wf = true ∧ (Lit.int .i64 x.f2).wf = true ∧ x.f3.size ≤ maxLen ∧ G152 x.f4
theorem opens154 : Opn.Opens Try.prog k154 154 G154 := Opn.opens_iso (fun x : S154 => (x.f0, x.f1, x.f2, x.f3, x.f4)) (fun y => ⟨y.1, y.2.1, y.2.2.1, y.2.2.2.1, y.2.2.2.2⟩) (fun _ => rfl) (Opn.opens_struct Try.underlying154 (by kernel_rfl) (Opn.opensF_cons rfl (Opn.opens_int Try.underlying3 (by kernel_rfl)) (Opn.opensF_cons rfl (Opn.opens_int Try.underlying3 (by kernel_rfl)) (Opn.opensF_cons rfl (Opn.opens_int Try.underlying3 (by kernel_rfl)) (Opn.opensF_cons rfl (Opn.opens_string Try.underlying9 (by kernel_rfl)) (Opn.opensF_one rfl opens152))))))

/-- What holds of a value of type 93. -/
def G93 (x : S93) : Prop := x.f0.size ≤ maxLen ∧ (Lit.int .i64 x.f1).wf = true ∧ (Lit.int .i64 x.f2).wf = true ∧ (x.f3.length ≤ maxLen ∧ ∀ y ∈ x.f3, G154 y)
theorem opens93 : Opn.Opens Try.prog k93 93 G93 := Opn.opens_iso (fun x : S93 => (x.f0, x.f1, x.f2, x.f3)) (fun y => ⟨y.1, y.2.1, y.2.2.1, y.2.2.2⟩) (fun _ => rfl) (Opn.opens_struct Try.underlying93 (by kernel_rfl) (Opn.opensF_cons rfl (Opn.opens_string Try.underlying9 (by kernel_rfl)) (Opn.opensF_cons rfl (Opn.opens_int Try.underlying3 (by kernel_rfl)) (Opn.opensF_cons rfl (Opn.opens_int Try.underlying3 (by kernel_rfl)) (Opn.opensF_one rfl (Opn.opens_slice Try.underlying91 (by kernel_rfl) opens154))))))

/-- The pure statement. -/
def Pure : Prop := ∀ (l0_0 : List S93), (l0_0.length ≤ maxLen ∧ ∀ y ∈ l0_0, G93 y) → ∃ k, laws_FnExactCodeSize.f k l0_0 = some true

end Go.Proofs.Ytlhbcgmmgofcgaa.GoalFnExactCodeSize
