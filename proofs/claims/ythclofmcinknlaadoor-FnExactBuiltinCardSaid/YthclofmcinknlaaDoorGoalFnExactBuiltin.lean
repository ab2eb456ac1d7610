/- The law FnExactBuiltin: what its arguments are, read as plain values; the pure statement. No condition beyond what every such argument meets. -/
import Derived.Test.YthclofmcinknlaaDoorQFnExactBuiltinx8
import Derived.Test.YthclofmcinknlaaDoorOpens
namespace Go.Proofs.YthclofmcinknlaaDoor.GoalFnExactBuiltin
open Go.RowKit Go.Proofs.YthclofmcinknlaaDoor.QFnExactBuiltin Go.Proofs.YthclofmcinknlaaDoorW.PrintWords Go.Proofs.YthclofmcinknlaaDoorW.PrintLast Go.Proofs.YthclofmcinknlaaDoor

/-- What holds of a value of type 26. -/
def G26 (x : S26) : Prop := (Lit.int .i64 x.f0).wf = true ∧ (Lit.int .i64 x.f1).wf = true ∧ x.f2.size ≤ maxLen
theorem opens26 : Opn.Opens Tryd.prog k26 26 G26 := Opn.opens_iso (fun x : S26 => (x.f0, x.f1, x.f2)) (fun y => ⟨y.1, y.2.1, y.2.2⟩) (fun _ => rfl) (Opn.opens_struct Tryd.underlying26 (by kernel_rfl) (Opn.opensF_cons rfl (Opn.opens_int Tryd.underlying3 (by kernel_rfl)) (Opn.opensF_cons rfl (Opn.opens_int Tryd.underlying3 (by kernel_rfl)) (Opn.opensF_one rfl (Opn.opens_string Tryd.underlying9 (by kernel_rfl))))))

/-- The pure statement. -/
def Pure : Prop := ∀ (a0 : ByteArray) (l1 : List S26), a0.size ≤ maxLen → (l1.length ≤ maxLen ∧ ∀ y ∈ l1, G26 y) → ∃ k, laws_FnExactBuiltin.f k a0 l1 = some true

end Go.Proofs.YthclofmcinknlaaDoor.GoalFnExactBuiltin
