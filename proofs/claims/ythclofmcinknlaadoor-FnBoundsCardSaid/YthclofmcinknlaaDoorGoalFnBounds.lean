/- The law FnBounds: what its arguments are, read as plain values; the pure statement. No condition beyond what every such argument meets. -/
import Derived.Test.YthclofmcinknlaaDoorQFnBoundsx7
import Derived.Test.YthclofmcinknlaaDoorOpens
namespace Go.Proofs.YthclofmcinknlaaDoor.GoalFnBounds
open Go.RowKit Go.Proofs.YthclofmcinknlaaDoor.QFnBounds Go.Proofs.YthclofmcinknlaaDoorW.PrintWords Go.Proofs.YthclofmcinknlaaDoorW.PrintLast Go.Proofs.YthclofmcinknlaaDoor

/-- The pure statement. -/
def Pure : Prop := ∀ (l0 : List Int) (l1 : List Int), (l0.length ≤ maxLen ∧ ∀ y ∈ l0, (Lit.int .u8 y).wf = true) → (l1.length ≤ maxLen ∧ ∀ y ∈ l1, (Lit.int .u8 y).wf = true) → ∃ k, laws_FnBounds.f k l0 l1 = some true

end Go.Proofs.YthclofmcinknlaaDoor.GoalFnBounds
