/- The law FnExactValueText: what its arguments are, read as plain values; the pure statement. No condition beyond what every such argument meets. -/
import Derived.Test.YthclofmcinknlaaDoorQFnExactValueTextx3
import Derived.Test.YthclofmcinknlaaDoorOpens
namespace Go.Proofs.YthclofmcinknlaaDoor.GoalFnExactValueText
open Go.RowKit Go.Proofs.YthclofmcinknlaaDoor.QFnExactValueText Go.Proofs.YthclofmcinknlaaDoorW.PrintWords Go.Proofs.YthclofmcinknlaaDoorW.PrintLast Go.Proofs.YthclofmcinknlaaDoor

/-- The pure statement. -/
def Pure : Prop := ∀ (a0_0 : Int) (a0_1 : Int) (a0_2 : ByteArray), (Lit.int .i64 a0_0).wf = true → (Lit.int .i64 a0_1).wf = true → a0_2.size ≤ maxLen → ∃ k, laws_FnExactValueText.f k a0_0 a0_1 a0_2 = some true

end Go.Proofs.YthclofmcinknlaaDoor.GoalFnExactValueText
