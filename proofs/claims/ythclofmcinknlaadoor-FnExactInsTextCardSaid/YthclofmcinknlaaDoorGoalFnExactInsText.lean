/- The law FnExactInsText: what its arguments are, read as plain values; the pure statement. No condition beyond what every such argument meets. -/
import Derived.Test.YthclofmcinknlaaDoorQFnExactInsTextx7
import Derived.Test.YthclofmcinknlaaDoorOpens
namespace Go.Proofs.YthclofmcinknlaaDoor.GoalFnExactInsText
open Go.RowKit Go.Proofs.YthclofmcinknlaaDoor.QFnExactInsText Go.Proofs.YthclofmcinknlaaDoorW.PrintWords Go.Proofs.YthclofmcinknlaaDoorW.PrintLast Go.Proofs.YthclofmcinknlaaDoor

/-- The pure statement. -/
def Pure : Prop := ∀ (a0_0 : Int) (a0_1 : Int) (a0_2 : Int) (a0_3 : ByteArray) (a0_4 : Int) (a0_5 : Int) (a0_6 : ByteArray), (Lit.int .i64 a0_0).wf = true → (Lit.int .i64 a0_1).wf = true → (Lit.int .i64 a0_2).wf = true → a0_3.size ≤ maxLen → (Lit.int .i64 a0_4).wf = true → (Lit.int .i64 a0_5).wf = true → a0_6.size ≤ maxLen → ∃ k, laws_FnExactInsText.f k a0_0 a0_1 a0_2 a0_3 a0_4 a0_5 a0_6 = some true

end Go.Proofs.YthclofmcinknlaaDoor.GoalFnExactInsText
