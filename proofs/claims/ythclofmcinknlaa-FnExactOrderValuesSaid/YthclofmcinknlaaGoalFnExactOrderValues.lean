/- The law FnExactOrderValues: what its arguments are, read as plain values; the pure statement. No condition beyond what every such argument meets. -/
import Derived.Test.YthclofmcinknlaaQFnExactOrderValuesx4
import Derived.Test.YthclofmcinknlaaOpens
namespace Go.Proofs.Ythclofmcinknlaa.GoalFnExactOrderValues
open Go.RowKit Go.Proofs.Ythclofmcinknlaa.QFnExactOrderValues Go.Proofs.YthclofmcinknlaaW.PrintWords Go.Proofs.YthclofmcinknlaaW.PrintLast Go.Proofs.Ythclofmcinknlaa

/-- The pure statement. -/
def Pure : Prop := ∀ (a0_0 : Int) (a0_1 : Int) (a0_2 : ByteArray) (a1_0 : Int) (a1_1 : Int) (a1_2 : ByteArray), (Lit.int .i64 a0_0).wf = true → (Lit.int .i64 a0_1).wf = true → a0_2.size ≤ maxLen → (Lit.int .i64 a1_0).wf = true → (Lit.int .i64 a1_1).wf = true → a1_2.size ≤ maxLen → ∃ k, laws_FnExactOrderValues.f k a0_0 a0_1 a0_2 a1_0 a1_1 a1_2 = some true

end Go.Proofs.Ythclofmcinknlaa.GoalFnExactOrderValues
