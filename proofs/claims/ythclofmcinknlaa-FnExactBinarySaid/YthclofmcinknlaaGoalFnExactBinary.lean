/- The law FnExactBinary: what its arguments are, read as plain values; the pure statement. No condition beyond what every such argument meets. -/
import Derived.Test.YthclofmcinknlaaQFnExactBinaryx8
import Derived.Test.YthclofmcinknlaaOpens
namespace Go.Proofs.Ythclofmcinknlaa.GoalFnExactBinary
open Go.RowKit Go.Proofs.Ythclofmcinknlaa.QFnExactBinary Go.Proofs.YthclofmcinknlaaW.PrintWords Go.Proofs.YthclofmcinknlaaW.PrintLast Go.Proofs.Ythclofmcinknlaa

/-- The pure statement. -/
def Pure : Prop := ∀ (a0 : ByteArray) (a1_0 : Int) (a1_1 : Int) (a1_2 : ByteArray) (a2_0 : Int) (a2_1 : Int) (a2_2 : ByteArray), a0.size ≤ maxLen → (Lit.int .i64 a1_0).wf = true → (Lit.int .i64 a1_1).wf = true → a1_2.size ≤ maxLen → (Lit.int .i64 a2_0).wf = true → (Lit.int .i64 a2_1).wf = true → a2_2.size ≤ maxLen → ∃ k, laws_FnExactBinary.f k a0 a1_0 a1_1 a1_2 a2_0 a2_1 a2_2 = some true

end Go.Proofs.Ythclofmcinknlaa.GoalFnExactBinary
