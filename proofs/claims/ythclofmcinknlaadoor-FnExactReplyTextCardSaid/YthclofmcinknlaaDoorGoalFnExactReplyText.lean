/- The law FnExactReplyText: what its arguments are, read as plain values; the pure statement. No condition beyond what every such argument meets. -/
import Derived.Test.YthclofmcinknlaaDoorQFnExactReplyTextx2
import Derived.Test.YthclofmcinknlaaDoorOpens
namespace Go.Proofs.YthclofmcinknlaaDoor.GoalFnExactReplyText
open Go.RowKit Go.Proofs.YthclofmcinknlaaDoor.QFnExactReplyText Go.Proofs.YthclofmcinknlaaDoorW.PrintWords Go.Proofs.YthclofmcinknlaaDoorW.PrintLast Go.Proofs.YthclofmcinknlaaDoor

/-- The pure statement. -/
def Pure : Prop := ∀ (a0 : Int) (a1 : ByteArray) (a2 : Bool), (Lit.int .i64 a0).wf = true → a1.size ≤ maxLen → ∃ k, laws_FnExactReplyText.f k a0 a1 a2 = some true

end Go.Proofs.YthclofmcinknlaaDoor.GoalFnExactReplyText
