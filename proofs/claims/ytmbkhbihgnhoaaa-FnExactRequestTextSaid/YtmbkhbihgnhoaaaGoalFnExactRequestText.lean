/- The law FnExactRequestText: what its arguments are, read as plain values; the pure statement. No condition beyond what every such argument meets. -/
import Derived.Test.YtmbkhbihgnhoaaaQFnExactRequestTextx2
import Derived.Test.YtmbkhbihgnhoaaaOpens
namespace Go.Proofs.Ytmbkhbihgnhoaaa.GoalFnExactRequestText
open Go.RowKit Go.Proofs.Ytmbkhbihgnhoaaa.QFnExactRequestText Go.Proofs.YtmbkhbihgnhoaaaW.PrintWords Go.Proofs.YtmbkhbihgnhoaaaW.PrintLast Go.Proofs.Ytmbkhbihgnhoaaa

/-- The pure statement. -/
def Pure : Prop := ∀ (a0_0 : ByteArray) (a0_1 : Bool), a0_0.size ≤ maxLen → ∃ k, laws_FnExactRequestText.f k a0_0 a0_1 = some true

end Go.Proofs.Ytmbkhbihgnhoaaa.GoalFnExactRequestText
