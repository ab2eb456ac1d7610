/- The law FnExactTruth: what its arguments are, read as plain values; the pure statement. No condition beyond what every such argument meets. -/
import Derived.Test.YtmbkhbihgnhoaaaQFnExactTruthx2
import Derived.Test.YtmbkhbihgnhoaaaOpens
namespace Go.Proofs.Ytmbkhbihgnhoaaa.GoalFnExactTruth
open Go.RowKit Go.Proofs.Ytmbkhbihgnhoaaa.QFnExactTruth Go.Proofs.YtmbkhbihgnhoaaaW.PrintWords Go.Proofs.YtmbkhbihgnhoaaaW.PrintLast Go.Proofs.Ytmbkhbihgnhoaaa

/-- The pure statement. -/
def Pure : Prop := ∀ (a0_0 : Int) (a0_1 : Int) (a0_2 : ByteArray), (Lit.int .i64 a0_0).wf = true → (Lit.int .i64 a0_1).wf = true → a0_2.size ≤ maxLen → laws_FnExactTruth.f a0_0 a0_1 a0_2 = some true

end Go.Proofs.Ytmbkhbihgnhoaaa.GoalFnExactTruth
