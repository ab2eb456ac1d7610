-- After words that the kit's print.sh lays: what these laws do not use is left out, by this session's program.
import Derived.Test.YtngcheicabbpoaaWInv
import Derived.Test.YtngcheicabbpoaaWFootNe
namespace Go.Proofs.YtngcheicabbpoaaW.PrintWords
open Go.RowKit
end Go.Proofs.YtngcheicabbpoaaW.PrintWords
namespace Go.Proofs.YtngcheicabbpoaaW.PrintLast
section
variable {ops : Array Oper} {a : Act} {o og : Oper} {g : Nat} {t : Tmp} {u : Bool}
end
end Go.Proofs.YtngcheicabbpoaaW.PrintLast
