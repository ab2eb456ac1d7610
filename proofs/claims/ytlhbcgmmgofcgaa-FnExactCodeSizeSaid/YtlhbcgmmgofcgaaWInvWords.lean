-- After words that the kit's print.sh lays: what these laws do not use is left out, by this session's program.
import Derived.Test.YtlhbcgmmgofcgaaWInv
import Derived.Test.YtlhbcgmmgofcgaaWFootNe
namespace Go.Proofs.YtlhbcgmmgofcgaaW.PrintWords
open Go.RowKit
end Go.Proofs.YtlhbcgmmgofcgaaW.PrintWords
namespace Go.Proofs.YtlhbcgmmgofcgaaW.PrintLast
section
variable {ops : Array Oper} {a : Act} {o og : Oper} {g : Nat} {t : Tmp} {u : Bool}
end
end Go.Proofs.YtlhbcgmmgofcgaaW.PrintLast
