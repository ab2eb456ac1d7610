-- After words that the kit's print.sh lays: what these laws do not use is left out, by this session's program.
import Derived.Test.YthclofmcinknlaaDoorWInv
import Derived.Test.YthclofmcinknlaaDoorWFootNe
namespace Go.Proofs.YthclofmcinknlaaDoorW.PrintWords
open Go.RowKit
end Go.Proofs.YthclofmcinknlaaDoorW.PrintWords
namespace Go.Proofs.YthclofmcinknlaaDoorW.PrintLast
section
variable {ops : Array Oper} {a : Act} {o og : Oper} {g : Nat} {t : Tmp} {u : Bool}
end
end Go.Proofs.YthclofmcinknlaaDoorW.PrintLast
