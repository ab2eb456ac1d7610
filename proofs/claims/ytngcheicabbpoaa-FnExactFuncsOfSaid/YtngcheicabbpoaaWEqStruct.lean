-- After words that the kit's print.sh lays: what these laws do not use is left out, by this session's program.
import Derived.Test.YtngcheicabbpoaaWWords
import Derived.Laws.StructEq
namespace Go.Proofs.YtngcheicabbpoaaW.PrintWords
open Go.RowKit
section
variable {P : Program} {d : Nat} {xs ys : Array Value} {f : Field} {fs : List Field} {a b : Value} {r s : Bool} {w : World}
end
end Go.Proofs.YtngcheicabbpoaaW.PrintWords
