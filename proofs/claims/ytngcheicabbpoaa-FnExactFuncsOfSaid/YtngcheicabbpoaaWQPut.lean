-- After words that the kit's print.sh lays: what these laws do not use is left out, by this session's program.
import Derived.Test.YtngcheicabbpoaaWWords
import Derived.Test.YtngcheicabbpoaaWLast
namespace Go.Proofs.YtngcheicabbpoaaW.PrintWords
open Go.RowKit
namespace Kd
section
variable {α : Type} {d : Kd α} {e base g o n cap : Nat} {ok okp : Nat → Prop} {w W : World} {v : Value} {xs : List α}
end
section
variable {α : Type} {enc : α → Value} {h1 : ∀ x, (enc x).oneCell' = true} {e base g o n cap : Nat} {ok : Nat → Prop} {W : World} {xs : List α}
end
end Kd
end Go.Proofs.YtngcheicabbpoaaW.PrintWords
