-- After words that the kit's print.sh lays: what these laws do not use is left out, by this session's program.
import Derived.Test.YtlhbcgmmgofcgaaWN
namespace Go.Proofs.YtlhbcgmmgofcgaaW.PrintWords
open Go.RowKit
namespace Kd
section
variable {α : Type} {d : Kd α} {W : World} {g n : Nat} {S ok : Nat → Prop} {A : Option Addr} {ad : Addr} {xs : List α}
end
end Kd
end Go.Proofs.YtlhbcgmmgofcgaaW.PrintWords
