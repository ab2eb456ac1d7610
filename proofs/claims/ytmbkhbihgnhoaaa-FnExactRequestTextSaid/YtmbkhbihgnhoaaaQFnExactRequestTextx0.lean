/- Functions that the law uses, as Lean functions with the same answers, and the walks that show it: by this session's program, after the form of the kit's print. No condition. -/
import Derived.Test.YtmbkhbihgnhoaaaProg
import Derived.Below
import Derived.Deep.Draws
import Derived.Deep.AppendLies
import Derived.Maps.AppendAt
import Derived.OwnWalk
import Derived.Laws.BytesArg
import Derived.Laws.MakeOwn
import Derived.Laws.OwnMore
import Derived.Deep.OwnRows
import Derived.Tactics
import Derived.Lib.ConvBytes
import Derived.Laws.Slices
import Derived.WalkKit
import Derived.KernelRfl
import Derived.RowKit3
import Derived.Deep.LoopGhost
import Derived.Deep.QuietTactic
import Derived.BigQuiet
import Derived.WideLaws
import Derived.Deep.DeepCutAuto
import Derived.Deep.CutBlock
import Derived.Deep.RegionHeld3
import Derived.Laws.Rows
import Derived.Lib.AppendStr
import Derived.ArgAppend
import Derived.Laws.IdiomCopy
import Derived.OrdersHeld
import Derived.Laws.BitsLemmas
import Derived.RowKit
import Derived.Test.YtmbkhbihgnhoaaaMine
import Derived.Test.YtmbkhbihgnhoaaaWWords
import Derived.Test.YtmbkhbihgnhoaaaWLast
import Derived.Test.YtmbkhbihgnhoaaaWTab
import Derived.Test.YtmbkhbihgnhoaaaWFour
import Derived.Test.YtmbkhbihgnhoaaaWQPut
import Derived.Test.YtmbkhbihgnhoaaaWApart
import Derived.Test.YtmbkhbihgnhoaaaWArr
import Derived.Test.YtmbkhbihgnhoaaaWZeros
import Derived.Test.YtmbkhbihgnhoaaaWFoot
import Derived.Test.YtmbkhbihgnhoaaaWKept
import Derived.Test.YtmbkhbihgnhoaaaWShare
import Derived.Test.YtmbkhbihgnhoaaaWN
import Derived.Test.YtmbkhbihgnhoaaaWFootNe
import Derived.Test.YtmbkhbihgnhoaaaWAt
import Derived.Test.YtmbkhbihgnhoaaaWEqStruct
import Derived.Test.YtmbkhbihgnhoaaaWRepsOne
import Derived.Test.YtmbkhbihgnhoaaaWInv
import Derived.Test.YtmbkhbihgnhoaaaWInvWords
import Derived.Test.YtmbkhbihgnhoaaaWGuard
import Derived.Test.YtmbkhbihgnhoaaaWNEv
import Derived.Test.YtmbkhbihgnhoaaaWMore
namespace Go.Proofs.Ytmbkhbihgnhoaaa.QFnExactRequestText
open Go.RowKit Go.Proofs.YtmbkhbihgnhoaaaW.PrintWords Go.Proofs.YtmbkhbihgnhoaaaW.PrintLast Go.Proofs.YtmbkhbihgnhoaaaW.PrintMore
attribute [local go_sem] max2_int min2_int max_two min_two max_three min_three max_four min_four   -- for this text's walks alone
open Go.Proofs.Ytmbkhbihgnhoaaa
attribute [local go_sem high] My.binOp_gtr_flip
set_option linter.unusedVariables false
set_option linter.unusedSimpArgs false



def errW : Option Int → Value
  | none => .nilIface
  | some c => .iface 0 (.int .i64 c)
theorem errW_none : errW none = .nilIface := rfl
theorem errW_some (c : Int) : errW (some c) = .iface 0 (.int .i64 c) := rfl

-- the values' own types

end Go.Proofs.Ytmbkhbihgnhoaaa.QFnExactRequestText
