/- Functions that the law uses, as Lean functions with the same answers, and the walks that show it: by this session's program, after the form of the kit's print. No condition. -/
import Derived.Test.YthclofmcinknlaaProg
import Derived.Below
import Derived.Deep.Draws
import Derived.Deep.AppendLies
import Derived.Maps.AppendAt
import Derived.OwnWalk
import Derived.Laws.BytesArg
import Derived.Laws.MakeOwn
import Derived.Laws.OwnMore
import Derived.Deep.OwnRows
import Derived.Tactics
import Derived.Lib.ConvBytes
import Derived.Laws.Slices
import Derived.WalkKit
import Derived.KernelRfl
import Derived.RowKit3
import Derived.Deep.LoopGhost
import Derived.Deep.QuietTactic
import Derived.BigQuiet
import Derived.WideLaws
import Derived.Deep.DeepCutAuto
import Derived.Deep.CutBlock
import Derived.Deep.RegionHeld3
import Derived.Laws.Rows
import Derived.Lib.AppendStr
import Derived.ArgAppend
import Derived.Laws.IdiomCopy
import Derived.OrdersHeld
import Derived.Laws.BitsLemmas
import Derived.RowKit
import Derived.Test.YthclofmcinknlaaMine
import Derived.Test.YthclofmcinknlaaWWords
import Derived.Test.YthclofmcinknlaaWLast
import Derived.Test.YthclofmcinknlaaWTab
import Derived.Test.YthclofmcinknlaaWFour
import Derived.Test.YthclofmcinknlaaWQPut
import Derived.Test.YthclofmcinknlaaWApart
import Derived.Test.YthclofmcinknlaaWArr
import Derived.Test.YthclofmcinknlaaWZeros
import Derived.Test.YthclofmcinknlaaWFoot
import Derived.Test.YthclofmcinknlaaWKept
import Derived.Test.YthclofmcinknlaaWShare
import Derived.Test.YthclofmcinknlaaWN
import Derived.Test.YthclofmcinknlaaWFootNe
import Derived.Test.YthclofmcinknlaaWAt
import Derived.Test.YthclofmcinknlaaWEqStruct
import Derived.Test.YthclofmcinknlaaWRepsOne
import Derived.Test.YthclofmcinknlaaWInv
import Derived.Test.YthclofmcinknlaaWInvWords
import Derived.Test.YthclofmcinknlaaWGuard
import Derived.Test.YthclofmcinknlaaWNEv
import Derived.Test.YthclofmcinknlaaWMore
namespace Go.Proofs.Ythclofmcinknlaa.QFnExactSplitPath
open Go.RowKit Go.Proofs.YthclofmcinknlaaW.PrintWords Go.Proofs.YthclofmcinknlaaW.PrintLast Go.Proofs.YthclofmcinknlaaW.PrintMore
attribute [local go_sem] max2_int min2_int max_two min_two max_three min_three max_four min_four   -- for this text's walks alone
open Go.Proofs.Ythclofmcinknlaa
attribute [local go_sem high] My.binOp_gtr_flip
set_option linter.unusedVariables false
set_option linter.unusedSimpArgs false



def errW : Option Int → Value
  | none => .nilIface
  | some c => .iface 0 (.int .i64 c)
theorem errW_none : errW none = .nilIface := rfl
theorem errW_some (c : Int) : errW (some c) = .iface 0 (.int .i64 c) := rfl

-- the values' own types

end Go.Proofs.Ythclofmcinknlaa.QFnExactSplitPath
