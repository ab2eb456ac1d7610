/- Functions that the law uses, as Lean functions with the same answers, and the walks that show it: by this session's program, after the form of the kit's print. No condition. -/
import Derived.Test.YthclofmcinknlaaDoorProg
import Derived.Below
import Derived.Deep.Draws
import Derived.Deep.AppendLies
import Derived.Maps.AppendAt
import Derived.OwnWalk
import Derived.Laws.BytesArg
import Derived.Laws.MakeOwn
import Derived.Laws.OwnMore
import Derived.Deep.OwnRows
import Derived.Tactics
import Derived.Lib.ConvBytes
import Derived.Laws.Slices
import Derived.WalkKit
import Derived.KernelRfl
import Derived.RowKit3
import Derived.Deep.LoopGhost
import Derived.Deep.QuietTactic
import Derived.BigQuiet
import Derived.WideLaws
import Derived.Deep.DeepCutAuto
import Derived.Deep.CutBlock
import Derived.Deep.RegionHeld3
import Derived.Laws.Rows
import Derived.Lib.AppendStr
import Derived.ArgAppend
import Derived.Laws.IdiomCopy
import Derived.OrdersHeld
import Derived.Laws.BitsLemmas
import Derived.RowKit
import Derived.Test.YthclofmcinknlaaDoorMine
import Derived.Test.YthclofmcinknlaaDoorTab
import Derived.Test.YthclofmcinknlaaDoorHeld
import Derived.Test.YthclofmcinknlaaDoorWalk
import Derived.Deep.DeepCutAuto
import Derived.Deep.LoopGhost
import Derived.Shelf.RegionOpenPlain
import Derived.IntWalk
import Derived.StillTailTactics
import Derived.Test.YthclofmcinknlaaDoorWWords
import Derived.Test.YthclofmcinknlaaDoorWLast
import Derived.Test.YthclofmcinknlaaDoorWTab
import Derived.Test.YthclofmcinknlaaDoorWFour
import Derived.Test.YthclofmcinknlaaDoorWQPut
import Derived.Test.YthclofmcinknlaaDoorWApart
import Derived.Test.YthclofmcinknlaaDoorWArr
import Derived.Test.YthclofmcinknlaaDoorWZeros
import Derived.Test.YthclofmcinknlaaDoorWFoot
import Derived.Test.YthclofmcinknlaaDoorWKept
import Derived.Test.YthclofmcinknlaaDoorWShare
import Derived.Test.YthclofmcinknlaaDoorWN
import Derived.Test.YthclofmcinknlaaDoorWFootNe
import Derived.Test.YthclofmcinknlaaDoorWAt
import Derived.Test.YthclofmcinknlaaDoorWEqStruct
import Derived.Test.YthclofmcinknlaaDoorWRepsOne
import Derived.Test.YthclofmcinknlaaDoorWInv
import Derived.Test.YthclofmcinknlaaDoorWInvWords
import Derived.Test.YthclofmcinknlaaDoorWGuard
import Derived.Test.YthclofmcinknlaaDoorWNEv
import Derived.Test.YthclofmcinknlaaDoorWMore
namespace Go.Proofs.YthclofmcinknlaaDoor.QFnExactInsText
open Go.RowKit Go.Proofs.YthclofmcinknlaaDoorW.PrintWords Go.Proofs.YthclofmcinknlaaDoorW.PrintLast Go.Proofs.YthclofmcinknlaaDoorW.PrintMore
attribute [local go_sem] max2_int min2_int max_two min_two max_three min_three max_four min_four   -- for this text's walks alone
open Go.Proofs.YthclofmcinknlaaDoor
attribute [local go_sem high] My.binOp_gtr_flip
set_option linter.unusedVariables false
set_option linter.unusedSimpArgs false



def errW : Option Int → Value
  | none => .nilIface
  | some c => .iface 0 (.int .i64 c)
theorem errW_none : errW none = .nilIface := rfl
theorem errW_some (c : Int) : errW (some c) = .iface 0 (.int .i64 c) := rfl

theorem info3 : (Tryd.prog.info? 3).map (fun i => (i.zero, i.size, i.bytes)) = some (some (.int .i64 0), 1, 8) := by kernel_rfl
theorem info5 : (Tryd.prog.info? 5).map (fun i => (i.zero, i.size, i.bytes)) = some (some (.int .u8 0), 1, 1) := by kernel_rfl
theorem info9 : (Tryd.prog.info? 9).map (fun i => (i.zero, i.size, i.bytes)) = some (some (.string ⟨#[]⟩), 1, 16) := by kernel_rfl
-- the values' own types

end Go.Proofs.YthclofmcinknlaaDoor.QFnExactInsText
