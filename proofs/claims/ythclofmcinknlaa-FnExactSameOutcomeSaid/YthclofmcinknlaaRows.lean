/-
  No cell of these rows narrows 'for every input' (looked for: loops, veiled, ifaces, maps, wideKeys, modest, calm, conditions, laid).
  DERIVED. THE GIVEN ROWS OF THIS SEAT. 4 by the template 'for every input the law returns true; each argument reads behind the call as it read before'; 0 by the template 'total and deterministic' (their statements: YthclofmcinknlaaTotals.lean).
  GIVEN WITH THE SEED: the statements are not yours to turn. If you find one false, say at which input.
  Laid BY PROGRAM, IN A SANDBOX (cutbox-rows.mjs): the forced cells as the released guide's own fill.sh prints them over the translation 0c87800e34d03c7a… (all of the seat's roots in one cut). By AI agents, Wed Nov 11 2026. No macro, syntax, notation, axiom, sorry.
-/
import Derived.Test.YthclofmcinknlaaChecked
import GoSem.Claim
import GoSem.ClaimJoined
import GoSem.ClaimMapViews
import Derived.JoinedTies
import Derived.KernelRfl
namespace Go.Proofs.Ythclofmcinknlaa
/- THE CELL 'sum', in the pinned program and in every row, IS THE sha256 OF THE DUMP (.gsa) THAT YthclofmcinknlaaProg.lean LOADS. Nothing in Lean hashes anything: it is a label: what it is worth is what the hold of that sum in a sandbox is worth. -/
noncomputable def Try.pinned : Pinned := { name := "ythclofmcinknlaa", sum := "0c87800e34d03c7aaf7c735b8db726ab4dbb109c7f26a03b0c4434b2ed6a311e", checked := Try.checked }
namespace Rows
def none {H : Type} : Left H := { results := [], args := [] }

/-- 'laws.FnExactOrderValues': WHATEVER THE INPUT: true; the input reads as it did. -/
def fnExactOrderValuesSpec : ChangeSpec := { name := "fnExactOrderValues", fn := fun _ => fun
  | [d1, d2] => { results := [.lit (.bool true)], args := [d1, d2] }
  | _ => none }
def fnExactOrderValuesRow : OpenClaim := { program := "ythclofmcinknlaa", sum := "0c87800e34d03c7aaf7c735b8db726ab4dbb109c7f26a03b0c4434b2ed6a311e", func := "loop.example/g00370/laws.FnExactOrderValues", spec := "fnExactOrderValues", apart := false }
def FnExactOrderValuesSaid : Prop := fnExactOrderValuesRow.holds Try.pinned (OpenSpec.ofChange fnExactOrderValuesSpec)

/-- ITS FALSE NEIGHBOUR: 'it returns false'. Refute it at one input. -/
def fnExactOrderValuesWrong : ChangeSpec := { name := "fnExactOrderValues", fn := fun _ => fun
  | [d1, d2] => { results := [.lit (.bool false)], args := [d1, d2] }
  | _ => none }
def FnExactOrderValuesWrongFalsely : Prop := fnExactOrderValuesRow.holds Try.pinned (OpenSpec.ofChange fnExactOrderValuesWrong)

/-- 'laws.FnExactSplitPath': WHATEVER THE INPUT: true; the input reads as it did. -/
def fnExactSplitPathSpec : ChangeSpec := { name := "fnExactSplitPath", fn := fun _ => fun
  | [d] => { results := [.lit (.bool true)], args := [d] }
  | _ => none }
def fnExactSplitPathRow : OpenClaim := { program := "ythclofmcinknlaa", sum := "0c87800e34d03c7aaf7c735b8db726ab4dbb109c7f26a03b0c4434b2ed6a311e", func := "loop.example/g00370/laws.FnExactSplitPath", spec := "fnExactSplitPath", inPlace := ["internal/bytealg.IndexByteString", "internal/bytealg.IndexString"], unfollowed := true, recurses := true, named := ["internal/bytealg.MaxLen"], apart := false }
def FnExactSplitPathSaid : Prop := fnExactSplitPathRow.holds Try.pinned (OpenSpec.ofChange fnExactSplitPathSpec)

/-- ITS FALSE NEIGHBOUR: 'it returns false'. Refute it at one input. -/
def fnExactSplitPathWrong : ChangeSpec := { name := "fnExactSplitPath", fn := fun _ => fun
  | [d] => { results := [.lit (.bool false)], args := [d] }
  | _ => none }
def FnExactSplitPathWrongFalsely : Prop := fnExactSplitPathRow.holds Try.pinned (OpenSpec.ofChange fnExactSplitPathWrong)

/-- 'laws.FnExactBinary': WHATEVER THE INPUT: true; the input reads as it did. -/
def fnExactBinarySpec : ChangeSpec := { name := "fnExactBinary", fn := fun _ => fun
  | [d1, d2, d3] => { results := [.lit (.bool true)], args := [d1, d2, d3] }
  | _ => none }
def fnExactBinaryRow : OpenClaim := { program := "ythclofmcinknlaa", sum := "0c87800e34d03c7aaf7c735b8db726ab4dbb109c7f26a03b0c4434b2ed6a311e", func := "loop.example/g00370/laws.FnExactBinary", spec := "fnExactBinary", apart := false }
def FnExactBinarySaid : Prop := fnExactBinaryRow.holds Try.pinned (OpenSpec.ofChange fnExactBinarySpec)

/-- ITS FALSE NEIGHBOUR: 'it returns false'. Refute it at one input. -/
def fnExactBinaryWrong : ChangeSpec := { name := "fnExactBinary", fn := fun _ => fun
  | [d1, d2, d3] => { results := [.lit (.bool false)], args := [d1, d2, d3] }
  | _ => none }
def FnExactBinaryWrongFalsely : Prop := fnExactBinaryRow.holds Try.pinned (OpenSpec.ofChange fnExactBinaryWrong)

/-- 'laws.FnExactSameOutcome': WHATEVER THE INPUT: true; the input reads as it did. -/
def fnExactSameOutcomeSpec : ChangeSpec := { name := "fnExactSameOutcome", fn := fun _ => fun
  | [d1, d2] => { results := [.lit (.bool true)], args := [d1, d2] }
  | _ => none }
def fnExactSameOutcomeRow : OpenClaim := { program := "ythclofmcinknlaa", sum := "0c87800e34d03c7aaf7c735b8db726ab4dbb109c7f26a03b0c4434b2ed6a311e", func := "loop.example/g00370/laws.FnExactSameOutcome", spec := "fnExactSameOutcome", apart := false }
def FnExactSameOutcomeSaid : Prop := fnExactSameOutcomeRow.holds Try.pinned (OpenSpec.ofChange fnExactSameOutcomeSpec)

/-- ITS FALSE NEIGHBOUR: 'it returns false'. Refute it at one input. -/
def fnExactSameOutcomeWrong : ChangeSpec := { name := "fnExactSameOutcome", fn := fun _ => fun
  | [d1, d2] => { results := [.lit (.bool false)], args := [d1, d2] }
  | _ => none }
def FnExactSameOutcomeWrongFalsely : Prop := fnExactSameOutcomeRow.holds Try.pinned (OpenSpec.ofChange fnExactSameOutcomeWrong)

/- THE SECOND FORM. 'bulk': how many values and letters a reading holds, each counted each time it is reached (what is shared counts as often as it is met; a slice's spare places count too). A statement '..UptoSaid' is the law's where the arguments, and the package variables that the reading takes, are together of bulk at most 1048576: NARROWER than '..Said'. Prove '..Said' where nothing that the law and all that it calls make is longer than what came in: it says more and counts as full. Else prove '..UptoSaid'. A law counts once. -/
mutual
def uptoBulk {H : Type} : DataW H → Nat
  | .lit (.string bytes) => bytes.length + 1
  | .lit _ => 1
  | .nil => 1
  | .ptr d => uptoBulk d + 1
  | .slice elems spare => uptoBulkAll elems + uptoBulkAll spare + 1
  | .agg parts => uptoBulkAll parts + 1
  | .iface _ d => uptoBulk d + 1
  | .map entries => uptoBulkEntries entries + 1
  | .held _ => 1
def uptoBulkAll {H : Type} : List (DataW H) → Nat
  | [] => 0
  | d :: r => uptoBulk d + uptoBulkAll r
def uptoBulkEntries {H : Type} : List (Lit × DataW H) → Nat
  | [] => 0
  | x :: r => uptoBulkEntry x + uptoBulkEntries r
def uptoBulkEntry {H : Type} : Lit × DataW H → Nat
  | (.string bytes, d) => bytes.length + uptoBulk d + 1
  | (_, d) => uptoBulk d + 1
 end
def uptoSmall : (H : Type) → List (DataW H) → Bool := fun _ ds => decide (uptoBulkAll ds ≤ 1048576)
def OpenSpec.upto (s : _root_.Go.ChangeSpec) : _root_.Go.OpenSpec := { _root_.Go.OpenSpec.ofChange s with cond := some uptoSmall }

/-- 'laws.FnExactOrderValues', WHERE WHAT IT READS IS OF BULK AT MOST 1048576: true; the input reads as it did. -/
def fnExactOrderValuesUptoRow : OpenClaim := { program := "ythclofmcinknlaa", sum := "0c87800e34d03c7aaf7c735b8db726ab4dbb109c7f26a03b0c4434b2ed6a311e", func := "loop.example/g00370/laws.FnExactOrderValues", spec := "fnExactOrderValues", apart := false, narrowed := true }
def FnExactOrderValuesUptoSaid : Prop := fnExactOrderValuesUptoRow.holds Try.pinned (OpenSpec.upto fnExactOrderValuesSpec)

/-- 'laws.FnExactSplitPath', WHERE WHAT IT READS IS OF BULK AT MOST 1048576: true; the input reads as it did. -/
def fnExactSplitPathUptoRow : OpenClaim := { program := "ythclofmcinknlaa", sum := "0c87800e34d03c7aaf7c735b8db726ab4dbb109c7f26a03b0c4434b2ed6a311e", func := "loop.example/g00370/laws.FnExactSplitPath", spec := "fnExactSplitPath", inPlace := ["internal/bytealg.IndexByteString", "internal/bytealg.IndexString"], unfollowed := true, recurses := true, named := ["internal/bytealg.MaxLen"], apart := false, narrowed := true }
def FnExactSplitPathUptoSaid : Prop := fnExactSplitPathUptoRow.holds Try.pinned (OpenSpec.upto fnExactSplitPathSpec)

/-- 'laws.FnExactBinary', WHERE WHAT IT READS IS OF BULK AT MOST 1048576: true; the input reads as it did. -/
def fnExactBinaryUptoRow : OpenClaim := { program := "ythclofmcinknlaa", sum := "0c87800e34d03c7aaf7c735b8db726ab4dbb109c7f26a03b0c4434b2ed6a311e", func := "loop.example/g00370/laws.FnExactBinary", spec := "fnExactBinary", apart := false, narrowed := true }
def FnExactBinaryUptoSaid : Prop := fnExactBinaryUptoRow.holds Try.pinned (OpenSpec.upto fnExactBinarySpec)

/-- 'laws.FnExactSameOutcome', WHERE WHAT IT READS IS OF BULK AT MOST 1048576: true; the input reads as it did. -/
def fnExactSameOutcomeUptoRow : OpenClaim := { program := "ythclofmcinknlaa", sum := "0c87800e34d03c7aaf7c735b8db726ab4dbb109c7f26a03b0c4434b2ed6a311e", func := "loop.example/g00370/laws.FnExactSameOutcome", spec := "fnExactSameOutcome", apart := false, narrowed := true }
def FnExactSameOutcomeUptoSaid : Prop := fnExactSameOutcomeUptoRow.holds Try.pinned (OpenSpec.upto fnExactSameOutcomeSpec)

end Rows
end Go.Proofs.Ythclofmcinknlaa
