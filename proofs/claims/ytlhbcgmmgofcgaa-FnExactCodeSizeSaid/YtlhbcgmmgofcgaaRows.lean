/-
  No cell of these rows narrows 'for every input' (looked for: loops, veiled, ifaces, maps, wideKeys, modest, calm, conditions, laid).
  DERIVED. THE GIVEN ROWS OF THIS SEAT. 6 by the template 'for every input the law returns true; each argument reads behind the call as it read before'; 0 by the template 'total and deterministic' (their statements: YtlhbcgmmgofcgaaTotals.lean).
  GIVEN WITH THE SEED: the statements are not yours to turn. If you find one false, say at which input.
  Laid BY PROGRAM, IN A SANDBOX (cutbox-rows.mjs): the forced cells as the released guide's own fill.sh prints them over the translation 2e21a257da43be58… (all of the seat's roots in one cut). By AI agents, Wed Nov 11 2026. No macro, syntax, notation, axiom, sorry.
-/
import Derived.Test.YtlhbcgmmgofcgaaChecked
import GoSem.Claim
import GoSem.ClaimJoined
import GoSem.ClaimMapViews
import Derived.JoinedTies
import Derived.KernelRfl
namespace Go.Proofs.Ytlhbcgmmgofcgaa
/- THE CELL 'sum', in the pinned program and in every row, IS THE sha256 OF THE DUMP (.gsa) THAT YtlhbcgmmgofcgaaProg.lean LOADS. Nothing in Lean hashes anything: it is a label: what it is worth is what the hold of that sum in a sandbox is worth. -/
noncomputable def Try.pinned : Pinned := { name := "ytlhbcgmmgofcgaa", sum := "2e21a257da43be581c49ad336e5df17b2c77ca1a21137c9431d2c5f87348f538", checked := Try.checked }
namespace Rows
def none {H : Type} : Left H := { results := [], args := [] }

/-- 'laws.FnExactProgramOK': WHATEVER THE INPUT: true; the input reads as it did. -/
def fnExactProgramOKSpec : ChangeSpec := { name := "fnExactProgramOK", fn := fun _ => fun
  | [d] => { results := [.lit (.bool true)], args := [d] }
  | _ => none }
def fnExactProgramOKRow : OpenClaim := { program := "ytlhbcgmmgofcgaa", sum := "2e21a257da43be581c49ad336e5df17b2c77ca1a21137c9431d2c5f87348f538", func := "loop.example/g00370/laws.FnExactProgramOK", spec := "fnExactProgramOK", unfollowed := true, recurses := true, apart := false }
def FnExactProgramOKSaid : Prop := fnExactProgramOKRow.holds Try.pinned (OpenSpec.ofChange fnExactProgramOKSpec)

/-- ITS FALSE NEIGHBOUR: 'it returns false'. Refute it at one input. -/
def fnExactProgramOKWrong : ChangeSpec := { name := "fnExactProgramOK", fn := fun _ => fun
  | [d] => { results := [.lit (.bool false)], args := [d] }
  | _ => none }
def FnExactProgramOKWrongFalsely : Prop := fnExactProgramOKRow.holds Try.pinned (OpenSpec.ofChange fnExactProgramOKWrong)

/-- 'laws.FnExactCodeSize': WHATEVER THE INPUT: true; the input reads as it did. -/
def fnExactCodeSizeSpec : ChangeSpec := { name := "fnExactCodeSize", fn := fun _ => fun
  | [d] => { results := [.lit (.bool true)], args := [d] }
  | _ => none }
def fnExactCodeSizeRow : OpenClaim := { program := "ytlhbcgmmgofcgaa", sum := "2e21a257da43be581c49ad336e5df17b2c77ca1a21137c9431d2c5f87348f538", func := "loop.example/g00370/laws.FnExactCodeSize", spec := "fnExactCodeSize", unfollowed := true, recurses := true, apart := false }
def FnExactCodeSizeSaid : Prop := fnExactCodeSizeRow.holds Try.pinned (OpenSpec.ofChange fnExactCodeSizeSpec)

/-- ITS FALSE NEIGHBOUR: 'it returns false'. Refute it at one input. -/
def fnExactCodeSizeWrong : ChangeSpec := { name := "fnExactCodeSize", fn := fun _ => fun
  | [d] => { results := [.lit (.bool false)], args := [d] }
  | _ => none }
def FnExactCodeSizeWrongFalsely : Prop := fnExactCodeSizeRow.holds Try.pinned (OpenSpec.ofChange fnExactCodeSizeWrong)

/-- 'laws.FnExactStackNeed': WHATEVER THE INPUT: true; the input reads as it did. -/
def fnExactStackNeedSpec : ChangeSpec := { name := "fnExactStackNeed", fn := fun _ => fun
  | [d1, d2] => { results := [.lit (.bool true)], args := [d1, d2] }
  | _ => none }
def fnExactStackNeedRow : OpenClaim := { program := "ytlhbcgmmgofcgaa", sum := "2e21a257da43be581c49ad336e5df17b2c77ca1a21137c9431d2c5f87348f538", func := "loop.example/g00370/laws.FnExactStackNeed", spec := "fnExactStackNeed", unfollowed := true, recurses := true, apart := false }
def FnExactStackNeedSaid : Prop := fnExactStackNeedRow.holds Try.pinned (OpenSpec.ofChange fnExactStackNeedSpec)

/-- ITS FALSE NEIGHBOUR: 'it returns false'. Refute it at one input. -/
def fnExactStackNeedWrong : ChangeSpec := { name := "fnExactStackNeed", fn := fun _ => fun
  | [d1, d2] => { results := [.lit (.bool false)], args := [d1, d2] }
  | _ => none }
def FnExactStackNeedWrongFalsely : Prop := fnExactStackNeedRow.holds Try.pinned (OpenSpec.ofChange fnExactStackNeedWrong)

/-- 'laws.FnExactReached': WHATEVER THE INPUT: true; the input reads as it did. -/
def fnExactReachedSpec : ChangeSpec := { name := "fnExactReached", fn := fun _ => fun
  | [d1, d2] => { results := [.lit (.bool true)], args := [d1, d2] }
  | _ => none }
def fnExactReachedRow : OpenClaim := { program := "ytlhbcgmmgofcgaa", sum := "2e21a257da43be581c49ad336e5df17b2c77ca1a21137c9431d2c5f87348f538", func := "loop.example/g00370/laws.FnExactReached", spec := "fnExactReached", unfollowed := true, recurses := true, apart := false }
def FnExactReachedSaid : Prop := fnExactReachedRow.holds Try.pinned (OpenSpec.ofChange fnExactReachedSpec)

/-- ITS FALSE NEIGHBOUR: 'it returns false'. Refute it at one input. -/
def fnExactReachedWrong : ChangeSpec := { name := "fnExactReached", fn := fun _ => fun
  | [d1, d2] => { results := [.lit (.bool false)], args := [d1, d2] }
  | _ => none }
def FnExactReachedWrongFalsely : Prop := fnExactReachedRow.holds Try.pinned (OpenSpec.ofChange fnExactReachedWrong)

/-- 'laws.FnExactTargetsOf': WHATEVER THE INPUT: true; the input reads as it did. -/
def fnExactTargetsOfSpec : ChangeSpec := { name := "fnExactTargetsOf", fn := fun _ => fun
  | [d1, d2] => { results := [.lit (.bool true)], args := [d1, d2] }
  | _ => none }
def fnExactTargetsOfRow : OpenClaim := { program := "ytlhbcgmmgofcgaa", sum := "2e21a257da43be581c49ad336e5df17b2c77ca1a21137c9431d2c5f87348f538", func := "loop.example/g00370/laws.FnExactTargetsOf", spec := "fnExactTargetsOf", unfollowed := true, recurses := true, apart := false }
def FnExactTargetsOfSaid : Prop := fnExactTargetsOfRow.holds Try.pinned (OpenSpec.ofChange fnExactTargetsOfSpec)

/-- ITS FALSE NEIGHBOUR: 'it returns false'. Refute it at one input. -/
def fnExactTargetsOfWrong : ChangeSpec := { name := "fnExactTargetsOf", fn := fun _ => fun
  | [d1, d2] => { results := [.lit (.bool false)], args := [d1, d2] }
  | _ => none }
def FnExactTargetsOfWrongFalsely : Prop := fnExactTargetsOfRow.holds Try.pinned (OpenSpec.ofChange fnExactTargetsOfWrong)

/-- 'laws.FnExactStartMachine': WHATEVER THE INPUT: true; the input reads as it did. -/
def fnExactStartMachineSpec : ChangeSpec := { name := "fnExactStartMachine", fn := fun _ => fun
  | [d1, d2] => { results := [.lit (.bool true)], args := [d1, d2] }
  | _ => none }
def fnExactStartMachineRow : OpenClaim := { program := "ytlhbcgmmgofcgaa", sum := "2e21a257da43be581c49ad336e5df17b2c77ca1a21137c9431d2c5f87348f538", func := "loop.example/g00370/laws.FnExactStartMachine", spec := "fnExactStartMachine", unfollowed := true, recurses := true, apart := false }
def FnExactStartMachineSaid : Prop := fnExactStartMachineRow.holds Try.pinned (OpenSpec.ofChange fnExactStartMachineSpec)

/-- ITS FALSE NEIGHBOUR: 'it returns false'. Refute it at one input. -/
def fnExactStartMachineWrong : ChangeSpec := { name := "fnExactStartMachine", fn := fun _ => fun
  | [d1, d2] => { results := [.lit (.bool false)], args := [d1, d2] }
  | _ => none }
def FnExactStartMachineWrongFalsely : Prop := fnExactStartMachineRow.holds Try.pinned (OpenSpec.ofChange fnExactStartMachineWrong)

/- THE SECOND FORM. 'bulk': how many values and letters a reading holds, each counted each time it is reached (what is shared counts as often as it is met; a slice's spare places count too). A statement '..UptoSaid' is the law's where the arguments, and the package variables that the reading takes, are together of bulk at most 1048576: NARROWER than '..Said'. Prove '..Said' where nothing that the law and all that it calls make is longer than what came in: it says more and counts as full. Else prove '..UptoSaid'. A law counts once. -/
mutual
def uptoBulk {H : Type} : DataW H → Nat
  | .lit (.string bytes) => bytes.length + 1
  | .lit _ => 1
  | .nil => 1
  | .ptr d => uptoBulk d + 1
  | .slice elems spare => uptoBulkAll elems + uptoBulkAll spare + 1
  | .agg parts => uptoBulkAll parts + 1
  | .iface _ d => uptoBulk d + 1
  | .map entries => uptoBulkEntries entries + 1
  | .held _ => 1
def uptoBulkAll {H : Type} : List (DataW H) → Nat
  | [] => 0
  | d :: r => uptoBulk d + uptoBulkAll r
def uptoBulkEntries {H : Type} : List (Lit × DataW H) → Nat
  | [] => 0
  | x :: r => uptoBulkEntry x + uptoBulkEntries r
def uptoBulkEntry {H : Type} : Lit × DataW H → Nat
  | (.string bytes, d) => bytes.length + uptoBulk d + 1
  | (_, d) => uptoBulk d + 1
 end
def uptoSmall : (H : Type) → List (DataW H) → Bool := fun _ ds => decide (uptoBulkAll ds ≤ 1048576)
def OpenSpec.upto (s : _root_.Go.ChangeSpec) : _root_.Go.OpenSpec := { _root_.Go.OpenSpec.ofChange s with cond := some uptoSmall }

/-- 'laws.FnExactProgramOK', WHERE WHAT IT READS IS OF BULK AT MOST 1048576: true; the input reads as it did. -/
def fnExactProgramOKUptoRow : OpenClaim := { program := "ytlhbcgmmgofcgaa", sum := "2e21a257da43be581c49ad336e5df17b2c77ca1a21137c9431d2c5f87348f538", func := "loop.example/g00370/laws.FnExactProgramOK", spec := "fnExactProgramOK", unfollowed := true, recurses := true, apart := false, narrowed := true }
def FnExactProgramOKUptoSaid : Prop := fnExactProgramOKUptoRow.holds Try.pinned (OpenSpec.upto fnExactProgramOKSpec)

/-- 'laws.FnExactCodeSize', WHERE WHAT IT READS IS OF BULK AT MOST 1048576: true; the input reads as it did. -/
def fnExactCodeSizeUptoRow : OpenClaim := { program := "ytlhbcgmmgofcgaa", sum := "2e21a257da43be581c49ad336e5df17b2c77ca1a21137c9431d2c5f87348f538", func := "loop.example/g00370/laws.FnExactCodeSize", spec := "fnExactCodeSize", unfollowed := true, recurses := true, apart := false, narrowed := true }
def FnExactCodeSizeUptoSaid : Prop := fnExactCodeSizeUptoRow.holds Try.pinned (OpenSpec.upto fnExactCodeSizeSpec)

/-- 'laws.FnExactStackNeed', WHERE WHAT IT READS IS OF BULK AT MOST 1048576: true; the input reads as it did. -/
def fnExactStackNeedUptoRow : OpenClaim := { program := "ytlhbcgmmgofcgaa", sum := "2e21a257da43be581c49ad336e5df17b2c77ca1a21137c9431d2c5f87348f538", func := "loop.example/g00370/laws.FnExactStackNeed", spec := "fnExactStackNeed", unfollowed := true, recurses := true, apart := false, narrowed := true }
def FnExactStackNeedUptoSaid : Prop := fnExactStackNeedUptoRow.holds Try.pinned (OpenSpec.upto fnExactStackNeedSpec)

/-- 'laws.FnExactReached', WHERE WHAT IT READS IS OF BULK AT MOST 1048576: true; the input reads as it did. -/
def fnExactReachedUptoRow : OpenClaim := { program := "ytlhbcgmmgofcgaa", sum := "2e21a257da43be581c49ad336e5df17b2c77ca1a21137c9431d2c5f87348f538", func := "loop.example/g00370/laws.FnExactReached", spec := "fnExactReached", unfollowed := true, recurses := true, apart := false, narrowed := true }
def FnExactReachedUptoSaid : Prop := fnExactReachedUptoRow.holds Try.pinned (OpenSpec.upto fnExactReachedSpec)

/-- 'laws.FnExactTargetsOf', WHERE WHAT IT READS IS OF BULK AT MOST 1048576: true; the input reads as it did. -/
def fnExactTargetsOfUptoRow : OpenClaim := { program := "ytlhbcgmmgofcgaa", sum := "2e21a257da43be581c49ad336e5df17b2c77ca1a21137c9431d2c5f87348f538", func := "loop.example/g00370/laws.FnExactTargetsOf", spec := "fnExactTargetsOf", unfollowed := true, recurses := true, apart := false, narrowed := true }
def FnExactTargetsOfUptoSaid : Prop := fnExactTargetsOfUptoRow.holds Try.pinned (OpenSpec.upto fnExactTargetsOfSpec)

/-- 'laws.FnExactStartMachine', WHERE WHAT IT READS IS OF BULK AT MOST 1048576: true; the input reads as it did. -/
def fnExactStartMachineUptoRow : OpenClaim := { program := "ytlhbcgmmgofcgaa", sum := "2e21a257da43be581c49ad336e5df17b2c77ca1a21137c9431d2c5f87348f538", func := "loop.example/g00370/laws.FnExactStartMachine", spec := "fnExactStartMachine", unfollowed := true, recurses := true, apart := false, narrowed := true }
def FnExactStartMachineUptoSaid : Prop := fnExactStartMachineUptoRow.holds Try.pinned (OpenSpec.upto fnExactStartMachineSpec)

end Rows
end Go.Proofs.Ytlhbcgmmgofcgaa
