/-
  No cell of these rows narrows 'for every input' (looked for: loops, veiled, ifaces, maps, wideKeys, modest, calm, conditions, laid).
  DERIVED. THE GIVEN ROWS OF THIS SEAT. 12 by the template 'for every input the law returns true; each argument reads behind the call as it read before'; 0 by the template 'total and deterministic' (their statements: YtmbkhbihgnhoaaaTotals.lean).
  GIVEN WITH THE SEED: the statements are not yours to turn. If you find one false, say at which input.
  Laid BY PROGRAM, IN A SANDBOX (cutbox-rows.mjs): the forced cells as the released guide's own fill.sh prints them over the translation 5b16200f4ba1b003… (all of the seat's roots in one cut). By AI agents, Wed Nov 11 2026. No macro, syntax, notation, axiom, sorry.
-/
import Derived.Test.YtmbkhbihgnhoaaaChecked
import GoSem.Claim
import GoSem.ClaimJoined
import GoSem.ClaimMapViews
import Derived.JoinedTies
import Derived.KernelRfl
namespace Go.Proofs.Ytmbkhbihgnhoaaa
/- THE CELL 'sum', in the pinned program and in every row, IS THE sha256 OF THE DUMP (.gsa) THAT YtmbkhbihgnhoaaaProg.lean LOADS. Nothing in Lean hashes anything: it is a label: what it is worth is what the hold of that sum in a sandbox is worth. -/
noncomputable def Try.pinned : Pinned := { name := "ytmbkhbihgnhoaaa", sum := "5b16200f4ba1b0034ebda66284a4c14a55db32e132c1fbf9879b358a513ccdf5", checked := Try.checked }
namespace Rows
def none {H : Type} : Left H := { results := [], args := [] }

/-- 'laws.FnExactConstants': WHATEVER THE INPUT: true; the input reads as it did. -/
def fnExactConstantsSpec : ChangeSpec := { name := "fnExactConstants", fn := fun _ => fun
  | [] => { results := [.lit (.bool true)], args := [] }
  | _ => none }
def fnExactConstantsRow : OpenClaim := { program := "ytmbkhbihgnhoaaa", sum := "5b16200f4ba1b0034ebda66284a4c14a55db32e132c1fbf9879b358a513ccdf5", func := "loop.example/g00370/laws.FnExactConstants", spec := "fnExactConstants", apart := false }
def FnExactConstantsSaid : Prop := fnExactConstantsRow.holds Try.pinned (OpenSpec.ofChange fnExactConstantsSpec)

/-- ITS FALSE NEIGHBOUR: 'it returns false'. Refute it at one input. -/
def fnExactConstantsWrong : ChangeSpec := { name := "fnExactConstants", fn := fun _ => fun
  | [] => { results := [.lit (.bool false)], args := [] }
  | _ => none }
def FnExactConstantsWrongFalsely : Prop := fnExactConstantsRow.holds Try.pinned (OpenSpec.ofChange fnExactConstantsWrong)

/-- 'laws.FnExactCodeWord': WHATEVER THE INPUT: true; the input reads as it did. -/
def fnExactCodeWordSpec : ChangeSpec := { name := "fnExactCodeWord", fn := fun _ => fun
  | [d] => { results := [.lit (.bool true)], args := [d] }
  | _ => none }
def fnExactCodeWordRow : OpenClaim := { program := "ytmbkhbihgnhoaaa", sum := "5b16200f4ba1b0034ebda66284a4c14a55db32e132c1fbf9879b358a513ccdf5", func := "loop.example/g00370/laws.FnExactCodeWord", spec := "fnExactCodeWord", apart := false }
def FnExactCodeWordSaid : Prop := fnExactCodeWordRow.holds Try.pinned (OpenSpec.ofChange fnExactCodeWordSpec)

/-- ITS FALSE NEIGHBOUR: 'it returns false'. Refute it at one input. -/
def fnExactCodeWordWrong : ChangeSpec := { name := "fnExactCodeWord", fn := fun _ => fun
  | [d] => { results := [.lit (.bool false)], args := [d] }
  | _ => none }
def FnExactCodeWordWrongFalsely : Prop := fnExactCodeWordRow.holds Try.pinned (OpenSpec.ofChange fnExactCodeWordWrong)

/-- 'laws.FnExactCodeOf': WHATEVER THE INPUT: true; the input reads as it did. -/
def fnExactCodeOfSpec : ChangeSpec := { name := "fnExactCodeOf", fn := fun _ => fun
  | [d] => { results := [.lit (.bool true)], args := [d] }
  | _ => none }
def fnExactCodeOfRow : OpenClaim := { program := "ytmbkhbihgnhoaaa", sum := "5b16200f4ba1b0034ebda66284a4c14a55db32e132c1fbf9879b358a513ccdf5", func := "loop.example/g00370/laws.FnExactCodeOf", spec := "fnExactCodeOf", apart := false }
def FnExactCodeOfSaid : Prop := fnExactCodeOfRow.holds Try.pinned (OpenSpec.ofChange fnExactCodeOfSpec)

/-- ITS FALSE NEIGHBOUR: 'it returns false'. Refute it at one input. -/
def fnExactCodeOfWrong : ChangeSpec := { name := "fnExactCodeOf", fn := fun _ => fun
  | [d] => { results := [.lit (.bool false)], args := [d] }
  | _ => none }
def FnExactCodeOfWrongFalsely : Prop := fnExactCodeOfRow.holds Try.pinned (OpenSpec.ofChange fnExactCodeOfWrong)

/-- 'laws.FnExactWordOK': WHATEVER THE INPUT: true; the input reads as it did. -/
def fnExactWordOKSpec : ChangeSpec := { name := "fnExactWordOK", fn := fun _ => fun
  | [d] => { results := [.lit (.bool true)], args := [d] }
  | _ => none }
def fnExactWordOKRow : OpenClaim := { program := "ytmbkhbihgnhoaaa", sum := "5b16200f4ba1b0034ebda66284a4c14a55db32e132c1fbf9879b358a513ccdf5", func := "loop.example/g00370/laws.FnExactWordOK", spec := "fnExactWordOK", apart := false }
def FnExactWordOKSaid : Prop := fnExactWordOKRow.holds Try.pinned (OpenSpec.ofChange fnExactWordOKSpec)

/-- ITS FALSE NEIGHBOUR: 'it returns false'. Refute it at one input. -/
def fnExactWordOKWrong : ChangeSpec := { name := "fnExactWordOK", fn := fun _ => fun
  | [d] => { results := [.lit (.bool false)], args := [d] }
  | _ => none }
def FnExactWordOKWrongFalsely : Prop := fnExactWordOKRow.holds Try.pinned (OpenSpec.ofChange fnExactWordOKWrong)

/-- 'laws.FnExactNameOK': WHATEVER THE INPUT: true; the input reads as it did. -/
def fnExactNameOKSpec : ChangeSpec := { name := "fnExactNameOK", fn := fun _ => fun
  | [d] => { results := [.lit (.bool true)], args := [d] }
  | _ => none }
def fnExactNameOKRow : OpenClaim := { program := "ytmbkhbihgnhoaaa", sum := "5b16200f4ba1b0034ebda66284a4c14a55db32e132c1fbf9879b358a513ccdf5", func := "loop.example/g00370/laws.FnExactNameOK", spec := "fnExactNameOK", apart := false }
def FnExactNameOKSaid : Prop := fnExactNameOKRow.holds Try.pinned (OpenSpec.ofChange fnExactNameOKSpec)

/-- ITS FALSE NEIGHBOUR: 'it returns false'. Refute it at one input. -/
def fnExactNameOKWrong : ChangeSpec := { name := "fnExactNameOK", fn := fun _ => fun
  | [d] => { results := [.lit (.bool false)], args := [d] }
  | _ => none }
def FnExactNameOKWrongFalsely : Prop := fnExactNameOKRow.holds Try.pinned (OpenSpec.ofChange fnExactNameOKWrong)

/-- 'laws.FnExactStatusWord': WHATEVER THE INPUT: true; the input reads as it did. -/
def fnExactStatusWordSpec : ChangeSpec := { name := "fnExactStatusWord", fn := fun _ => fun
  | [d] => { results := [.lit (.bool true)], args := [d] }
  | _ => none }
def fnExactStatusWordRow : OpenClaim := { program := "ytmbkhbihgnhoaaa", sum := "5b16200f4ba1b0034ebda66284a4c14a55db32e132c1fbf9879b358a513ccdf5", func := "loop.example/g00370/laws.FnExactStatusWord", spec := "fnExactStatusWord", apart := false }
def FnExactStatusWordSaid : Prop := fnExactStatusWordRow.holds Try.pinned (OpenSpec.ofChange fnExactStatusWordSpec)

/-- ITS FALSE NEIGHBOUR: 'it returns false'. Refute it at one input. -/
def fnExactStatusWordWrong : ChangeSpec := { name := "fnExactStatusWord", fn := fun _ => fun
  | [d] => { results := [.lit (.bool false)], args := [d] }
  | _ => none }
def FnExactStatusWordWrongFalsely : Prop := fnExactStatusWordRow.holds Try.pinned (OpenSpec.ofChange fnExactStatusWordWrong)

/-- 'laws.FnExactValueOK': WHATEVER THE INPUT: true; the input reads as it did. -/
def fnExactValueOKSpec : ChangeSpec := { name := "fnExactValueOK", fn := fun _ => fun
  | [d] => { results := [.lit (.bool true)], args := [d] }
  | _ => none }
def fnExactValueOKRow : OpenClaim := { program := "ytmbkhbihgnhoaaa", sum := "5b16200f4ba1b0034ebda66284a4c14a55db32e132c1fbf9879b358a513ccdf5", func := "loop.example/g00370/laws.FnExactValueOK", spec := "fnExactValueOK", apart := false }
def FnExactValueOKSaid : Prop := fnExactValueOKRow.holds Try.pinned (OpenSpec.ofChange fnExactValueOKSpec)

/-- ITS FALSE NEIGHBOUR: 'it returns false'. Refute it at one input. -/
def fnExactValueOKWrong : ChangeSpec := { name := "fnExactValueOK", fn := fun _ => fun
  | [d] => { results := [.lit (.bool false)], args := [d] }
  | _ => none }
def FnExactValueOKWrongFalsely : Prop := fnExactValueOKRow.holds Try.pinned (OpenSpec.ofChange fnExactValueOKWrong)

/-- 'laws.FnExactBuiltinCount': WHATEVER THE INPUT: true; the input reads as it did. -/
def fnExactBuiltinCountSpec : ChangeSpec := { name := "fnExactBuiltinCount", fn := fun _ => fun
  | [d] => { results := [.lit (.bool true)], args := [d] }
  | _ => none }
def fnExactBuiltinCountRow : OpenClaim := { program := "ytmbkhbihgnhoaaa", sum := "5b16200f4ba1b0034ebda66284a4c14a55db32e132c1fbf9879b358a513ccdf5", func := "loop.example/g00370/laws.FnExactBuiltinCount", spec := "fnExactBuiltinCount", apart := false }
def FnExactBuiltinCountSaid : Prop := fnExactBuiltinCountRow.holds Try.pinned (OpenSpec.ofChange fnExactBuiltinCountSpec)

/-- ITS FALSE NEIGHBOUR: 'it returns false'. Refute it at one input. -/
def fnExactBuiltinCountWrong : ChangeSpec := { name := "fnExactBuiltinCount", fn := fun _ => fun
  | [d] => { results := [.lit (.bool false)], args := [d] }
  | _ => none }
def FnExactBuiltinCountWrongFalsely : Prop := fnExactBuiltinCountRow.holds Try.pinned (OpenSpec.ofChange fnExactBuiltinCountWrong)

/-- 'laws.FnExactKindWord': WHATEVER THE INPUT: true; the input reads as it did. -/
def fnExactKindWordSpec : ChangeSpec := { name := "fnExactKindWord", fn := fun _ => fun
  | [d] => { results := [.lit (.bool true)], args := [d] }
  | _ => none }
def fnExactKindWordRow : OpenClaim := { program := "ytmbkhbihgnhoaaa", sum := "5b16200f4ba1b0034ebda66284a4c14a55db32e132c1fbf9879b358a513ccdf5", func := "loop.example/g00370/laws.FnExactKindWord", spec := "fnExactKindWord", apart := false }
def FnExactKindWordSaid : Prop := fnExactKindWordRow.holds Try.pinned (OpenSpec.ofChange fnExactKindWordSpec)

/-- ITS FALSE NEIGHBOUR: 'it returns false'. Refute it at one input. -/
def fnExactKindWordWrong : ChangeSpec := { name := "fnExactKindWord", fn := fun _ => fun
  | [d] => { results := [.lit (.bool false)], args := [d] }
  | _ => none }
def FnExactKindWordWrongFalsely : Prop := fnExactKindWordRow.holds Try.pinned (OpenSpec.ofChange fnExactKindWordWrong)

/-- 'laws.FnExactTruth': WHATEVER THE INPUT: true; the input reads as it did. -/
def fnExactTruthSpec : ChangeSpec := { name := "fnExactTruth", fn := fun _ => fun
  | [d] => { results := [.lit (.bool true)], args := [d] }
  | _ => none }
def fnExactTruthRow : OpenClaim := { program := "ytmbkhbihgnhoaaa", sum := "5b16200f4ba1b0034ebda66284a4c14a55db32e132c1fbf9879b358a513ccdf5", func := "loop.example/g00370/laws.FnExactTruth", spec := "fnExactTruth", apart := false }
def FnExactTruthSaid : Prop := fnExactTruthRow.holds Try.pinned (OpenSpec.ofChange fnExactTruthSpec)

/-- ITS FALSE NEIGHBOUR: 'it returns false'. Refute it at one input. -/
def fnExactTruthWrong : ChangeSpec := { name := "fnExactTruth", fn := fun _ => fun
  | [d] => { results := [.lit (.bool false)], args := [d] }
  | _ => none }
def FnExactTruthWrongFalsely : Prop := fnExactTruthRow.holds Try.pinned (OpenSpec.ofChange fnExactTruthWrong)

/-- 'laws.FnExactQuoteText': WHATEVER THE INPUT: true; the input reads as it did. -/
def fnExactQuoteTextSpec : ChangeSpec := { name := "fnExactQuoteText", fn := fun _ => fun
  | [d] => { results := [.lit (.bool true)], args := [d] }
  | _ => none }
def fnExactQuoteTextRow : OpenClaim := { program := "ytmbkhbihgnhoaaa", sum := "5b16200f4ba1b0034ebda66284a4c14a55db32e132c1fbf9879b358a513ccdf5", func := "loop.example/g00370/laws.FnExactQuoteText", spec := "fnExactQuoteText", unfollowed := true, recurses := true, apart := false }
def FnExactQuoteTextSaid : Prop := fnExactQuoteTextRow.holds Try.pinned (OpenSpec.ofChange fnExactQuoteTextSpec)

/-- ITS FALSE NEIGHBOUR: 'it returns false'. Refute it at one input. -/
def fnExactQuoteTextWrong : ChangeSpec := { name := "fnExactQuoteText", fn := fun _ => fun
  | [d] => { results := [.lit (.bool false)], args := [d] }
  | _ => none }
def FnExactQuoteTextWrongFalsely : Prop := fnExactQuoteTextRow.holds Try.pinned (OpenSpec.ofChange fnExactQuoteTextWrong)

/-- 'laws.FnExactRequestText': WHATEVER THE INPUT: true; the input reads as it did. -/
def fnExactRequestTextSpec : ChangeSpec := { name := "fnExactRequestText", fn := fun _ => fun
  | [d] => { results := [.lit (.bool true)], args := [d] }
  | _ => none }
def fnExactRequestTextRow : OpenClaim := { program := "ytmbkhbihgnhoaaa", sum := "5b16200f4ba1b0034ebda66284a4c14a55db32e132c1fbf9879b358a513ccdf5", func := "loop.example/g00370/laws.FnExactRequestText", spec := "fnExactRequestText", unfollowed := true, recurses := true, apart := false }
def FnExactRequestTextSaid : Prop := fnExactRequestTextRow.holds Try.pinned (OpenSpec.ofChange fnExactRequestTextSpec)

/-- ITS FALSE NEIGHBOUR: 'it returns false'. Refute it at one input. -/
def fnExactRequestTextWrong : ChangeSpec := { name := "fnExactRequestText", fn := fun _ => fun
  | [d] => { results := [.lit (.bool false)], args := [d] }
  | _ => none }
def FnExactRequestTextWrongFalsely : Prop := fnExactRequestTextRow.holds Try.pinned (OpenSpec.ofChange fnExactRequestTextWrong)

/- THE SECOND FORM. 'bulk': how many values and letters a reading holds, each counted each time it is reached (what is shared counts as often as it is met; a slice's spare places count too). A statement '..UptoSaid' is the law's where the arguments, and the package variables that the reading takes, are together of bulk at most 1048576: NARROWER than '..Said'. Prove '..Said' where nothing that the law and all that it calls make is longer than what came in: it says more and counts as full. Else prove '..UptoSaid'. A law counts once. -/
mutual
def uptoBulk {H : Type} : DataW H → Nat
  | .lit (.string bytes) => bytes.length + 1
  | .lit _ => 1
  | .nil => 1
  | .ptr d => uptoBulk d + 1
  | .slice elems spare => uptoBulkAll elems + uptoBulkAll spare + 1
  | .agg parts => uptoBulkAll parts + 1
  | .iface _ d => uptoBulk d + 1
  | .map entries => uptoBulkEntries entries + 1
  | .held _ => 1
def uptoBulkAll {H : Type} : List (DataW H) → Nat
  | [] => 0
  | d :: r => uptoBulk d + uptoBulkAll r
def uptoBulkEntries {H : Type} : List (Lit × DataW H) → Nat
  | [] => 0
  | x :: r => uptoBulkEntry x + uptoBulkEntries r
def uptoBulkEntry {H : Type} : Lit × DataW H → Nat
  | (.string bytes, d) => bytes.length + uptoBulk d + 1
  | (_, d) => uptoBulk d + 1
 end
def uptoSmall : (H : Type) → List (DataW H) → Bool := fun _ ds => decide (uptoBulkAll ds ≤ 1048576)
def OpenSpec.upto (s : _root_.Go.ChangeSpec) : _root_.Go.OpenSpec := { _root_.Go.OpenSpec.ofChange s with cond := some uptoSmall }

/-- 'laws.FnExactConstants', WHERE WHAT IT READS IS OF BULK AT MOST 1048576: true; the input reads as it did. -/
def fnExactConstantsUptoRow : OpenClaim := { program := "ytmbkhbihgnhoaaa", sum := "5b16200f4ba1b0034ebda66284a4c14a55db32e132c1fbf9879b358a513ccdf5", func := "loop.example/g00370/laws.FnExactConstants", spec := "fnExactConstants", apart := false, narrowed := true }
def FnExactConstantsUptoSaid : Prop := fnExactConstantsUptoRow.holds Try.pinned (OpenSpec.upto fnExactConstantsSpec)

/-- 'laws.FnExactCodeWord', WHERE WHAT IT READS IS OF BULK AT MOST 1048576: true; the input reads as it did. -/
def fnExactCodeWordUptoRow : OpenClaim := { program := "ytmbkhbihgnhoaaa", sum := "5b16200f4ba1b0034ebda66284a4c14a55db32e132c1fbf9879b358a513ccdf5", func := "loop.example/g00370/laws.FnExactCodeWord", spec := "fnExactCodeWord", apart := false, narrowed := true }
def FnExactCodeWordUptoSaid : Prop := fnExactCodeWordUptoRow.holds Try.pinned (OpenSpec.upto fnExactCodeWordSpec)

/-- 'laws.FnExactCodeOf', WHERE WHAT IT READS IS OF BULK AT MOST 1048576: true; the input reads as it did. -/
def fnExactCodeOfUptoRow : OpenClaim := { program := "ytmbkhbihgnhoaaa", sum := "5b16200f4ba1b0034ebda66284a4c14a55db32e132c1fbf9879b358a513ccdf5", func := "loop.example/g00370/laws.FnExactCodeOf", spec := "fnExactCodeOf", apart := false, narrowed := true }
def FnExactCodeOfUptoSaid : Prop := fnExactCodeOfUptoRow.holds Try.pinned (OpenSpec.upto fnExactCodeOfSpec)

/-- 'laws.FnExactWordOK', WHERE WHAT IT READS IS OF BULK AT MOST 1048576: true; the input reads as it did. -/
def fnExactWordOKUptoRow : OpenClaim := { program := "ytmbkhbihgnhoaaa", sum := "5b16200f4ba1b0034ebda66284a4c14a55db32e132c1fbf9879b358a513ccdf5", func := "loop.example/g00370/laws.FnExactWordOK", spec := "fnExactWordOK", apart := false, narrowed := true }
def FnExactWordOKUptoSaid : Prop := fnExactWordOKUptoRow.holds Try.pinned (OpenSpec.upto fnExactWordOKSpec)

/-- 'laws.FnExactNameOK', WHERE WHAT IT READS IS OF BULK AT MOST 1048576: true; the input reads as it did. -/
def fnExactNameOKUptoRow : OpenClaim := { program := "ytmbkhbihgnhoaaa", sum := "5b16200f4ba1b0034ebda66284a4c14a55db32e132c1fbf9879b358a513ccdf5", func := "loop.example/g00370/laws.FnExactNameOK", spec := "fnExactNameOK", apart := false, narrowed := true }
def FnExactNameOKUptoSaid : Prop := fnExactNameOKUptoRow.holds Try.pinned (OpenSpec.upto fnExactNameOKSpec)

/-- 'laws.FnExactStatusWord', WHERE WHAT IT READS IS OF BULK AT MOST 1048576: true; the input reads as it did. -/
def fnExactStatusWordUptoRow : OpenClaim := { program := "ytmbkhbihgnhoaaa", sum := "5b16200f4ba1b0034ebda66284a4c14a55db32e132c1fbf9879b358a513ccdf5", func := "loop.example/g00370/laws.FnExactStatusWord", spec := "fnExactStatusWord", apart := false, narrowed := true }
def FnExactStatusWordUptoSaid : Prop := fnExactStatusWordUptoRow.holds Try.pinned (OpenSpec.upto fnExactStatusWordSpec)

/-- 'laws.FnExactValueOK', WHERE WHAT IT READS IS OF BULK AT MOST 1048576: true; the input reads as it did. -/
def fnExactValueOKUptoRow : OpenClaim := { program := "ytmbkhbihgnhoaaa", sum := "5b16200f4ba1b0034ebda66284a4c14a55db32e132c1fbf9879b358a513ccdf5", func := "loop.example/g00370/laws.FnExactValueOK", spec := "fnExactValueOK", apart := false, narrowed := true }
def FnExactValueOKUptoSaid : Prop := fnExactValueOKUptoRow.holds Try.pinned (OpenSpec.upto fnExactValueOKSpec)

/-- 'laws.FnExactBuiltinCount', WHERE WHAT IT READS IS OF BULK AT MOST 1048576: true; the input reads as it did. -/
def fnExactBuiltinCountUptoRow : OpenClaim := { program := "ytmbkhbihgnhoaaa", sum := "5b16200f4ba1b0034ebda66284a4c14a55db32e132c1fbf9879b358a513ccdf5", func := "loop.example/g00370/laws.FnExactBuiltinCount", spec := "fnExactBuiltinCount", apart := false, narrowed := true }
def FnExactBuiltinCountUptoSaid : Prop := fnExactBuiltinCountUptoRow.holds Try.pinned (OpenSpec.upto fnExactBuiltinCountSpec)

/-- 'laws.FnExactKindWord', WHERE WHAT IT READS IS OF BULK AT MOST 1048576: true; the input reads as it did. -/
def fnExactKindWordUptoRow : OpenClaim := { program := "ytmbkhbihgnhoaaa", sum := "5b16200f4ba1b0034ebda66284a4c14a55db32e132c1fbf9879b358a513ccdf5", func := "loop.example/g00370/laws.FnExactKindWord", spec := "fnExactKindWord", apart := false, narrowed := true }
def FnExactKindWordUptoSaid : Prop := fnExactKindWordUptoRow.holds Try.pinned (OpenSpec.upto fnExactKindWordSpec)

/-- 'laws.FnExactTruth', WHERE WHAT IT READS IS OF BULK AT MOST 1048576: true; the input reads as it did. -/
def fnExactTruthUptoRow : OpenClaim := { program := "ytmbkhbihgnhoaaa", sum := "5b16200f4ba1b0034ebda66284a4c14a55db32e132c1fbf9879b358a513ccdf5", func := "loop.example/g00370/laws.FnExactTruth", spec := "fnExactTruth", apart := false, narrowed := true }
def FnExactTruthUptoSaid : Prop := fnExactTruthUptoRow.holds Try.pinned (OpenSpec.upto fnExactTruthSpec)

/-- 'laws.FnExactQuoteText', WHERE WHAT IT READS IS OF BULK AT MOST 1048576: true; the input reads as it did. -/
def fnExactQuoteTextUptoRow : OpenClaim := { program := "ytmbkhbihgnhoaaa", sum := "5b16200f4ba1b0034ebda66284a4c14a55db32e132c1fbf9879b358a513ccdf5", func := "loop.example/g00370/laws.FnExactQuoteText", spec := "fnExactQuoteText", unfollowed := true, recurses := true, apart := false, narrowed := true }
def FnExactQuoteTextUptoSaid : Prop := fnExactQuoteTextUptoRow.holds Try.pinned (OpenSpec.upto fnExactQuoteTextSpec)

/-- 'laws.FnExactRequestText', WHERE WHAT IT READS IS OF BULK AT MOST 1048576: true; the input reads as it did. -/
def fnExactRequestTextUptoRow : OpenClaim := { program := "ytmbkhbihgnhoaaa", sum := "5b16200f4ba1b0034ebda66284a4c14a55db32e132c1fbf9879b358a513ccdf5", func := "loop.example/g00370/laws.FnExactRequestText", spec := "fnExactRequestText", unfollowed := true, recurses := true, apart := false, narrowed := true }
def FnExactRequestTextUptoSaid : Prop := fnExactRequestTextUptoRow.holds Try.pinned (OpenSpec.upto fnExactRequestTextSpec)

end Rows
end Go.Proofs.Ytmbkhbihgnhoaaa
