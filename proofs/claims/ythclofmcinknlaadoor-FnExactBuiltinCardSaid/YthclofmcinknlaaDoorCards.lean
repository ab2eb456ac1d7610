/-
  DERIVED. GIVEN WITH THE SEED: THE CARDS: each row of YthclofmcinknlaaDoorRows.lean that lists a variable, with what it lists TIED to the program's text (the seventh form; the later family's looks); each row that meets fmt, with fmt's text TOLD by the authors' own Lean function (tested against real Go, not proved from fmt's source: count such statements apart). THE CARD IS WHAT COUNTS. Prove the row's statement (the work); the ties are given (YthclofmcinknlaaDoorTie.lean); close each card by the builder's one call (the guide's Derived/Test/ToyasCard.lean, 'card_holds'). Laid BY PROGRAM, IN A SANDBOX (cutbox-door.mjs). By AI agents, Wed Nov 11 2026. No macro, syntax, notation, axiom, sorry.
-/
import Derived.Test.YthclofmcinknlaaDoorRows
import GoSem.ClaimSeven
namespace Go.Proofs.YthclofmcinknlaaDoor
namespace Rows

/-- THE TIED CARD OF 'laws.FnExactReplyText'. -/
def fnExactReplyTextCard : Claim7 := { stood := { row := fnExactReplyTextRow, standIns := [], harness := (true, "0fa22ca17d27c642d2075e55e639b1895335c5f325abe8c08d4fd7e6c7050fb3"), looks := false }, kinds := [], alts := [], laidByText := true, laidKinds := [.data, .data, .data], laidTests := true, laidLooks := .later }
def FnExactReplyTextCardSaid : Prop := Claim7.holds Tryd.pinned (.plain (OpenSpec.ofChange fnExactReplyTextSpec)) fnExactReplyTextCard

/-- THE TIED CARD OF 'laws.FnExactValueText'. -/
def fnExactValueTextCard : Claim7 := { stood := { row := fnExactValueTextRow, standIns := [], harness := (true, "0fa22ca17d27c642d2075e55e639b1895335c5f325abe8c08d4fd7e6c7050fb3"), looks := false }, kinds := [], alts := [], laidByText := true, laidKinds := [.data, .data, .data], laidTests := true, laidLooks := .later }
def FnExactValueTextCardSaid : Prop := Claim7.holds Tryd.pinned (.plain (OpenSpec.ofChange fnExactValueTextSpec)) fnExactValueTextCard

/-- THE TIED CARD OF 'laws.FnDivide'. -/
def fnDivideCard : Claim7 := { stood := { row := fnDivideRow, standIns := [], harness := (true, "0fa22ca17d27c642d2075e55e639b1895335c5f325abe8c08d4fd7e6c7050fb3"), looks := false }, kinds := [], alts := [], laidByText := true, laidKinds := [.data, .data, .data], laidTests := true, laidLooks := .later }
def FnDivideCardSaid : Prop := Claim7.holds Tryd.pinned (.plain (OpenSpec.ofChange fnDivideSpec)) fnDivideCard

/-- THE TIED CARD OF 'laws.FnExactInsText'. -/
def fnExactInsTextCard : Claim7 := { stood := { row := fnExactInsTextRow, standIns := [], harness := (true, "0fa22ca17d27c642d2075e55e639b1895335c5f325abe8c08d4fd7e6c7050fb3"), looks := false }, kinds := [], alts := [], laidByText := true, laidKinds := [.data, .data, .data], laidTests := true, laidLooks := .later }
def FnExactInsTextCardSaid : Prop := Claim7.holds Tryd.pinned (.plain (OpenSpec.ofChange fnExactInsTextSpec)) fnExactInsTextCard

/-- THE TIED CARD OF 'laws.FnBounds'. -/
def fnBoundsCard : Claim7 := { stood := { row := fnBoundsRow, standIns := [], harness := (true, "0fa22ca17d27c642d2075e55e639b1895335c5f325abe8c08d4fd7e6c7050fb3"), looks := false }, kinds := [], alts := [], laidByText := true, laidKinds := [.data, .data, .data], laidTests := true, laidLooks := .later }
def FnBoundsCardSaid : Prop := Claim7.holds Tryd.pinned (.plain (OpenSpec.ofChange fnBoundsSpec)) fnBoundsCard

/-- THE TIED CARD OF 'laws.FnExactBuiltin'. -/
def fnExactBuiltinCard : Claim7 := { stood := { row := fnExactBuiltinRow, standIns := [], harness := (true, "0fa22ca17d27c642d2075e55e639b1895335c5f325abe8c08d4fd7e6c7050fb3"), looks := false }, kinds := [], alts := [], laidByText := true, laidKinds := [.data, .data, .data], laidTests := true, laidLooks := .later }
def FnExactBuiltinCardSaid : Prop := Claim7.holds Tryd.pinned (.plain (OpenSpec.ofChange fnExactBuiltinSpec)) fnExactBuiltinCard

/-- THE TIED CARD OF 'laws.FnExactOutcomeText'. -/
def fnExactOutcomeTextCard : Claim7 := { stood := { row := fnExactOutcomeTextRow, standIns := [], harness := (true, "0fa22ca17d27c642d2075e55e639b1895335c5f325abe8c08d4fd7e6c7050fb3"), looks := false }, kinds := [], alts := [], laidByText := true, laidKinds := [.data, .data, .data], laidTests := true, laidLooks := .later }
def FnExactOutcomeTextCardSaid : Prop := Claim7.holds Tryd.pinned (.plain (OpenSpec.ofChange fnExactOutcomeTextSpec)) fnExactOutcomeTextCard

/-- THE TIED CARD OF 'laws.FnExactJobReply'. -/
def fnExactJobReplyCard : Claim7 := { stood := { row := fnExactJobReplyRow, standIns := [], harness := (true, "0fa22ca17d27c642d2075e55e639b1895335c5f325abe8c08d4fd7e6c7050fb3"), looks := false }, kinds := [], alts := [], laidByText := true, laidKinds := [.data, .data, .data], laidTests := true, laidLooks := .later }
def FnExactJobReplyCardSaid : Prop := Claim7.holds Tryd.pinned (.plain (OpenSpec.ofChange fnExactJobReplySpec)) fnExactJobReplyCard

/-- THE SECOND FORM's CARD OF 'laws.FnExactReplyText'. -/
def fnExactReplyTextUptoCard : Claim7 := { stood := { row := fnExactReplyTextUptoRow, standIns := [], harness := (true, "0fa22ca17d27c642d2075e55e639b1895335c5f325abe8c08d4fd7e6c7050fb3"), looks := false }, kinds := [], alts := [], laidByText := true, laidKinds := [.data, .data, .data], laidTests := true, laidLooks := .later }
def FnExactReplyTextUptoCardSaid : Prop := Claim7.holds Tryd.pinned (.plain (OpenSpec.upto fnExactReplyTextSpec)) fnExactReplyTextUptoCard

/-- THE SECOND FORM's CARD OF 'laws.FnExactValueText'. -/
def fnExactValueTextUptoCard : Claim7 := { stood := { row := fnExactValueTextUptoRow, standIns := [], harness := (true, "0fa22ca17d27c642d2075e55e639b1895335c5f325abe8c08d4fd7e6c7050fb3"), looks := false }, kinds := [], alts := [], laidByText := true, laidKinds := [.data, .data, .data], laidTests := true, laidLooks := .later }
def FnExactValueTextUptoCardSaid : Prop := Claim7.holds Tryd.pinned (.plain (OpenSpec.upto fnExactValueTextSpec)) fnExactValueTextUptoCard

/-- THE SECOND FORM's CARD OF 'laws.FnDivide'. -/
def fnDivideUptoCard : Claim7 := { stood := { row := fnDivideUptoRow, standIns := [], harness := (true, "0fa22ca17d27c642d2075e55e639b1895335c5f325abe8c08d4fd7e6c7050fb3"), looks := false }, kinds := [], alts := [], laidByText := true, laidKinds := [.data, .data, .data], laidTests := true, laidLooks := .later }
def FnDivideUptoCardSaid : Prop := Claim7.holds Tryd.pinned (.plain (OpenSpec.upto fnDivideSpec)) fnDivideUptoCard

/-- THE SECOND FORM's CARD OF 'laws.FnExactInsText'. -/
def fnExactInsTextUptoCard : Claim7 := { stood := { row := fnExactInsTextUptoRow, standIns := [], harness := (true, "0fa22ca17d27c642d2075e55e639b1895335c5f325abe8c08d4fd7e6c7050fb3"), looks := false }, kinds := [], alts := [], laidByText := true, laidKinds := [.data, .data, .data], laidTests := true, laidLooks := .later }
def FnExactInsTextUptoCardSaid : Prop := Claim7.holds Tryd.pinned (.plain (OpenSpec.upto fnExactInsTextSpec)) fnExactInsTextUptoCard

/-- THE SECOND FORM's CARD OF 'laws.FnBounds'. -/
def fnBoundsUptoCard : Claim7 := { stood := { row := fnBoundsUptoRow, standIns := [], harness := (true, "0fa22ca17d27c642d2075e55e639b1895335c5f325abe8c08d4fd7e6c7050fb3"), looks := false }, kinds := [], alts := [], laidByText := true, laidKinds := [.data, .data, .data], laidTests := true, laidLooks := .later }
def FnBoundsUptoCardSaid : Prop := Claim7.holds Tryd.pinned (.plain (OpenSpec.upto fnBoundsSpec)) fnBoundsUptoCard

/-- THE SECOND FORM's CARD OF 'laws.FnExactBuiltin'. -/
def fnExactBuiltinUptoCard : Claim7 := { stood := { row := fnExactBuiltinUptoRow, standIns := [], harness := (true, "0fa22ca17d27c642d2075e55e639b1895335c5f325abe8c08d4fd7e6c7050fb3"), looks := false }, kinds := [], alts := [], laidByText := true, laidKinds := [.data, .data, .data], laidTests := true, laidLooks := .later }
def FnExactBuiltinUptoCardSaid : Prop := Claim7.holds Tryd.pinned (.plain (OpenSpec.upto fnExactBuiltinSpec)) fnExactBuiltinUptoCard

/-- THE SECOND FORM's CARD OF 'laws.FnExactOutcomeText'. -/
def fnExactOutcomeTextUptoCard : Claim7 := { stood := { row := fnExactOutcomeTextUptoRow, standIns := [], harness := (true, "0fa22ca17d27c642d2075e55e639b1895335c5f325abe8c08d4fd7e6c7050fb3"), looks := false }, kinds := [], alts := [], laidByText := true, laidKinds := [.data, .data, .data], laidTests := true, laidLooks := .later }
def FnExactOutcomeTextUptoCardSaid : Prop := Claim7.holds Tryd.pinned (.plain (OpenSpec.upto fnExactOutcomeTextSpec)) fnExactOutcomeTextUptoCard

/-- THE SECOND FORM's CARD OF 'laws.FnExactJobReply'. -/
def fnExactJobReplyUptoCard : Claim7 := { stood := { row := fnExactJobReplyUptoRow, standIns := [], harness := (true, "0fa22ca17d27c642d2075e55e639b1895335c5f325abe8c08d4fd7e6c7050fb3"), looks := false }, kinds := [], alts := [], laidByText := true, laidKinds := [.data, .data, .data], laidTests := true, laidLooks := .later }
def FnExactJobReplyUptoCardSaid : Prop := Claim7.holds Tryd.pinned (.plain (OpenSpec.upto fnExactJobReplySpec)) fnExactJobReplyUptoCard
end Rows
end Go.Proofs.YthclofmcinknlaaDoor
