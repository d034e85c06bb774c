/-
  DERIVED. GIVEN WITH THE SEED: THE CARDS: each row of YtlbjffdaooadoaaDoorRows.lean that lists a variable, with what it lists TIED to the program's text (the seventh form; the later family's looks); each row that meets fmt, with fmt's text TOLD by the authors' own Lean function (tested against real Go, not proved from fmt's source: count such statements apart). THE CARD IS WHAT COUNTS. Prove the row's statement (the work); the ties are given (YtlbjffdaooadoaaDoorTie.lean); close each card by the builder's one call (the guide's Derived/Test/ToyasCard.lean, 'card_holds'). Laid BY PROGRAM, IN A SANDBOX (cutbox-door.mjs). By AI agents, Wed Nov 11 2026. No macro, syntax, notation, axiom, sorry.
-/
import Derived.Test.YtlbjffdaooadoaaDoorRows
import GoSem.ClaimSeven
namespace Go.Proofs.YtlbjffdaooadoaaDoor
namespace Rows

/-- THE TIED CARD OF 'changeforgelaw4.RevoptMatchesSpec'. -/
def revoptMatchesSpecCard : Claim7 := { stood := { row := revoptMatchesSpecRow, standIns := [], harness := (true, "7bdd89a32dbf70033609b68d9a5a2b6ac2ec47c4c736a5705d71bda637011d14"), looks := true }, kinds := [], alts := [], laidByText := true, laidKinds := [.data, .data, .data, .sentinel, .sentinel, .data, .data, .data], laidTests := true, laidLooks := .later }
def RevoptMatchesSpecCardSaid : Prop := Claim7.holds Tryd.pinned (.plain (OpenSpec.ofChange revoptMatchesSpecSpec)) revoptMatchesSpecCard

/-- THE TIED CARD OF 'changeforgelaw4.RevoptNeverWorse'. -/
def revoptNeverWorseCard : Claim7 := { stood := { row := revoptNeverWorseRow, standIns := [], harness := (true, "7bdd89a32dbf70033609b68d9a5a2b6ac2ec47c4c736a5705d71bda637011d14"), looks := true }, kinds := [], alts := [], laidByText := true, laidKinds := [.data, .data, .data, .sentinel, .sentinel, .data, .data, .data], laidTests := true, laidLooks := .later }
def RevoptNeverWorseCardSaid : Prop := Claim7.holds Tryd.pinned (.plain (OpenSpec.ofChange revoptNeverWorseSpec)) revoptNeverWorseCard

/-- THE TIED CARD OF 'changeforgelaw4.RevoptIdempotent'. -/
def revoptIdempotentCard : Claim7 := { stood := { row := revoptIdempotentRow, standIns := [], harness := (true, "7bdd89a32dbf70033609b68d9a5a2b6ac2ec47c4c736a5705d71bda637011d14"), looks := true }, kinds := [], alts := [], laidByText := true, laidKinds := [.data, .data, .data, .sentinel, .sentinel, .data, .data, .data], laidTests := true, laidLooks := .later }
def RevoptIdempotentCardSaid : Prop := Claim7.holds Tryd.pinned (.plain (OpenSpec.ofChange revoptIdempotentSpec)) revoptIdempotentCard

/-- THE TIED CARD OF 'changeforgelaw4.RevoptEqualOperands'. -/
def revoptEqualOperandsCard : Claim7 := { stood := { row := revoptEqualOperandsRow, standIns := [], harness := (true, "7bdd89a32dbf70033609b68d9a5a2b6ac2ec47c4c736a5705d71bda637011d14"), looks := true }, kinds := [], alts := [], laidByText := true, laidKinds := [.data, .data, .data, .sentinel, .sentinel, .data, .data, .data], laidTests := true, laidLooks := .later }
def RevoptEqualOperandsCardSaid : Prop := Claim7.holds Tryd.pinned (.plain (OpenSpec.ofChange revoptEqualOperandsSpec)) revoptEqualOperandsCard

/-- THE TIED CARD OF 'changeforgelaw4.RevsetEvalMatchesSpec'. -/
def revsetEvalMatchesSpecCard : Claim7 := { stood := { row := revsetEvalMatchesSpecRow, standIns := [], harness := (true, "7bdd89a32dbf70033609b68d9a5a2b6ac2ec47c4c736a5705d71bda637011d14"), looks := true }, kinds := [], alts := [], laidByText := true, laidKinds := [.data, .data, .data, .sentinel, .sentinel, .data, .data], laidTests := true, laidLooks := .later }
def RevsetEvalMatchesSpecCardSaid : Prop := Claim7.holds Tryd.pinned (.plain (OpenSpec.ofChange revsetEvalMatchesSpecSpec)) revsetEvalMatchesSpecCard

/-- THE TIED CARD OF 'changeforgelaw4.RevsetParseMatchesSpec'. -/
def revsetParseMatchesSpecCard : Claim7 := { stood := { row := revsetParseMatchesSpecRow, standIns := [], harness := (true, "7bdd89a32dbf70033609b68d9a5a2b6ac2ec47c4c736a5705d71bda637011d14"), looks := true }, kinds := [], alts := [], laidByText := true, laidKinds := [.data, .data, .data, .sentinel, .sentinel, .data, .data], laidTests := true, laidLooks := .later }
def RevsetParseMatchesSpecCardSaid : Prop := Claim7.holds Tryd.pinned (.plain (OpenSpec.ofChange revsetParseMatchesSpecSpec)) revsetParseMatchesSpecCard

/-- THE TIED CARD OF 'changeforgelaw4.RevsetFormatMatchesSpec'. -/
def revsetFormatMatchesSpecCard : Claim7 := { stood := { row := revsetFormatMatchesSpecRow, standIns := [], harness := (true, "7bdd89a32dbf70033609b68d9a5a2b6ac2ec47c4c736a5705d71bda637011d14"), looks := true }, kinds := [], alts := [], laidByText := true, laidKinds := [.data, .data, .data, .sentinel, .sentinel, .data, .data], laidTests := true, laidLooks := .later }
def RevsetFormatMatchesSpecCardSaid : Prop := Claim7.holds Tryd.pinned (.plain (OpenSpec.ofChange revsetFormatMatchesSpecSpec)) revsetFormatMatchesSpecCard

/-- THE TIED CARD OF 'changeforgelaw4.RevsetRoundTrip'. -/
def revsetRoundTripCard : Claim7 := { stood := { row := revsetRoundTripRow, standIns := [], harness := (true, "7bdd89a32dbf70033609b68d9a5a2b6ac2ec47c4c736a5705d71bda637011d14"), looks := true }, kinds := [], alts := [], laidByText := true, laidKinds := [.data, .data, .data, .sentinel, .sentinel, .data, .data], laidTests := true, laidLooks := .later }
def RevsetRoundTripCardSaid : Prop := Claim7.holds Tryd.pinned (.plain (OpenSpec.ofChange revsetRoundTripSpec)) revsetRoundTripCard

/-- THE TIED CARD OF 'changeforgelaw4.RevsetDeMorgan'. -/
def revsetDeMorganCard : Claim7 := { stood := { row := revsetDeMorganRow, standIns := [], harness := (true, "7bdd89a32dbf70033609b68d9a5a2b6ac2ec47c4c736a5705d71bda637011d14"), looks := true }, kinds := [], alts := [], laidByText := true, laidKinds := [.data, .data, .data, .sentinel, .sentinel, .data, .data], laidTests := true, laidLooks := .later }
def RevsetDeMorganCardSaid : Prop := Claim7.holds Tryd.pinned (.plain (OpenSpec.ofChange revsetDeMorganSpec)) revsetDeMorganCard

/-- THE TIED CARD OF 'changeforgelaw4.RevsetHeadsGenerate'. -/
def revsetHeadsGenerateCard : Claim7 := { stood := { row := revsetHeadsGenerateRow, standIns := [], harness := (true, "7bdd89a32dbf70033609b68d9a5a2b6ac2ec47c4c736a5705d71bda637011d14"), looks := true }, kinds := [], alts := [], laidByText := true, laidKinds := [.data, .data, .data, .sentinel, .sentinel, .data, .data], laidTests := true, laidLooks := .later }
def RevsetHeadsGenerateCardSaid : Prop := Claim7.holds Tryd.pinned (.plain (OpenSpec.ofChange revsetHeadsGenerateSpec)) revsetHeadsGenerateCard

/-- THE TIED CARD OF 'changeforgelaw4.RevoptSameResult'. -/
def revoptSameResultCard : Claim7 := { stood := { row := revoptSameResultRow, standIns := [], harness := (true, "7bdd89a32dbf70033609b68d9a5a2b6ac2ec47c4c736a5705d71bda637011d14"), looks := true }, kinds := [], alts := [], laidByText := true, laidKinds := [.data, .data, .data, .sentinel, .sentinel, .data, .data, .data], laidTests := true, laidLooks := .later }
def RevoptSameResultCardSaid : Prop := Claim7.holds Tryd.pinned (.plain (OpenSpec.ofChange revoptSameResultSpec)) revoptSameResultCard

/-- THE SECOND FORM's CARD OF 'changeforgelaw4.RevoptMatchesSpec'. -/
def revoptMatchesSpecUptoCard : Claim7 := { stood := { row := revoptMatchesSpecUptoRow, standIns := [], harness := (true, "7bdd89a32dbf70033609b68d9a5a2b6ac2ec47c4c736a5705d71bda637011d14"), looks := true }, kinds := [], alts := [], laidByText := true, laidKinds := [.data, .data, .data, .sentinel, .sentinel, .data, .data, .data], laidTests := true, laidLooks := .later }
def RevoptMatchesSpecUptoCardSaid : Prop := Claim7.holds Tryd.pinned (.plain (OpenSpec.upto revoptMatchesSpecSpec)) revoptMatchesSpecUptoCard

/-- THE SECOND FORM's CARD OF 'changeforgelaw4.RevoptNeverWorse'. -/
def revoptNeverWorseUptoCard : Claim7 := { stood := { row := revoptNeverWorseUptoRow, standIns := [], harness := (true, "7bdd89a32dbf70033609b68d9a5a2b6ac2ec47c4c736a5705d71bda637011d14"), looks := true }, kinds := [], alts := [], laidByText := true, laidKinds := [.data, .data, .data, .sentinel, .sentinel, .data, .data, .data], laidTests := true, laidLooks := .later }
def RevoptNeverWorseUptoCardSaid : Prop := Claim7.holds Tryd.pinned (.plain (OpenSpec.upto revoptNeverWorseSpec)) revoptNeverWorseUptoCard

/-- THE SECOND FORM's CARD OF 'changeforgelaw4.RevoptIdempotent'. -/
def revoptIdempotentUptoCard : Claim7 := { stood := { row := revoptIdempotentUptoRow, standIns := [], harness := (true, "7bdd89a32dbf70033609b68d9a5a2b6ac2ec47c4c736a5705d71bda637011d14"), looks := true }, kinds := [], alts := [], laidByText := true, laidKinds := [.data, .data, .data, .sentinel, .sentinel, .data, .data, .data], laidTests := true, laidLooks := .later }
def RevoptIdempotentUptoCardSaid : Prop := Claim7.holds Tryd.pinned (.plain (OpenSpec.upto revoptIdempotentSpec)) revoptIdempotentUptoCard

/-- THE SECOND FORM's CARD OF 'changeforgelaw4.RevoptEqualOperands'. -/
def revoptEqualOperandsUptoCard : Claim7 := { stood := { row := revoptEqualOperandsUptoRow, standIns := [], harness := (true, "7bdd89a32dbf70033609b68d9a5a2b6ac2ec47c4c736a5705d71bda637011d14"), looks := true }, kinds := [], alts := [], laidByText := true, laidKinds := [.data, .data, .data, .sentinel, .sentinel, .data, .data, .data], laidTests := true, laidLooks := .later }
def RevoptEqualOperandsUptoCardSaid : Prop := Claim7.holds Tryd.pinned (.plain (OpenSpec.upto revoptEqualOperandsSpec)) revoptEqualOperandsUptoCard

/-- THE SECOND FORM's CARD OF 'changeforgelaw4.RevsetEvalMatchesSpec'. -/
def revsetEvalMatchesSpecUptoCard : Claim7 := { stood := { row := revsetEvalMatchesSpecUptoRow, standIns := [], harness := (true, "7bdd89a32dbf70033609b68d9a5a2b6ac2ec47c4c736a5705d71bda637011d14"), looks := true }, kinds := [], alts := [], laidByText := true, laidKinds := [.data, .data, .data, .sentinel, .sentinel, .data, .data], laidTests := true, laidLooks := .later }
def RevsetEvalMatchesSpecUptoCardSaid : Prop := Claim7.holds Tryd.pinned (.plain (OpenSpec.upto revsetEvalMatchesSpecSpec)) revsetEvalMatchesSpecUptoCard

/-- THE SECOND FORM's CARD OF 'changeforgelaw4.RevsetParseMatchesSpec'. -/
def revsetParseMatchesSpecUptoCard : Claim7 := { stood := { row := revsetParseMatchesSpecUptoRow, standIns := [], harness := (true, "7bdd89a32dbf70033609b68d9a5a2b6ac2ec47c4c736a5705d71bda637011d14"), looks := true }, kinds := [], alts := [], laidByText := true, laidKinds := [.data, .data, .data, .sentinel, .sentinel, .data, .data], laidTests := true, laidLooks := .later }
def RevsetParseMatchesSpecUptoCardSaid : Prop := Claim7.holds Tryd.pinned (.plain (OpenSpec.upto revsetParseMatchesSpecSpec)) revsetParseMatchesSpecUptoCard

/-- THE SECOND FORM's CARD OF 'changeforgelaw4.RevsetFormatMatchesSpec'. -/
def revsetFormatMatchesSpecUptoCard : Claim7 := { stood := { row := revsetFormatMatchesSpecUptoRow, standIns := [], harness := (true, "7bdd89a32dbf70033609b68d9a5a2b6ac2ec47c4c736a5705d71bda637011d14"), looks := true }, kinds := [], alts := [], laidByText := true, laidKinds := [.data, .data, .data, .sentinel, .sentinel, .data, .data], laidTests := true, laidLooks := .later }
def RevsetFormatMatchesSpecUptoCardSaid : Prop := Claim7.holds Tryd.pinned (.plain (OpenSpec.upto revsetFormatMatchesSpecSpec)) revsetFormatMatchesSpecUptoCard

/-- THE SECOND FORM's CARD OF 'changeforgelaw4.RevsetRoundTrip'. -/
def revsetRoundTripUptoCard : Claim7 := { stood := { row := revsetRoundTripUptoRow, standIns := [], harness := (true, "7bdd89a32dbf70033609b68d9a5a2b6ac2ec47c4c736a5705d71bda637011d14"), looks := true }, kinds := [], alts := [], laidByText := true, laidKinds := [.data, .data, .data, .sentinel, .sentinel, .data, .data], laidTests := true, laidLooks := .later }
def RevsetRoundTripUptoCardSaid : Prop := Claim7.holds Tryd.pinned (.plain (OpenSpec.upto revsetRoundTripSpec)) revsetRoundTripUptoCard

/-- THE SECOND FORM's CARD OF 'changeforgelaw4.RevsetDeMorgan'. -/
def revsetDeMorganUptoCard : Claim7 := { stood := { row := revsetDeMorganUptoRow, standIns := [], harness := (true, "7bdd89a32dbf70033609b68d9a5a2b6ac2ec47c4c736a5705d71bda637011d14"), looks := true }, kinds := [], alts := [], laidByText := true, laidKinds := [.data, .data, .data, .sentinel, .sentinel, .data, .data], laidTests := true, laidLooks := .later }
def RevsetDeMorganUptoCardSaid : Prop := Claim7.holds Tryd.pinned (.plain (OpenSpec.upto revsetDeMorganSpec)) revsetDeMorganUptoCard

/-- THE SECOND FORM's CARD OF 'changeforgelaw4.RevsetHeadsGenerate'. -/
def revsetHeadsGenerateUptoCard : Claim7 := { stood := { row := revsetHeadsGenerateUptoRow, standIns := [], harness := (true, "7bdd89a32dbf70033609b68d9a5a2b6ac2ec47c4c736a5705d71bda637011d14"), looks := true }, kinds := [], alts := [], laidByText := true, laidKinds := [.data, .data, .data, .sentinel, .sentinel, .data, .data], laidTests := true, laidLooks := .later }
def RevsetHeadsGenerateUptoCardSaid : Prop := Claim7.holds Tryd.pinned (.plain (OpenSpec.upto revsetHeadsGenerateSpec)) revsetHeadsGenerateUptoCard

/-- THE SECOND FORM's CARD OF 'changeforgelaw4.RevoptSameResult'. -/
def revoptSameResultUptoCard : Claim7 := { stood := { row := revoptSameResultUptoRow, standIns := [], harness := (true, "7bdd89a32dbf70033609b68d9a5a2b6ac2ec47c4c736a5705d71bda637011d14"), looks := true }, kinds := [], alts := [], laidByText := true, laidKinds := [.data, .data, .data, .sentinel, .sentinel, .data, .data, .data], laidTests := true, laidLooks := .later }
def RevoptSameResultUptoCardSaid : Prop := Claim7.holds Tryd.pinned (.plain (OpenSpec.upto revoptSameResultSpec)) revoptSameResultUptoCard
end Rows
end Go.Proofs.YtlbjffdaooadoaaDoor
