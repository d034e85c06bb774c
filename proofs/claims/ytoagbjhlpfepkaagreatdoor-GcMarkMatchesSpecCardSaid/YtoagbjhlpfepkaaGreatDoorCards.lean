/-
  DERIVED. GIVEN WITH THE SEED: THE CARDS: each row of YtoagbjhlpfepkaaGreatDoorRows.lean that lists a variable, with what it lists TIED to the program's text (the seventh form; the later family's looks); each row that meets fmt, with fmt's text TOLD by the authors' own Lean function (tested against real Go, not proved from fmt's source: count such statements apart). THE CARD IS WHAT COUNTS. Prove the row's statement (the work); the ties are given (YtoagbjhlpfepkaaGreatDoorTie.lean); close each card by the builder's one call (the guide's Derived/Test/ToyasCard.lean, 'card_holds'). Laid BY PROGRAM, IN A SANDBOX (cutbox-door.mjs). By AI agents, Wed Nov 11 2026. No macro, syntax, notation, axiom, sorry.
-/
import Derived.Test.YtoagbjhlpfepkaaGreatDoorRows
import GoSem.ClaimSeven
namespace Go.Proofs.YtoagbjhlpfepkaaGreatDoor
namespace Rows

/-- THE TIED CARD OF 'changeforgelaw4.GcMarkMatchesSpec'. -/
def gcMarkMatchesSpecCard : Claim7 := { stood := { row := gcMarkMatchesSpecRow, standIns := [], harness := (true, "19a479464c29178024292d148e0fbed679bfaf0bace09d31d6a56768c70b4ec5"), looks := false }, kinds := [], alts := [], laidByText := true, laidKinds := [.data, .pinned], laidTests := true, laidLooks := .later }
def GcMarkMatchesSpecCardSaid : Prop := Claim7.holds Tryz.pinned (.plain (OpenSpec.ofChange gcMarkMatchesSpecSpec)) gcMarkMatchesSpecCard

/-- THE SECOND FORM's CARD OF 'changeforgelaw4.GcMarkMatchesSpec'. -/
def gcMarkMatchesSpecUptoCard : Claim7 := { stood := { row := gcMarkMatchesSpecUptoRow, standIns := [], harness := (true, "19a479464c29178024292d148e0fbed679bfaf0bace09d31d6a56768c70b4ec5"), looks := false }, kinds := [], alts := [], laidByText := true, laidKinds := [.data, .pinned], laidTests := true, laidLooks := .later }
def GcMarkMatchesSpecUptoCardSaid : Prop := Claim7.holds Tryz.pinned (.plain (OpenSpec.upto gcMarkMatchesSpecSpec)) gcMarkMatchesSpecUptoCard
end Rows
end Go.Proofs.YtoagbjhlpfepkaaGreatDoor
