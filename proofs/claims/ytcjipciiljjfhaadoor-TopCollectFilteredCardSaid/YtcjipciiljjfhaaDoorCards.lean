/-
  DERIVED. GIVEN WITH THE SEED: THE CARDS: each row of YtcjipciiljjfhaaDoorRows.lean that lists a variable, with what it lists TIED to the program's text (the seventh form; the later family's looks); each row that meets fmt, with fmt's text TOLD by the authors' own Lean function (tested against real Go, not proved from fmt's source: count such statements apart). THE CARD IS WHAT COUNTS. Prove the row's statement (the work); the ties are given (YtcjipciiljjfhaaDoorTie.lean); close each card by the builder's one call (the guide's Derived/Test/ToyasCard.lean, 'card_holds'). Laid BY PROGRAM, IN A SANDBOX (cutbox-door.mjs). By AI agents, Wed Nov 11 2026. No macro, syntax, notation, axiom, sorry.
-/
import Derived.Test.YtcjipciiljjfhaaDoorRows
import GoSem.ClaimSeven
namespace Go.Proofs.YtcjipciiljjfhaaDoor
namespace Rows

/-- THE TIED CARD OF 'changeforgetop.TopCollectFiltered'. -/
def topCollectFilteredCard : Claim7 := { stood := { row := topCollectFilteredRow, standIns := [], harness := (true, "610f363d258c5a957fffb6a12d00434d32d869ae1d9a61b0da8f2d0956b2ea06"), looks := false }, kinds := [], alts := [], laidByText := true, laidKinds := [.data, .pinned], laidTests := true, laidLooks := .later }
def TopCollectFilteredCardSaid : Prop := Claim7.holds Tryd.pinned (.plain (OpenSpec.ofChange topCollectFilteredSpec)) topCollectFilteredCard

/-- THE SECOND FORM's CARD OF 'changeforgetop.TopCollectFiltered'. -/
def topCollectFilteredUptoCard : Claim7 := { stood := { row := topCollectFilteredUptoRow, standIns := [], harness := (true, "610f363d258c5a957fffb6a12d00434d32d869ae1d9a61b0da8f2d0956b2ea06"), looks := false }, kinds := [], alts := [], laidByText := true, laidKinds := [.data, .pinned], laidTests := true, laidLooks := .later }
def TopCollectFilteredUptoCardSaid : Prop := Claim7.holds Tryd.pinned (.plain (OpenSpec.upto topCollectFilteredSpec)) topCollectFilteredUptoCard
end Rows
end Go.Proofs.YtcjipciiljjfhaaDoor
