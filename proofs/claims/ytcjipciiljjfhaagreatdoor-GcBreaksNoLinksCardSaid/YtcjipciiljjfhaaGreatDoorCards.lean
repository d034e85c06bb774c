/-
  DERIVED. GIVEN WITH THE SEED: THE CARDS: each row of YtcjipciiljjfhaaGreatDoorRows.lean that lists a variable, with what it lists TIED to the program's text (the seventh form; the later family's looks); each row that meets fmt, with fmt's text TOLD by the authors' own Lean function (tested against real Go, not proved from fmt's source: count such statements apart). THE CARD IS WHAT COUNTS. Prove the row's statement (the work); the ties are given (YtcjipciiljjfhaaGreatDoorTie.lean); close each card by the builder's one call (the guide's Derived/Test/ToyasCard.lean, 'card_holds'). Laid BY PROGRAM, IN A SANDBOX (cutbox-door.mjs). By AI agents, Wed Nov 11 2026. No macro, syntax, notation, axiom, sorry.
-/
import Derived.Test.YtcjipciiljjfhaaGreatDoorRows
import GoSem.ClaimSeven
namespace Go.Proofs.YtcjipciiljjfhaaGreatDoor
namespace Rows

/-- THE TIED CARD OF 'changeforgelaw4.GcCollectMatchesSpec'. -/
def gcCollectMatchesSpecCard : Claim7 := { stood := { row := gcCollectMatchesSpecRow, standIns := [], harness := (true, "a46528d205bc28d497565291b6b947dfdb1641bd69c5aacaae5a3a8a12b91969"), looks := false }, kinds := [], alts := [], laidByText := true, laidKinds := [.data, .pinned], laidTests := true, laidLooks := .later }
def GcCollectMatchesSpecCardSaid : Prop := Claim7.holds Tryz.pinned (.plain (OpenSpec.ofChange gcCollectMatchesSpecSpec)) gcCollectMatchesSpecCard

/-- THE TIED CARD OF 'changeforgelaw4.GcIdempotent'. -/
def gcIdempotentCard : Claim7 := { stood := { row := gcIdempotentRow, standIns := [], harness := (true, "a46528d205bc28d497565291b6b947dfdb1641bd69c5aacaae5a3a8a12b91969"), looks := false }, kinds := [], alts := [], laidByText := true, laidKinds := [.data, .pinned], laidTests := true, laidLooks := .later }
def GcIdempotentCardSaid : Prop := Claim7.holds Tryz.pinned (.plain (OpenSpec.ofChange gcIdempotentSpec)) gcIdempotentCard

/-- THE TIED CARD OF 'changeforgelaw4.GcLeasesExpire'. -/
def gcLeasesExpireCard : Claim7 := { stood := { row := gcLeasesExpireRow, standIns := [], harness := (true, "a46528d205bc28d497565291b6b947dfdb1641bd69c5aacaae5a3a8a12b91969"), looks := false }, kinds := [], alts := [], laidByText := true, laidKinds := [.data, .pinned], laidTests := true, laidLooks := .later }
def GcLeasesExpireCardSaid : Prop := Claim7.holds Tryz.pinned (.plain (OpenSpec.ofChange gcLeasesExpireSpec)) gcLeasesExpireCard

/-- THE TIED CARD OF 'changeforgelaw4.GcBreaksNoLinks'. -/
def gcBreaksNoLinksCard : Claim7 := { stood := { row := gcBreaksNoLinksRow, standIns := [], harness := (true, "a46528d205bc28d497565291b6b947dfdb1641bd69c5aacaae5a3a8a12b91969"), looks := false }, kinds := [], alts := [], laidByText := true, laidKinds := [.data, .pinned], laidTests := true, laidLooks := .later }
def GcBreaksNoLinksCardSaid : Prop := Claim7.holds Tryz.pinned (.plain (OpenSpec.ofChange gcBreaksNoLinksSpec)) gcBreaksNoLinksCard

/-- THE SECOND FORM's CARD OF 'changeforgelaw4.GcCollectMatchesSpec'. -/
def gcCollectMatchesSpecUptoCard : Claim7 := { stood := { row := gcCollectMatchesSpecUptoRow, standIns := [], harness := (true, "a46528d205bc28d497565291b6b947dfdb1641bd69c5aacaae5a3a8a12b91969"), looks := false }, kinds := [], alts := [], laidByText := true, laidKinds := [.data, .pinned], laidTests := true, laidLooks := .later }
def GcCollectMatchesSpecUptoCardSaid : Prop := Claim7.holds Tryz.pinned (.plain (OpenSpec.upto gcCollectMatchesSpecSpec)) gcCollectMatchesSpecUptoCard

/-- THE SECOND FORM's CARD OF 'changeforgelaw4.GcIdempotent'. -/
def gcIdempotentUptoCard : Claim7 := { stood := { row := gcIdempotentUptoRow, standIns := [], harness := (true, "a46528d205bc28d497565291b6b947dfdb1641bd69c5aacaae5a3a8a12b91969"), looks := false }, kinds := [], alts := [], laidByText := true, laidKinds := [.data, .pinned], laidTests := true, laidLooks := .later }
def GcIdempotentUptoCardSaid : Prop := Claim7.holds Tryz.pinned (.plain (OpenSpec.upto gcIdempotentSpec)) gcIdempotentUptoCard

/-- THE SECOND FORM's CARD OF 'changeforgelaw4.GcLeasesExpire'. -/
def gcLeasesExpireUptoCard : Claim7 := { stood := { row := gcLeasesExpireUptoRow, standIns := [], harness := (true, "a46528d205bc28d497565291b6b947dfdb1641bd69c5aacaae5a3a8a12b91969"), looks := false }, kinds := [], alts := [], laidByText := true, laidKinds := [.data, .pinned], laidTests := true, laidLooks := .later }
def GcLeasesExpireUptoCardSaid : Prop := Claim7.holds Tryz.pinned (.plain (OpenSpec.upto gcLeasesExpireSpec)) gcLeasesExpireUptoCard

/-- THE SECOND FORM's CARD OF 'changeforgelaw4.GcBreaksNoLinks'. -/
def gcBreaksNoLinksUptoCard : Claim7 := { stood := { row := gcBreaksNoLinksUptoRow, standIns := [], harness := (true, "a46528d205bc28d497565291b6b947dfdb1641bd69c5aacaae5a3a8a12b91969"), looks := false }, kinds := [], alts := [], laidByText := true, laidKinds := [.data, .pinned], laidTests := true, laidLooks := .later }
def GcBreaksNoLinksUptoCardSaid : Prop := Claim7.holds Tryz.pinned (.plain (OpenSpec.upto gcBreaksNoLinksSpec)) gcBreaksNoLinksUptoCard
end Rows
end Go.Proofs.YtcjipciiljjfhaaGreatDoor
