/-
  No cell of these rows narrows 'for every input' (looked for: loops, veiled, ifaces, maps, wideKeys, modest, calm, conditions, laid).
  DERIVED. THE GIVEN ROWS OF THIS SEAT. 6 by the template 'for every input the law returns true; each argument reads behind the call as it read before'; 0 by the template 'total and deterministic' (their statements: YtgnahopdiljikaaTotals.lean).
  GIVEN WITH THE SEED: the statements are not yours to turn. If you find one false, say at which input.
  Laid BY PROGRAM, IN A SANDBOX (cutbox-rows.mjs): the forced cells as the released guide's own fill.sh prints them over the translation ffaedf2550a2679f… (all of the seat's roots in one cut). By AI agents, Wed Nov 11 2026. No macro, syntax, notation, axiom, sorry.
-/
import Derived.Test.YtgnahopdiljikaaChecked
import GoSem.Claim
import GoSem.ClaimJoined
import GoSem.ClaimMapViews
import Derived.JoinedTies
import Derived.KernelRfl
namespace Go.Proofs.Ytgnahopdiljikaa
/- THE CELL 'sum', in the pinned program and in every row, IS THE sha256 OF THE DUMP (.gsa) THAT YtgnahopdiljikaaProg.lean LOADS. Nothing in Lean hashes anything: it is a label: what it is worth is what the hold of that sum in a sandbox is worth. -/
noncomputable def Try.pinned : Pinned := { name := "ytgnahopdiljikaa", sum := "ffaedf2550a2679fe90cea5060250deacb08cafd0205106c0a8bf1de6088ef67", checked := Try.checked }
namespace Rows
def none {H : Type} : Left H := { results := [], args := [] }

/-- 'changeforgelaw4.PartialFilterMatchesSpec': WHATEVER THE INPUT: true; the input reads as it did. -/
def partialFilterMatchesSpecSpec : ChangeSpec := { name := "partialFilterMatchesSpec", fn := fun _ => fun
  | [d1, d2] => { results := [.lit (.bool true)], args := [d1, d2] }
  | _ => none }
def partialFilterMatchesSpecRow : OpenClaim := { program := "ytgnahopdiljikaa", sum := "ffaedf2550a2679fe90cea5060250deacb08cafd0205106c0a8bf1de6088ef67", func := "changeforge/changeforgelaw4.PartialFilterMatchesSpec", spec := "partialFilterMatchesSpec", inPlace := ["slices.overlaps[changeforge/api.StoredObject]"], unfollowed := true, recurses := true, apart := false }
def PartialFilterMatchesSpecSaid : Prop := partialFilterMatchesSpecRow.holds Try.pinned (OpenSpec.ofChange partialFilterMatchesSpecSpec)

/-- ITS FALSE NEIGHBOUR: 'it returns false'. Refute it at one input. -/
def partialFilterMatchesSpecWrong : ChangeSpec := { name := "partialFilterMatchesSpec", fn := fun _ => fun
  | [d1, d2] => { results := [.lit (.bool false)], args := [d1, d2] }
  | _ => none }
def PartialFilterMatchesSpecWrongFalsely : Prop := partialFilterMatchesSpecRow.holds Try.pinned (OpenSpec.ofChange partialFilterMatchesSpecWrong)

/-- 'changeforgelaw4.PartialNeededMatchesSpec': WHATEVER THE INPUT: true; the input reads as it did. -/
def partialNeededMatchesSpecSpec : ChangeSpec := { name := "partialNeededMatchesSpec", fn := fun _ => fun
  | [d1, d2, d3] => { results := [.lit (.bool true)], args := [d1, d2, d3] }
  | _ => none }
def partialNeededMatchesSpecRow : OpenClaim := { program := "ytgnahopdiljikaa", sum := "ffaedf2550a2679fe90cea5060250deacb08cafd0205106c0a8bf1de6088ef67", func := "changeforge/changeforgelaw4.PartialNeededMatchesSpec", spec := "partialNeededMatchesSpec", inPlace := ["slices.overlaps[changeforge/api.StoredObject]"], unfollowed := true, recurses := true, apart := false }
def PartialNeededMatchesSpecSaid : Prop := partialNeededMatchesSpecRow.holds Try.pinned (OpenSpec.ofChange partialNeededMatchesSpecSpec)

/-- ITS FALSE NEIGHBOUR: 'it returns false'. Refute it at one input. -/
def partialNeededMatchesSpecWrong : ChangeSpec := { name := "partialNeededMatchesSpec", fn := fun _ => fun
  | [d1, d2, d3] => { results := [.lit (.bool false)], args := [d1, d2, d3] }
  | _ => none }
def PartialNeededMatchesSpecWrongFalsely : Prop := partialNeededMatchesSpecRow.holds Try.pinned (OpenSpec.ofChange partialNeededMatchesSpecWrong)

/-- 'changeforgelaw4.PartialFetchMatchesSpec': WHATEVER THE INPUT: true; the input reads as it did. -/
def partialFetchMatchesSpecSpec : ChangeSpec := { name := "partialFetchMatchesSpec", fn := fun _ => fun
  | [d1, d2, d3, d4] => { results := [.lit (.bool true)], args := [d1, d2, d3, d4] }
  | _ => none }
def partialFetchMatchesSpecRow : OpenClaim := { program := "ytgnahopdiljikaa", sum := "ffaedf2550a2679fe90cea5060250deacb08cafd0205106c0a8bf1de6088ef67", func := "changeforge/changeforgelaw4.PartialFetchMatchesSpec", spec := "partialFetchMatchesSpec", inPlace := ["slices.overlaps[changeforge/api.StoredObject]"], unfollowed := true, recurses := true, apart := false }
def PartialFetchMatchesSpecSaid : Prop := partialFetchMatchesSpecRow.holds Try.pinned (OpenSpec.ofChange partialFetchMatchesSpecSpec)

/-- ITS FALSE NEIGHBOUR: 'it returns false'. Refute it at one input. -/
def partialFetchMatchesSpecWrong : ChangeSpec := { name := "partialFetchMatchesSpec", fn := fun _ => fun
  | [d1, d2, d3, d4] => { results := [.lit (.bool false)], args := [d1, d2, d3, d4] }
  | _ => none }
def PartialFetchMatchesSpecWrongFalsely : Prop := partialFetchMatchesSpecRow.holds Try.pinned (OpenSpec.ofChange partialFetchMatchesSpecWrong)

/-- 'changeforgelaw4.PartialFetchRestores': WHATEVER THE INPUT: true; the input reads as it did. -/
def partialFetchRestoresSpec : ChangeSpec := { name := "partialFetchRestores", fn := fun _ => fun
  | [d1, d2] => { results := [.lit (.bool true)], args := [d1, d2] }
  | _ => none }
def partialFetchRestoresRow : OpenClaim := { program := "ytgnahopdiljikaa", sum := "ffaedf2550a2679fe90cea5060250deacb08cafd0205106c0a8bf1de6088ef67", func := "changeforge/changeforgelaw4.PartialFetchRestores", spec := "partialFetchRestores", inPlace := ["slices.overlaps[changeforge/api.StoredObject]"], unfollowed := true, recurses := true, apart := false }
def PartialFetchRestoresSaid : Prop := partialFetchRestoresRow.holds Try.pinned (OpenSpec.ofChange partialFetchRestoresSpec)

/-- ITS FALSE NEIGHBOUR: 'it returns false'. Refute it at one input. -/
def partialFetchRestoresWrong : ChangeSpec := { name := "partialFetchRestores", fn := fun _ => fun
  | [d1, d2] => { results := [.lit (.bool false)], args := [d1, d2] }
  | _ => none }
def PartialFetchRestoresWrongFalsely : Prop := partialFetchRestoresRow.holds Try.pinned (OpenSpec.ofChange partialFetchRestoresWrong)

/-- 'changeforgelaw4.PartialFetchOrderIrrelevant': WHATEVER THE INPUT: true; the input reads as it did. -/
def partialFetchOrderIrrelevantSpec : ChangeSpec := { name := "partialFetchOrderIrrelevant", fn := fun _ => fun
  | [d1, d2, d3] => { results := [.lit (.bool true)], args := [d1, d2, d3] }
  | _ => none }
def partialFetchOrderIrrelevantRow : OpenClaim := { program := "ytgnahopdiljikaa", sum := "ffaedf2550a2679fe90cea5060250deacb08cafd0205106c0a8bf1de6088ef67", func := "changeforge/changeforgelaw4.PartialFetchOrderIrrelevant", spec := "partialFetchOrderIrrelevant", inPlace := ["slices.overlaps[changeforge/api.StoredObject]"], unfollowed := true, recurses := true, apart := false }
def PartialFetchOrderIrrelevantSaid : Prop := partialFetchOrderIrrelevantRow.holds Try.pinned (OpenSpec.ofChange partialFetchOrderIrrelevantSpec)

/-- ITS FALSE NEIGHBOUR: 'it returns false'. Refute it at one input. -/
def partialFetchOrderIrrelevantWrong : ChangeSpec := { name := "partialFetchOrderIrrelevant", fn := fun _ => fun
  | [d1, d2, d3] => { results := [.lit (.bool false)], args := [d1, d2, d3] }
  | _ => none }
def PartialFetchOrderIrrelevantWrongFalsely : Prop := partialFetchOrderIrrelevantRow.holds Try.pinned (OpenSpec.ofChange partialFetchOrderIrrelevantWrong)

/-- 'changeforgelaw4.PartialNeededIsReachable': WHATEVER THE INPUT: true; the input reads as it did. -/
def partialNeededIsReachableSpec : ChangeSpec := { name := "partialNeededIsReachable", fn := fun _ => fun
  | [d1, d2, d3] => { results := [.lit (.bool true)], args := [d1, d2, d3] }
  | _ => none }
def partialNeededIsReachableRow : OpenClaim := { program := "ytgnahopdiljikaa", sum := "ffaedf2550a2679fe90cea5060250deacb08cafd0205106c0a8bf1de6088ef67", func := "changeforge/changeforgelaw4.PartialNeededIsReachable", spec := "partialNeededIsReachable", inPlace := ["slices.overlaps[changeforge/api.StoredObject]"], unfollowed := true, recurses := true, apart := false }
def PartialNeededIsReachableSaid : Prop := partialNeededIsReachableRow.holds Try.pinned (OpenSpec.ofChange partialNeededIsReachableSpec)

/-- ITS FALSE NEIGHBOUR: 'it returns false'. Refute it at one input. -/
def partialNeededIsReachableWrong : ChangeSpec := { name := "partialNeededIsReachable", fn := fun _ => fun
  | [d1, d2, d3] => { results := [.lit (.bool false)], args := [d1, d2, d3] }
  | _ => none }
def PartialNeededIsReachableWrongFalsely : Prop := partialNeededIsReachableRow.holds Try.pinned (OpenSpec.ofChange partialNeededIsReachableWrong)

/- THE SECOND FORM. 'bulk': how many values and letters a reading holds, each counted each time it is reached (what is shared counts as often as it is met; a slice's spare places count too). A statement '..UptoSaid' is the law's where the arguments, and the package variables that the reading takes, are together of bulk at most 1048576: NARROWER than '..Said'. Prove '..Said' where nothing that the law and all that it calls make is longer than what came in: it says more and counts as full. Else prove '..UptoSaid'. A law counts once. -/
mutual
def uptoBulk {H : Type} : DataW H → Nat
  | .lit (.string bytes) => bytes.length + 1
  | .lit _ => 1
  | .nil => 1
  | .ptr d => uptoBulk d + 1
  | .slice elems spare => uptoBulkAll elems + uptoBulkAll spare + 1
  | .agg parts => uptoBulkAll parts + 1
  | .iface _ d => uptoBulk d + 1
  | .map entries => uptoBulkEntries entries + 1
  | .held _ => 1
def uptoBulkAll {H : Type} : List (DataW H) → Nat
  | [] => 0
  | d :: r => uptoBulk d + uptoBulkAll r
def uptoBulkEntries {H : Type} : List (Lit × DataW H) → Nat
  | [] => 0
  | x :: r => uptoBulkEntry x + uptoBulkEntries r
def uptoBulkEntry {H : Type} : Lit × DataW H → Nat
  | (.string bytes, d) => bytes.length + uptoBulk d + 1
  | (_, d) => uptoBulk d + 1
 end
def uptoSmall : (H : Type) → List (DataW H) → Bool := fun _ ds => decide (uptoBulkAll ds ≤ 1048576)
def OpenSpec.upto (s : _root_.Go.ChangeSpec) : _root_.Go.OpenSpec := { _root_.Go.OpenSpec.ofChange s with cond := some uptoSmall }

/-- 'changeforgelaw4.PartialFilterMatchesSpec', WHERE WHAT IT READS IS OF BULK AT MOST 1048576: true; the input reads as it did. -/
def partialFilterMatchesSpecUptoRow : OpenClaim := { program := "ytgnahopdiljikaa", sum := "ffaedf2550a2679fe90cea5060250deacb08cafd0205106c0a8bf1de6088ef67", func := "changeforge/changeforgelaw4.PartialFilterMatchesSpec", spec := "partialFilterMatchesSpec", inPlace := ["slices.overlaps[changeforge/api.StoredObject]"], unfollowed := true, recurses := true, apart := false, narrowed := true }
def PartialFilterMatchesSpecUptoSaid : Prop := partialFilterMatchesSpecUptoRow.holds Try.pinned (OpenSpec.upto partialFilterMatchesSpecSpec)

/-- 'changeforgelaw4.PartialNeededMatchesSpec', WHERE WHAT IT READS IS OF BULK AT MOST 1048576: true; the input reads as it did. -/
def partialNeededMatchesSpecUptoRow : OpenClaim := { program := "ytgnahopdiljikaa", sum := "ffaedf2550a2679fe90cea5060250deacb08cafd0205106c0a8bf1de6088ef67", func := "changeforge/changeforgelaw4.PartialNeededMatchesSpec", spec := "partialNeededMatchesSpec", inPlace := ["slices.overlaps[changeforge/api.StoredObject]"], unfollowed := true, recurses := true, apart := false, narrowed := true }
def PartialNeededMatchesSpecUptoSaid : Prop := partialNeededMatchesSpecUptoRow.holds Try.pinned (OpenSpec.upto partialNeededMatchesSpecSpec)

/-- 'changeforgelaw4.PartialFetchMatchesSpec', WHERE WHAT IT READS IS OF BULK AT MOST 1048576: true; the input reads as it did. -/
def partialFetchMatchesSpecUptoRow : OpenClaim := { program := "ytgnahopdiljikaa", sum := "ffaedf2550a2679fe90cea5060250deacb08cafd0205106c0a8bf1de6088ef67", func := "changeforge/changeforgelaw4.PartialFetchMatchesSpec", spec := "partialFetchMatchesSpec", inPlace := ["slices.overlaps[changeforge/api.StoredObject]"], unfollowed := true, recurses := true, apart := false, narrowed := true }
def PartialFetchMatchesSpecUptoSaid : Prop := partialFetchMatchesSpecUptoRow.holds Try.pinned (OpenSpec.upto partialFetchMatchesSpecSpec)

/-- 'changeforgelaw4.PartialFetchRestores', WHERE WHAT IT READS IS OF BULK AT MOST 1048576: true; the input reads as it did. -/
def partialFetchRestoresUptoRow : OpenClaim := { program := "ytgnahopdiljikaa", sum := "ffaedf2550a2679fe90cea5060250deacb08cafd0205106c0a8bf1de6088ef67", func := "changeforge/changeforgelaw4.PartialFetchRestores", spec := "partialFetchRestores", inPlace := ["slices.overlaps[changeforge/api.StoredObject]"], unfollowed := true, recurses := true, apart := false, narrowed := true }
def PartialFetchRestoresUptoSaid : Prop := partialFetchRestoresUptoRow.holds Try.pinned (OpenSpec.upto partialFetchRestoresSpec)

/-- 'changeforgelaw4.PartialFetchOrderIrrelevant', WHERE WHAT IT READS IS OF BULK AT MOST 1048576: true; the input reads as it did. -/
def partialFetchOrderIrrelevantUptoRow : OpenClaim := { program := "ytgnahopdiljikaa", sum := "ffaedf2550a2679fe90cea5060250deacb08cafd0205106c0a8bf1de6088ef67", func := "changeforge/changeforgelaw4.PartialFetchOrderIrrelevant", spec := "partialFetchOrderIrrelevant", inPlace := ["slices.overlaps[changeforge/api.StoredObject]"], unfollowed := true, recurses := true, apart := false, narrowed := true }
def PartialFetchOrderIrrelevantUptoSaid : Prop := partialFetchOrderIrrelevantUptoRow.holds Try.pinned (OpenSpec.upto partialFetchOrderIrrelevantSpec)

/-- 'changeforgelaw4.PartialNeededIsReachable', WHERE WHAT IT READS IS OF BULK AT MOST 1048576: true; the input reads as it did. -/
def partialNeededIsReachableUptoRow : OpenClaim := { program := "ytgnahopdiljikaa", sum := "ffaedf2550a2679fe90cea5060250deacb08cafd0205106c0a8bf1de6088ef67", func := "changeforge/changeforgelaw4.PartialNeededIsReachable", spec := "partialNeededIsReachable", inPlace := ["slices.overlaps[changeforge/api.StoredObject]"], unfollowed := true, recurses := true, apart := false, narrowed := true }
def PartialNeededIsReachableUptoSaid : Prop := partialNeededIsReachableUptoRow.holds Try.pinned (OpenSpec.upto partialNeededIsReachableSpec)

end Rows
end Go.Proofs.Ytgnahopdiljikaa
