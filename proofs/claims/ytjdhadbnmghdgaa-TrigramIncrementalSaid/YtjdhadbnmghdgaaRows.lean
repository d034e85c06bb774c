/-
  No cell of these rows narrows 'for every input' (looked for: loops, veiled, ifaces, maps, wideKeys, modest, calm, conditions, laid).
  DERIVED. THE GIVEN ROWS OF THIS SEAT. 6 by the template 'for every input the law returns true; each argument reads behind the call as it read before'; 0 by the template 'total and deterministic' (their statements: YtjdhadbnmghdgaaTotals.lean).
  GIVEN WITH THE SEED: the statements are not yours to turn. If you find one false, say at which input.
  Laid BY PROGRAM, IN A SANDBOX (cutbox-rows.mjs): the forced cells as the released guide's own fill.sh prints them over the translation 452c9dbfb06fc4f5… (all of the seat's roots in one cut). By AI agents, Wed Nov 11 2026. No macro, syntax, notation, axiom, sorry.
-/
import Derived.Test.YtjdhadbnmghdgaaChecked
import GoSem.Claim
import GoSem.ClaimJoined
import GoSem.ClaimMapViews
import Derived.JoinedTies
import Derived.KernelRfl
namespace Go.Proofs.Ytjdhadbnmghdgaa
/- THE CELL 'sum', in the pinned program and in every row, IS THE sha256 OF THE DUMP (.gsa) THAT YtjdhadbnmghdgaaProg.lean LOADS. Nothing in Lean hashes anything: it is a label: what it is worth is what the hold of that sum in a sandbox is worth. -/
noncomputable def Try.pinned : Pinned := { name := "ytjdhadbnmghdgaa", sum := "452c9dbfb06fc4f591080bca08cb01ce620f203c5f5c36b6e831853afba3db91", checked := Try.checked }
namespace Rows
def none {H : Type} : Left H := { results := [], args := [] }

/-- 'changeforgelaw4.TrigramIndexMatchesSpec': WHATEVER THE INPUT: true; the input reads as it did. -/
def trigramIndexMatchesSpecSpec : ChangeSpec := { name := "trigramIndexMatchesSpec", fn := fun _ => fun
  | [d] => { results := [.lit (.bool true)], args := [d] }
  | _ => none }
def trigramIndexMatchesSpecRow : OpenClaim := { program := "ytjdhadbnmghdgaa", sum := "452c9dbfb06fc4f591080bca08cb01ce620f203c5f5c36b6e831853afba3db91", func := "changeforge/changeforgelaw4.TrigramIndexMatchesSpec", spec := "trigramIndexMatchesSpec", inPlace := ["slices.overlaps[int]", "internal/bytealg.abigen_runtime_cmpstring", "slices.overlaps[changeforge/api.Posting]"], unfollowed := true, recurses := true, apart := false }
def TrigramIndexMatchesSpecSaid : Prop := trigramIndexMatchesSpecRow.holds Try.pinned (OpenSpec.ofChange trigramIndexMatchesSpecSpec)

/-- ITS FALSE NEIGHBOUR: 'it returns false'. Refute it at one input. -/
def trigramIndexMatchesSpecWrong : ChangeSpec := { name := "trigramIndexMatchesSpec", fn := fun _ => fun
  | [d] => { results := [.lit (.bool false)], args := [d] }
  | _ => none }
def TrigramIndexMatchesSpecWrongFalsely : Prop := trigramIndexMatchesSpecRow.holds Try.pinned (OpenSpec.ofChange trigramIndexMatchesSpecWrong)

/-- 'changeforgelaw4.TrigramCandidatesMatchesSpec': WHATEVER THE INPUT: true; the input reads as it did. -/
def trigramCandidatesMatchesSpecSpec : ChangeSpec := { name := "trigramCandidatesMatchesSpec", fn := fun _ => fun
  | [d1, d2] => { results := [.lit (.bool true)], args := [d1, d2] }
  | _ => none }
def trigramCandidatesMatchesSpecRow : OpenClaim := { program := "ytjdhadbnmghdgaa", sum := "452c9dbfb06fc4f591080bca08cb01ce620f203c5f5c36b6e831853afba3db91", func := "changeforge/changeforgelaw4.TrigramCandidatesMatchesSpec", spec := "trigramCandidatesMatchesSpec", inPlace := ["slices.overlaps[int]", "internal/bytealg.abigen_runtime_cmpstring", "slices.overlaps[changeforge/api.Posting]"], unfollowed := true, recurses := true, apart := false }
def TrigramCandidatesMatchesSpecSaid : Prop := trigramCandidatesMatchesSpecRow.holds Try.pinned (OpenSpec.ofChange trigramCandidatesMatchesSpecSpec)

/-- ITS FALSE NEIGHBOUR: 'it returns false'. Refute it at one input. -/
def trigramCandidatesMatchesSpecWrong : ChangeSpec := { name := "trigramCandidatesMatchesSpec", fn := fun _ => fun
  | [d1, d2] => { results := [.lit (.bool false)], args := [d1, d2] }
  | _ => none }
def TrigramCandidatesMatchesSpecWrongFalsely : Prop := trigramCandidatesMatchesSpecRow.holds Try.pinned (OpenSpec.ofChange trigramCandidatesMatchesSpecWrong)

/-- 'changeforgelaw4.TrigramNoFalseNegatives': WHATEVER THE INPUT: true; the input reads as it did. -/
def trigramNoFalseNegativesSpec : ChangeSpec := { name := "trigramNoFalseNegatives", fn := fun _ => fun
  | [d1, d2] => { results := [.lit (.bool true)], args := [d1, d2] }
  | _ => none }
def trigramNoFalseNegativesRow : OpenClaim := { program := "ytjdhadbnmghdgaa", sum := "452c9dbfb06fc4f591080bca08cb01ce620f203c5f5c36b6e831853afba3db91", func := "changeforge/changeforgelaw4.TrigramNoFalseNegatives", spec := "trigramNoFalseNegatives", inPlace := ["slices.overlaps[int]", "internal/bytealg.abigen_runtime_cmpstring", "slices.overlaps[changeforge/api.Posting]"], unfollowed := true, recurses := true, apart := false }
def TrigramNoFalseNegativesSaid : Prop := trigramNoFalseNegativesRow.holds Try.pinned (OpenSpec.ofChange trigramNoFalseNegativesSpec)

/-- ITS FALSE NEIGHBOUR: 'it returns false'. Refute it at one input. -/
def trigramNoFalseNegativesWrong : ChangeSpec := { name := "trigramNoFalseNegatives", fn := fun _ => fun
  | [d1, d2] => { results := [.lit (.bool false)], args := [d1, d2] }
  | _ => none }
def TrigramNoFalseNegativesWrongFalsely : Prop := trigramNoFalseNegativesRow.holds Try.pinned (OpenSpec.ofChange trigramNoFalseNegativesWrong)

/-- 'changeforgelaw4.TrigramIncremental': WHATEVER THE INPUT: true; the input reads as it did. -/
def trigramIncrementalSpec : ChangeSpec := { name := "trigramIncremental", fn := fun _ => fun
  | [d1, d2] => { results := [.lit (.bool true)], args := [d1, d2] }
  | _ => none }
def trigramIncrementalRow : OpenClaim := { program := "ytjdhadbnmghdgaa", sum := "452c9dbfb06fc4f591080bca08cb01ce620f203c5f5c36b6e831853afba3db91", func := "changeforge/changeforgelaw4.TrigramIncremental", spec := "trigramIncremental", inPlace := ["slices.overlaps[int]", "internal/bytealg.abigen_runtime_cmpstring", "slices.overlaps[changeforge/api.Posting]"], unfollowed := true, recurses := true, apart := false }
def TrigramIncrementalSaid : Prop := trigramIncrementalRow.holds Try.pinned (OpenSpec.ofChange trigramIncrementalSpec)

/-- ITS FALSE NEIGHBOUR: 'it returns false'. Refute it at one input. -/
def trigramIncrementalWrong : ChangeSpec := { name := "trigramIncremental", fn := fun _ => fun
  | [d1, d2] => { results := [.lit (.bool false)], args := [d1, d2] }
  | _ => none }
def TrigramIncrementalWrongFalsely : Prop := trigramIncrementalRow.holds Try.pinned (OpenSpec.ofChange trigramIncrementalWrong)

/-- 'changeforgelaw4.TrigramAddMatchesSpec': WHATEVER THE INPUT: true; the input reads as it did. -/
def trigramAddMatchesSpecSpec : ChangeSpec := { name := "trigramAddMatchesSpec", fn := fun _ => fun
  | [d1, d2, d3] => { results := [.lit (.bool true)], args := [d1, d2, d3] }
  | _ => none }
def trigramAddMatchesSpecRow : OpenClaim := { program := "ytjdhadbnmghdgaa", sum := "452c9dbfb06fc4f591080bca08cb01ce620f203c5f5c36b6e831853afba3db91", func := "changeforge/changeforgelaw4.TrigramAddMatchesSpec", spec := "trigramAddMatchesSpec", inPlace := ["slices.overlaps[int]", "internal/bytealg.abigen_runtime_cmpstring", "slices.overlaps[changeforge/api.Posting]"], unfollowed := true, recurses := true, apart := false }
def TrigramAddMatchesSpecSaid : Prop := trigramAddMatchesSpecRow.holds Try.pinned (OpenSpec.ofChange trigramAddMatchesSpecSpec)

/-- ITS FALSE NEIGHBOUR: 'it returns false'. Refute it at one input. -/
def trigramAddMatchesSpecWrong : ChangeSpec := { name := "trigramAddMatchesSpec", fn := fun _ => fun
  | [d1, d2, d3] => { results := [.lit (.bool false)], args := [d1, d2, d3] }
  | _ => none }
def TrigramAddMatchesSpecWrongFalsely : Prop := trigramAddMatchesSpecRow.holds Try.pinned (OpenSpec.ofChange trigramAddMatchesSpecWrong)

/-- 'changeforgelaw4.TrigramAddRemove': WHATEVER THE INPUT: true; the input reads as it did. -/
def trigramAddRemoveSpec : ChangeSpec := { name := "trigramAddRemove", fn := fun _ => fun
  | [d1, d2, d3] => { results := [.lit (.bool true)], args := [d1, d2, d3] }
  | _ => none }
def trigramAddRemoveRow : OpenClaim := { program := "ytjdhadbnmghdgaa", sum := "452c9dbfb06fc4f591080bca08cb01ce620f203c5f5c36b6e831853afba3db91", func := "changeforge/changeforgelaw4.TrigramAddRemove", spec := "trigramAddRemove", inPlace := ["slices.overlaps[int]", "internal/bytealg.abigen_runtime_cmpstring", "slices.overlaps[changeforge/api.Posting]"], unfollowed := true, recurses := true, apart := false }
def TrigramAddRemoveSaid : Prop := trigramAddRemoveRow.holds Try.pinned (OpenSpec.ofChange trigramAddRemoveSpec)

/-- ITS FALSE NEIGHBOUR: 'it returns false'. Refute it at one input. -/
def trigramAddRemoveWrong : ChangeSpec := { name := "trigramAddRemove", fn := fun _ => fun
  | [d1, d2, d3] => { results := [.lit (.bool false)], args := [d1, d2, d3] }
  | _ => none }
def TrigramAddRemoveWrongFalsely : Prop := trigramAddRemoveRow.holds Try.pinned (OpenSpec.ofChange trigramAddRemoveWrong)

/- THE SECOND FORM. 'bulk': how many values and letters a reading holds, each counted each time it is reached (what is shared counts as often as it is met; a slice's spare places count too). A statement '..UptoSaid' is the law's where the arguments, and the package variables that the reading takes, are together of bulk at most 1048576: NARROWER than '..Said'. Prove '..Said' where nothing that the law and all that it calls make is longer than what came in: it says more and counts as full. Else prove '..UptoSaid'. A law counts once. -/
mutual
def uptoBulk {H : Type} : DataW H → Nat
  | .lit (.string bytes) => bytes.length + 1
  | .lit _ => 1
  | .nil => 1
  | .ptr d => uptoBulk d + 1
  | .slice elems spare => uptoBulkAll elems + uptoBulkAll spare + 1
  | .agg parts => uptoBulkAll parts + 1
  | .iface _ d => uptoBulk d + 1
  | .map entries => uptoBulkEntries entries + 1
  | .held _ => 1
def uptoBulkAll {H : Type} : List (DataW H) → Nat
  | [] => 0
  | d :: r => uptoBulk d + uptoBulkAll r
def uptoBulkEntries {H : Type} : List (Lit × DataW H) → Nat
  | [] => 0
  | x :: r => uptoBulkEntry x + uptoBulkEntries r
def uptoBulkEntry {H : Type} : Lit × DataW H → Nat
  | (.string bytes, d) => bytes.length + uptoBulk d + 1
  | (_, d) => uptoBulk d + 1
 end
def uptoSmall : (H : Type) → List (DataW H) → Bool := fun _ ds => decide (uptoBulkAll ds ≤ 1048576)
def OpenSpec.upto (s : _root_.Go.ChangeSpec) : _root_.Go.OpenSpec := { _root_.Go.OpenSpec.ofChange s with cond := some uptoSmall }

/-- 'changeforgelaw4.TrigramIndexMatchesSpec', WHERE WHAT IT READS IS OF BULK AT MOST 1048576: true; the input reads as it did. -/
def trigramIndexMatchesSpecUptoRow : OpenClaim := { program := "ytjdhadbnmghdgaa", sum := "452c9dbfb06fc4f591080bca08cb01ce620f203c5f5c36b6e831853afba3db91", func := "changeforge/changeforgelaw4.TrigramIndexMatchesSpec", spec := "trigramIndexMatchesSpec", inPlace := ["slices.overlaps[int]", "internal/bytealg.abigen_runtime_cmpstring", "slices.overlaps[changeforge/api.Posting]"], unfollowed := true, recurses := true, apart := false, narrowed := true }
def TrigramIndexMatchesSpecUptoSaid : Prop := trigramIndexMatchesSpecUptoRow.holds Try.pinned (OpenSpec.upto trigramIndexMatchesSpecSpec)

/-- 'changeforgelaw4.TrigramCandidatesMatchesSpec', WHERE WHAT IT READS IS OF BULK AT MOST 1048576: true; the input reads as it did. -/
def trigramCandidatesMatchesSpecUptoRow : OpenClaim := { program := "ytjdhadbnmghdgaa", sum := "452c9dbfb06fc4f591080bca08cb01ce620f203c5f5c36b6e831853afba3db91", func := "changeforge/changeforgelaw4.TrigramCandidatesMatchesSpec", spec := "trigramCandidatesMatchesSpec", inPlace := ["slices.overlaps[int]", "internal/bytealg.abigen_runtime_cmpstring", "slices.overlaps[changeforge/api.Posting]"], unfollowed := true, recurses := true, apart := false, narrowed := true }
def TrigramCandidatesMatchesSpecUptoSaid : Prop := trigramCandidatesMatchesSpecUptoRow.holds Try.pinned (OpenSpec.upto trigramCandidatesMatchesSpecSpec)

/-- 'changeforgelaw4.TrigramNoFalseNegatives', WHERE WHAT IT READS IS OF BULK AT MOST 1048576: true; the input reads as it did. -/
def trigramNoFalseNegativesUptoRow : OpenClaim := { program := "ytjdhadbnmghdgaa", sum := "452c9dbfb06fc4f591080bca08cb01ce620f203c5f5c36b6e831853afba3db91", func := "changeforge/changeforgelaw4.TrigramNoFalseNegatives", spec := "trigramNoFalseNegatives", inPlace := ["slices.overlaps[int]", "internal/bytealg.abigen_runtime_cmpstring", "slices.overlaps[changeforge/api.Posting]"], unfollowed := true, recurses := true, apart := false, narrowed := true }
def TrigramNoFalseNegativesUptoSaid : Prop := trigramNoFalseNegativesUptoRow.holds Try.pinned (OpenSpec.upto trigramNoFalseNegativesSpec)

/-- 'changeforgelaw4.TrigramIncremental', WHERE WHAT IT READS IS OF BULK AT MOST 1048576: true; the input reads as it did. -/
def trigramIncrementalUptoRow : OpenClaim := { program := "ytjdhadbnmghdgaa", sum := "452c9dbfb06fc4f591080bca08cb01ce620f203c5f5c36b6e831853afba3db91", func := "changeforge/changeforgelaw4.TrigramIncremental", spec := "trigramIncremental", inPlace := ["slices.overlaps[int]", "internal/bytealg.abigen_runtime_cmpstring", "slices.overlaps[changeforge/api.Posting]"], unfollowed := true, recurses := true, apart := false, narrowed := true }
def TrigramIncrementalUptoSaid : Prop := trigramIncrementalUptoRow.holds Try.pinned (OpenSpec.upto trigramIncrementalSpec)

/-- 'changeforgelaw4.TrigramAddMatchesSpec', WHERE WHAT IT READS IS OF BULK AT MOST 1048576: true; the input reads as it did. -/
def trigramAddMatchesSpecUptoRow : OpenClaim := { program := "ytjdhadbnmghdgaa", sum := "452c9dbfb06fc4f591080bca08cb01ce620f203c5f5c36b6e831853afba3db91", func := "changeforge/changeforgelaw4.TrigramAddMatchesSpec", spec := "trigramAddMatchesSpec", inPlace := ["slices.overlaps[int]", "internal/bytealg.abigen_runtime_cmpstring", "slices.overlaps[changeforge/api.Posting]"], unfollowed := true, recurses := true, apart := false, narrowed := true }
def TrigramAddMatchesSpecUptoSaid : Prop := trigramAddMatchesSpecUptoRow.holds Try.pinned (OpenSpec.upto trigramAddMatchesSpecSpec)

/-- 'changeforgelaw4.TrigramAddRemove', WHERE WHAT IT READS IS OF BULK AT MOST 1048576: true; the input reads as it did. -/
def trigramAddRemoveUptoRow : OpenClaim := { program := "ytjdhadbnmghdgaa", sum := "452c9dbfb06fc4f591080bca08cb01ce620f203c5f5c36b6e831853afba3db91", func := "changeforge/changeforgelaw4.TrigramAddRemove", spec := "trigramAddRemove", inPlace := ["slices.overlaps[int]", "internal/bytealg.abigen_runtime_cmpstring", "slices.overlaps[changeforge/api.Posting]"], unfollowed := true, recurses := true, apart := false, narrowed := true }
def TrigramAddRemoveUptoSaid : Prop := trigramAddRemoveUptoRow.holds Try.pinned (OpenSpec.upto trigramAddRemoveSpec)

end Rows
end Go.Proofs.Ytjdhadbnmghdgaa
