/-
  No cell of these rows narrows 'for every input' (looked for: loops, veiled, ifaces, maps, wideKeys, modest, calm, conditions, laid).
  DERIVED. THE GIVEN ROWS OF THIS SEAT. 6 by the template 'for every input the law returns true; each argument reads behind the call as it read before'; 0 by the template 'total and deterministic' (their statements: YtjpkgmmmmcgmeaaTotals.lean).
  GIVEN WITH THE SEED: the statements are not yours to turn. If you find one false, say at which input.
  Laid BY PROGRAM, IN A SANDBOX (cutbox-rows.mjs): the forced cells as the released guide's own fill.sh prints them over the translation c4ba4ab1a7c8bfd5… (all of the seat's roots in one cut). By AI agents, Wed Nov 11 2026. No macro, syntax, notation, axiom, sorry.
-/
import Derived.Test.YtjpkgmmmmcgmeaaChecked
import GoSem.Claim
import GoSem.ClaimJoined
import GoSem.ClaimMapViews
import Derived.JoinedTies
import Derived.KernelRfl
namespace Go.Proofs.Ytjpkgmmmmcgmeaa
/- THE CELL 'sum', in the pinned program and in every row, IS THE sha256 OF THE DUMP (.gsa) THAT YtjpkgmmmmcgmeaaProg.lean LOADS. Nothing in Lean hashes anything: it is a label: what it is worth is what the hold of that sum in a sandbox is worth. -/
noncomputable def Try.pinned : Pinned := { name := "ytjpkgmmmmcgmeaa", sum := "c4ba4ab1a7c8bfd5776dd2cc99dfa8616bcc082ff5f41989b7f8d2010c89d58b", checked := Try.checked }
namespace Rows
def none {H : Type} : Left H := { results := [], args := [] }

/-- 'changeforgelaw4.ObsoleteMergeMatchesSpec': WHATEVER THE INPUT: true; the input reads as it did. -/
def obsoleteMergeMatchesSpecSpec : ChangeSpec := { name := "obsoleteMergeMatchesSpec", fn := fun _ => fun
  | [d1, d2] => { results := [.lit (.bool true)], args := [d1, d2] }
  | _ => none }
def obsoleteMergeMatchesSpecRow : OpenClaim := { program := "ytjpkgmmmmcgmeaa", sum := "c4ba4ab1a7c8bfd5776dd2cc99dfa8616bcc082ff5f41989b7f8d2010c89d58b", func := "changeforge/changeforgelaw4.ObsoleteMergeMatchesSpec", spec := "obsoleteMergeMatchesSpec", unfollowed := true, recurses := true, apart := false }
def ObsoleteMergeMatchesSpecSaid : Prop := obsoleteMergeMatchesSpecRow.holds Try.pinned (OpenSpec.ofChange obsoleteMergeMatchesSpecSpec)

/-- ITS FALSE NEIGHBOUR: 'it returns false'. Refute it at one input. -/
def obsoleteMergeMatchesSpecWrong : ChangeSpec := { name := "obsoleteMergeMatchesSpec", fn := fun _ => fun
  | [d1, d2] => { results := [.lit (.bool false)], args := [d1, d2] }
  | _ => none }
def ObsoleteMergeMatchesSpecWrongFalsely : Prop := obsoleteMergeMatchesSpecRow.holds Try.pinned (OpenSpec.ofChange obsoleteMergeMatchesSpecWrong)

/-- 'changeforgelaw4.ObsoleteMergeSemilattice': WHATEVER THE INPUT: true; the input reads as it did. -/
def obsoleteMergeSemilatticeSpec : ChangeSpec := { name := "obsoleteMergeSemilattice", fn := fun _ => fun
  | [d1, d2, d3] => { results := [.lit (.bool true)], args := [d1, d2, d3] }
  | _ => none }
def obsoleteMergeSemilatticeRow : OpenClaim := { program := "ytjpkgmmmmcgmeaa", sum := "c4ba4ab1a7c8bfd5776dd2cc99dfa8616bcc082ff5f41989b7f8d2010c89d58b", func := "changeforge/changeforgelaw4.ObsoleteMergeSemilattice", spec := "obsoleteMergeSemilattice", unfollowed := true, recurses := true, apart := false }
def ObsoleteMergeSemilatticeSaid : Prop := obsoleteMergeSemilatticeRow.holds Try.pinned (OpenSpec.ofChange obsoleteMergeSemilatticeSpec)

/-- ITS FALSE NEIGHBOUR: 'it returns false'. Refute it at one input. -/
def obsoleteMergeSemilatticeWrong : ChangeSpec := { name := "obsoleteMergeSemilattice", fn := fun _ => fun
  | [d1, d2, d3] => { results := [.lit (.bool false)], args := [d1, d2, d3] }
  | _ => none }
def ObsoleteMergeSemilatticeWrongFalsely : Prop := obsoleteMergeSemilatticeRow.holds Try.pinned (OpenSpec.ofChange obsoleteMergeSemilatticeWrong)

/-- 'changeforgelaw4.ObsoleteSuccessorsMatchesSpec': WHATEVER THE INPUT: true; the input reads as it did. -/
def obsoleteSuccessorsMatchesSpecSpec : ChangeSpec := { name := "obsoleteSuccessorsMatchesSpec", fn := fun _ => fun
  | [d1, d2] => { results := [.lit (.bool true)], args := [d1, d2] }
  | _ => none }
def obsoleteSuccessorsMatchesSpecRow : OpenClaim := { program := "ytjpkgmmmmcgmeaa", sum := "c4ba4ab1a7c8bfd5776dd2cc99dfa8616bcc082ff5f41989b7f8d2010c89d58b", func := "changeforge/changeforgelaw4.ObsoleteSuccessorsMatchesSpec", spec := "obsoleteSuccessorsMatchesSpec", unfollowed := true, recurses := true, apart := false }
def ObsoleteSuccessorsMatchesSpecSaid : Prop := obsoleteSuccessorsMatchesSpecRow.holds Try.pinned (OpenSpec.ofChange obsoleteSuccessorsMatchesSpecSpec)

/-- ITS FALSE NEIGHBOUR: 'it returns false'. Refute it at one input. -/
def obsoleteSuccessorsMatchesSpecWrong : ChangeSpec := { name := "obsoleteSuccessorsMatchesSpec", fn := fun _ => fun
  | [d1, d2] => { results := [.lit (.bool false)], args := [d1, d2] }
  | _ => none }
def ObsoleteSuccessorsMatchesSpecWrongFalsely : Prop := obsoleteSuccessorsMatchesSpecRow.holds Try.pinned (OpenSpec.ofChange obsoleteSuccessorsMatchesSpecWrong)

/-- 'changeforgelaw4.ObsoleteSuccessorsAreVisible': WHATEVER THE INPUT: true; the input reads as it did. -/
def obsoleteSuccessorsAreVisibleSpec : ChangeSpec := { name := "obsoleteSuccessorsAreVisible", fn := fun _ => fun
  | [d1, d2] => { results := [.lit (.bool true)], args := [d1, d2] }
  | _ => none }
def obsoleteSuccessorsAreVisibleRow : OpenClaim := { program := "ytjpkgmmmmcgmeaa", sum := "c4ba4ab1a7c8bfd5776dd2cc99dfa8616bcc082ff5f41989b7f8d2010c89d58b", func := "changeforge/changeforgelaw4.ObsoleteSuccessorsAreVisible", spec := "obsoleteSuccessorsAreVisible", unfollowed := true, recurses := true, apart := false }
def ObsoleteSuccessorsAreVisibleSaid : Prop := obsoleteSuccessorsAreVisibleRow.holds Try.pinned (OpenSpec.ofChange obsoleteSuccessorsAreVisibleSpec)

/-- ITS FALSE NEIGHBOUR: 'it returns false'. Refute it at one input. -/
def obsoleteSuccessorsAreVisibleWrong : ChangeSpec := { name := "obsoleteSuccessorsAreVisible", fn := fun _ => fun
  | [d1, d2] => { results := [.lit (.bool false)], args := [d1, d2] }
  | _ => none }
def ObsoleteSuccessorsAreVisibleWrongFalsely : Prop := obsoleteSuccessorsAreVisibleRow.holds Try.pinned (OpenSpec.ofChange obsoleteSuccessorsAreVisibleWrong)

/-- 'changeforgelaw4.ObsoleteMoreMarkersHideMore': WHATEVER THE INPUT: true; the input reads as it did. -/
def obsoleteMoreMarkersHideMoreSpec : ChangeSpec := { name := "obsoleteMoreMarkersHideMore", fn := fun _ => fun
  | [d1, d2, d3] => { results := [.lit (.bool true)], args := [d1, d2, d3] }
  | _ => none }
def obsoleteMoreMarkersHideMoreRow : OpenClaim := { program := "ytjpkgmmmmcgmeaa", sum := "c4ba4ab1a7c8bfd5776dd2cc99dfa8616bcc082ff5f41989b7f8d2010c89d58b", func := "changeforge/changeforgelaw4.ObsoleteMoreMarkersHideMore", spec := "obsoleteMoreMarkersHideMore", unfollowed := true, recurses := true, apart := false }
def ObsoleteMoreMarkersHideMoreSaid : Prop := obsoleteMoreMarkersHideMoreRow.holds Try.pinned (OpenSpec.ofChange obsoleteMoreMarkersHideMoreSpec)

/-- ITS FALSE NEIGHBOUR: 'it returns false'. Refute it at one input. -/
def obsoleteMoreMarkersHideMoreWrong : ChangeSpec := { name := "obsoleteMoreMarkersHideMore", fn := fun _ => fun
  | [d1, d2, d3] => { results := [.lit (.bool false)], args := [d1, d2, d3] }
  | _ => none }
def ObsoleteMoreMarkersHideMoreWrongFalsely : Prop := obsoleteMoreMarkersHideMoreRow.holds Try.pinned (OpenSpec.ofChange obsoleteMoreMarkersHideMoreWrong)

/-- 'changeforgelaw4.ObsoleteVisibleMatchesSpec': WHATEVER THE INPUT: true; the input reads as it did. -/
def obsoleteVisibleMatchesSpecSpec : ChangeSpec := { name := "obsoleteVisibleMatchesSpec", fn := fun _ => fun
  | [d1, d2, d3] => { results := [.lit (.bool true)], args := [d1, d2, d3] }
  | _ => none }
def obsoleteVisibleMatchesSpecRow : OpenClaim := { program := "ytjpkgmmmmcgmeaa", sum := "c4ba4ab1a7c8bfd5776dd2cc99dfa8616bcc082ff5f41989b7f8d2010c89d58b", func := "changeforge/changeforgelaw4.ObsoleteVisibleMatchesSpec", spec := "obsoleteVisibleMatchesSpec", unfollowed := true, recurses := true, apart := false }
def ObsoleteVisibleMatchesSpecSaid : Prop := obsoleteVisibleMatchesSpecRow.holds Try.pinned (OpenSpec.ofChange obsoleteVisibleMatchesSpecSpec)

/-- ITS FALSE NEIGHBOUR: 'it returns false'. Refute it at one input. -/
def obsoleteVisibleMatchesSpecWrong : ChangeSpec := { name := "obsoleteVisibleMatchesSpec", fn := fun _ => fun
  | [d1, d2, d3] => { results := [.lit (.bool false)], args := [d1, d2, d3] }
  | _ => none }
def ObsoleteVisibleMatchesSpecWrongFalsely : Prop := obsoleteVisibleMatchesSpecRow.holds Try.pinned (OpenSpec.ofChange obsoleteVisibleMatchesSpecWrong)

/- THE SECOND FORM. 'bulk': how many values and letters a reading holds, each counted each time it is reached (what is shared counts as often as it is met; a slice's spare places count too). A statement '..UptoSaid' is the law's where the arguments, and the package variables that the reading takes, are together of bulk at most 1048576: NARROWER than '..Said'. Prove '..Said' where nothing that the law and all that it calls make is longer than what came in: it says more and counts as full. Else prove '..UptoSaid'. A law counts once. -/
mutual
def uptoBulk {H : Type} : DataW H → Nat
  | .lit (.string bytes) => bytes.length + 1
  | .lit _ => 1
  | .nil => 1
  | .ptr d => uptoBulk d + 1
  | .slice elems spare => uptoBulkAll elems + uptoBulkAll spare + 1
  | .agg parts => uptoBulkAll parts + 1
  | .iface _ d => uptoBulk d + 1
  | .map entries => uptoBulkEntries entries + 1
  | .held _ => 1
def uptoBulkAll {H : Type} : List (DataW H) → Nat
  | [] => 0
  | d :: r => uptoBulk d + uptoBulkAll r
def uptoBulkEntries {H : Type} : List (Lit × DataW H) → Nat
  | [] => 0
  | x :: r => uptoBulkEntry x + uptoBulkEntries r
def uptoBulkEntry {H : Type} : Lit × DataW H → Nat
  | (.string bytes, d) => bytes.length + uptoBulk d + 1
  | (_, d) => uptoBulk d + 1
 end
def uptoSmall : (H : Type) → List (DataW H) → Bool := fun _ ds => decide (uptoBulkAll ds ≤ 1048576)
def OpenSpec.upto (s : _root_.Go.ChangeSpec) : _root_.Go.OpenSpec := { _root_.Go.OpenSpec.ofChange s with cond := some uptoSmall }

/-- 'changeforgelaw4.ObsoleteMergeMatchesSpec', WHERE WHAT IT READS IS OF BULK AT MOST 1048576: true; the input reads as it did. -/
def obsoleteMergeMatchesSpecUptoRow : OpenClaim := { program := "ytjpkgmmmmcgmeaa", sum := "c4ba4ab1a7c8bfd5776dd2cc99dfa8616bcc082ff5f41989b7f8d2010c89d58b", func := "changeforge/changeforgelaw4.ObsoleteMergeMatchesSpec", spec := "obsoleteMergeMatchesSpec", unfollowed := true, recurses := true, apart := false, narrowed := true }
def ObsoleteMergeMatchesSpecUptoSaid : Prop := obsoleteMergeMatchesSpecUptoRow.holds Try.pinned (OpenSpec.upto obsoleteMergeMatchesSpecSpec)

/-- 'changeforgelaw4.ObsoleteMergeSemilattice', WHERE WHAT IT READS IS OF BULK AT MOST 1048576: true; the input reads as it did. -/
def obsoleteMergeSemilatticeUptoRow : OpenClaim := { program := "ytjpkgmmmmcgmeaa", sum := "c4ba4ab1a7c8bfd5776dd2cc99dfa8616bcc082ff5f41989b7f8d2010c89d58b", func := "changeforge/changeforgelaw4.ObsoleteMergeSemilattice", spec := "obsoleteMergeSemilattice", unfollowed := true, recurses := true, apart := false, narrowed := true }
def ObsoleteMergeSemilatticeUptoSaid : Prop := obsoleteMergeSemilatticeUptoRow.holds Try.pinned (OpenSpec.upto obsoleteMergeSemilatticeSpec)

/-- 'changeforgelaw4.ObsoleteSuccessorsMatchesSpec', WHERE WHAT IT READS IS OF BULK AT MOST 1048576: true; the input reads as it did. -/
def obsoleteSuccessorsMatchesSpecUptoRow : OpenClaim := { program := "ytjpkgmmmmcgmeaa", sum := "c4ba4ab1a7c8bfd5776dd2cc99dfa8616bcc082ff5f41989b7f8d2010c89d58b", func := "changeforge/changeforgelaw4.ObsoleteSuccessorsMatchesSpec", spec := "obsoleteSuccessorsMatchesSpec", unfollowed := true, recurses := true, apart := false, narrowed := true }
def ObsoleteSuccessorsMatchesSpecUptoSaid : Prop := obsoleteSuccessorsMatchesSpecUptoRow.holds Try.pinned (OpenSpec.upto obsoleteSuccessorsMatchesSpecSpec)

/-- 'changeforgelaw4.ObsoleteSuccessorsAreVisible', WHERE WHAT IT READS IS OF BULK AT MOST 1048576: true; the input reads as it did. -/
def obsoleteSuccessorsAreVisibleUptoRow : OpenClaim := { program := "ytjpkgmmmmcgmeaa", sum := "c4ba4ab1a7c8bfd5776dd2cc99dfa8616bcc082ff5f41989b7f8d2010c89d58b", func := "changeforge/changeforgelaw4.ObsoleteSuccessorsAreVisible", spec := "obsoleteSuccessorsAreVisible", unfollowed := true, recurses := true, apart := false, narrowed := true }
def ObsoleteSuccessorsAreVisibleUptoSaid : Prop := obsoleteSuccessorsAreVisibleUptoRow.holds Try.pinned (OpenSpec.upto obsoleteSuccessorsAreVisibleSpec)

/-- 'changeforgelaw4.ObsoleteMoreMarkersHideMore', WHERE WHAT IT READS IS OF BULK AT MOST 1048576: true; the input reads as it did. -/
def obsoleteMoreMarkersHideMoreUptoRow : OpenClaim := { program := "ytjpkgmmmmcgmeaa", sum := "c4ba4ab1a7c8bfd5776dd2cc99dfa8616bcc082ff5f41989b7f8d2010c89d58b", func := "changeforge/changeforgelaw4.ObsoleteMoreMarkersHideMore", spec := "obsoleteMoreMarkersHideMore", unfollowed := true, recurses := true, apart := false, narrowed := true }
def ObsoleteMoreMarkersHideMoreUptoSaid : Prop := obsoleteMoreMarkersHideMoreUptoRow.holds Try.pinned (OpenSpec.upto obsoleteMoreMarkersHideMoreSpec)

/-- 'changeforgelaw4.ObsoleteVisibleMatchesSpec', WHERE WHAT IT READS IS OF BULK AT MOST 1048576: true; the input reads as it did. -/
def obsoleteVisibleMatchesSpecUptoRow : OpenClaim := { program := "ytjpkgmmmmcgmeaa", sum := "c4ba4ab1a7c8bfd5776dd2cc99dfa8616bcc082ff5f41989b7f8d2010c89d58b", func := "changeforge/changeforgelaw4.ObsoleteVisibleMatchesSpec", spec := "obsoleteVisibleMatchesSpec", unfollowed := true, recurses := true, apart := false, narrowed := true }
def ObsoleteVisibleMatchesSpecUptoSaid : Prop := obsoleteVisibleMatchesSpecUptoRow.holds Try.pinned (OpenSpec.upto obsoleteVisibleMatchesSpecSpec)

end Rows
end Go.Proofs.Ytjpkgmmmmcgmeaa
