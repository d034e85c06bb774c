/-
  No cell of these rows narrows 'for every input' (looked for: loops, veiled, ifaces, maps, wideKeys, modest, calm, conditions, laid).
  DERIVED. THE GIVEN ROWS OF THIS SEAT. 5 by the template 'for every input the law returns true; each argument reads behind the call as it read before'; 0 by the template 'total and deterministic' (their statements: YthklbefnmcoojaaTotals.lean).
  GIVEN WITH THE SEED: the statements are not yours to turn. If you find one false, say at which input.
  Laid BY PROGRAM, IN A SANDBOX (cutbox-rows.mjs): the forced cells as the released guide's own fill.sh prints them over the translation 451668f1b0790567… (all of the seat's roots in one cut). By AI agents, Wed Nov 11 2026. No macro, syntax, notation, axiom, sorry.
-/
import Derived.Test.YthklbefnmcoojaaChecked
import GoSem.Claim
import GoSem.ClaimJoined
import GoSem.ClaimMapViews
import Derived.JoinedTies
import Derived.KernelRfl
namespace Go.Proofs.Ythklbefnmcoojaa
/- THE CELL 'sum', in the pinned program and in every row, IS THE sha256 OF THE DUMP (.gsa) THAT YthklbefnmcoojaaProg.lean LOADS. Nothing in Lean hashes anything: it is a label: what it is worth is what the hold of that sum in a sandbox is worth. -/
noncomputable def Try.pinned : Pinned := { name := "ythklbefnmcoojaa", sum := "451668f1b0790567314ed206987c3dff593a4d7f93be4ef724be491513c1b55d", checked := Try.checked }
namespace Rows
def none {H : Type} : Left H := { results := [], args := [] }

/-- 'changeforgelaw4.TransferRunMatchesSpec': WHATEVER THE INPUT: true; the input reads as it did. -/
def transferRunMatchesSpecSpec : ChangeSpec := { name := "transferRunMatchesSpec", fn := fun _ => fun
  | [d1, d2] => { results := [.lit (.bool true)], args := [d1, d2] }
  | _ => none }
def transferRunMatchesSpecRow : OpenClaim := { program := "ythklbefnmcoojaa", sum := "451668f1b0790567314ed206987c3dff593a4d7f93be4ef724be491513c1b55d", func := "changeforge/changeforgelaw4.TransferRunMatchesSpec", spec := "transferRunMatchesSpec", unfollowed := true, recurses := true, apart := false }
def TransferRunMatchesSpecSaid : Prop := transferRunMatchesSpecRow.holds Try.pinned (OpenSpec.ofChange transferRunMatchesSpecSpec)

/-- ITS FALSE NEIGHBOUR: 'it returns false'. Refute it at one input. -/
def transferRunMatchesSpecWrong : ChangeSpec := { name := "transferRunMatchesSpec", fn := fun _ => fun
  | [d1, d2] => { results := [.lit (.bool false)], args := [d1, d2] }
  | _ => none }
def TransferRunMatchesSpecWrongFalsely : Prop := transferRunMatchesSpecRow.holds Try.pinned (OpenSpec.ofChange transferRunMatchesSpecWrong)

/-- 'changeforgelaw4.TransferPlanMatchesSpec': WHATEVER THE INPUT: true; the input reads as it did. -/
def transferPlanMatchesSpecSpec : ChangeSpec := { name := "transferPlanMatchesSpec", fn := fun _ => fun
  | [d1, d2] => { results := [.lit (.bool true)], args := [d1, d2] }
  | _ => none }
def transferPlanMatchesSpecRow : OpenClaim := { program := "ythklbefnmcoojaa", sum := "451668f1b0790567314ed206987c3dff593a4d7f93be4ef724be491513c1b55d", func := "changeforge/changeforgelaw4.TransferPlanMatchesSpec", spec := "transferPlanMatchesSpec", unfollowed := true, recurses := true, apart := false }
def TransferPlanMatchesSpecSaid : Prop := transferPlanMatchesSpecRow.holds Try.pinned (OpenSpec.ofChange transferPlanMatchesSpecSpec)

/-- ITS FALSE NEIGHBOUR: 'it returns false'. Refute it at one input. -/
def transferPlanMatchesSpecWrong : ChangeSpec := { name := "transferPlanMatchesSpec", fn := fun _ => fun
  | [d1, d2] => { results := [.lit (.bool false)], args := [d1, d2] }
  | _ => none }
def TransferPlanMatchesSpecWrongFalsely : Prop := transferPlanMatchesSpecRow.holds Try.pinned (OpenSpec.ofChange transferPlanMatchesSpecWrong)

/-- 'changeforgelaw4.TransferPrefix': WHATEVER THE INPUT: true; the input reads as it did. -/
def transferPrefixSpec : ChangeSpec := { name := "transferPrefix", fn := fun _ => fun
  | [d1, d2] => { results := [.lit (.bool true)], args := [d1, d2] }
  | _ => none }
def transferPrefixRow : OpenClaim := { program := "ythklbefnmcoojaa", sum := "451668f1b0790567314ed206987c3dff593a4d7f93be4ef724be491513c1b55d", func := "changeforge/changeforgelaw4.TransferPrefix", spec := "transferPrefix", unfollowed := true, recurses := true, apart := false }
def TransferPrefixSaid : Prop := transferPrefixRow.holds Try.pinned (OpenSpec.ofChange transferPrefixSpec)

/-- ITS FALSE NEIGHBOUR: 'it returns false'. Refute it at one input. -/
def transferPrefixWrong : ChangeSpec := { name := "transferPrefix", fn := fun _ => fun
  | [d1, d2] => { results := [.lit (.bool false)], args := [d1, d2] }
  | _ => none }
def TransferPrefixWrongFalsely : Prop := transferPrefixRow.holds Try.pinned (OpenSpec.ofChange transferPrefixWrong)

/-- 'changeforgelaw4.TransferGrows': WHATEVER THE INPUT: true; the input reads as it did. -/
def transferGrowsSpec : ChangeSpec := { name := "transferGrows", fn := fun _ => fun
  | [d1, d2, d3] => { results := [.lit (.bool true)], args := [d1, d2, d3] }
  | _ => none }
def transferGrowsRow : OpenClaim := { program := "ythklbefnmcoojaa", sum := "451668f1b0790567314ed206987c3dff593a4d7f93be4ef724be491513c1b55d", func := "changeforge/changeforgelaw4.TransferGrows", spec := "transferGrows", unfollowed := true, recurses := true, apart := false }
def TransferGrowsSaid : Prop := transferGrowsRow.holds Try.pinned (OpenSpec.ofChange transferGrowsSpec)

/-- ITS FALSE NEIGHBOUR: 'it returns false'. Refute it at one input. -/
def transferGrowsWrong : ChangeSpec := { name := "transferGrows", fn := fun _ => fun
  | [d1, d2, d3] => { results := [.lit (.bool false)], args := [d1, d2, d3] }
  | _ => none }
def TransferGrowsWrongFalsely : Prop := transferGrowsRow.holds Try.pinned (OpenSpec.ofChange transferGrowsWrong)

/-- 'changeforgelaw4.TransferPlanDelivers': WHATEVER THE INPUT: true; the input reads as it did. -/
def transferPlanDeliversSpec : ChangeSpec := { name := "transferPlanDelivers", fn := fun _ => fun
  | [d1, d2] => { results := [.lit (.bool true)], args := [d1, d2] }
  | _ => none }
def transferPlanDeliversRow : OpenClaim := { program := "ythklbefnmcoojaa", sum := "451668f1b0790567314ed206987c3dff593a4d7f93be4ef724be491513c1b55d", func := "changeforge/changeforgelaw4.TransferPlanDelivers", spec := "transferPlanDelivers", unfollowed := true, recurses := true, apart := false }
def TransferPlanDeliversSaid : Prop := transferPlanDeliversRow.holds Try.pinned (OpenSpec.ofChange transferPlanDeliversSpec)

/-- ITS FALSE NEIGHBOUR: 'it returns false'. Refute it at one input. -/
def transferPlanDeliversWrong : ChangeSpec := { name := "transferPlanDelivers", fn := fun _ => fun
  | [d1, d2] => { results := [.lit (.bool false)], args := [d1, d2] }
  | _ => none }
def TransferPlanDeliversWrongFalsely : Prop := transferPlanDeliversRow.holds Try.pinned (OpenSpec.ofChange transferPlanDeliversWrong)

/- THE SECOND FORM. 'bulk': how many values and letters a reading holds, each counted each time it is reached (what is shared counts as often as it is met; a slice's spare places count too). A statement '..UptoSaid' is the law's where the arguments, and the package variables that the reading takes, are together of bulk at most 1048576: NARROWER than '..Said'. Prove '..Said' where nothing that the law and all that it calls make is longer than what came in: it says more and counts as full. Else prove '..UptoSaid'. A law counts once. -/
mutual
def uptoBulk {H : Type} : DataW H → Nat
  | .lit (.string bytes) => bytes.length + 1
  | .lit _ => 1
  | .nil => 1
  | .ptr d => uptoBulk d + 1
  | .slice elems spare => uptoBulkAll elems + uptoBulkAll spare + 1
  | .agg parts => uptoBulkAll parts + 1
  | .iface _ d => uptoBulk d + 1
  | .map entries => uptoBulkEntries entries + 1
  | .held _ => 1
def uptoBulkAll {H : Type} : List (DataW H) → Nat
  | [] => 0
  | d :: r => uptoBulk d + uptoBulkAll r
def uptoBulkEntries {H : Type} : List (Lit × DataW H) → Nat
  | [] => 0
  | x :: r => uptoBulkEntry x + uptoBulkEntries r
def uptoBulkEntry {H : Type} : Lit × DataW H → Nat
  | (.string bytes, d) => bytes.length + uptoBulk d + 1
  | (_, d) => uptoBulk d + 1
 end
def uptoSmall : (H : Type) → List (DataW H) → Bool := fun _ ds => decide (uptoBulkAll ds ≤ 1048576)
def OpenSpec.upto (s : _root_.Go.ChangeSpec) : _root_.Go.OpenSpec := { _root_.Go.OpenSpec.ofChange s with cond := some uptoSmall }

/-- 'changeforgelaw4.TransferRunMatchesSpec', WHERE WHAT IT READS IS OF BULK AT MOST 1048576: true; the input reads as it did. -/
def transferRunMatchesSpecUptoRow : OpenClaim := { program := "ythklbefnmcoojaa", sum := "451668f1b0790567314ed206987c3dff593a4d7f93be4ef724be491513c1b55d", func := "changeforge/changeforgelaw4.TransferRunMatchesSpec", spec := "transferRunMatchesSpec", unfollowed := true, recurses := true, apart := false, narrowed := true }
def TransferRunMatchesSpecUptoSaid : Prop := transferRunMatchesSpecUptoRow.holds Try.pinned (OpenSpec.upto transferRunMatchesSpecSpec)

/-- 'changeforgelaw4.TransferPlanMatchesSpec', WHERE WHAT IT READS IS OF BULK AT MOST 1048576: true; the input reads as it did. -/
def transferPlanMatchesSpecUptoRow : OpenClaim := { program := "ythklbefnmcoojaa", sum := "451668f1b0790567314ed206987c3dff593a4d7f93be4ef724be491513c1b55d", func := "changeforge/changeforgelaw4.TransferPlanMatchesSpec", spec := "transferPlanMatchesSpec", unfollowed := true, recurses := true, apart := false, narrowed := true }
def TransferPlanMatchesSpecUptoSaid : Prop := transferPlanMatchesSpecUptoRow.holds Try.pinned (OpenSpec.upto transferPlanMatchesSpecSpec)

/-- 'changeforgelaw4.TransferPrefix', WHERE WHAT IT READS IS OF BULK AT MOST 1048576: true; the input reads as it did. -/
def transferPrefixUptoRow : OpenClaim := { program := "ythklbefnmcoojaa", sum := "451668f1b0790567314ed206987c3dff593a4d7f93be4ef724be491513c1b55d", func := "changeforge/changeforgelaw4.TransferPrefix", spec := "transferPrefix", unfollowed := true, recurses := true, apart := false, narrowed := true }
def TransferPrefixUptoSaid : Prop := transferPrefixUptoRow.holds Try.pinned (OpenSpec.upto transferPrefixSpec)

/-- 'changeforgelaw4.TransferGrows', WHERE WHAT IT READS IS OF BULK AT MOST 1048576: true; the input reads as it did. -/
def transferGrowsUptoRow : OpenClaim := { program := "ythklbefnmcoojaa", sum := "451668f1b0790567314ed206987c3dff593a4d7f93be4ef724be491513c1b55d", func := "changeforge/changeforgelaw4.TransferGrows", spec := "transferGrows", unfollowed := true, recurses := true, apart := false, narrowed := true }
def TransferGrowsUptoSaid : Prop := transferGrowsUptoRow.holds Try.pinned (OpenSpec.upto transferGrowsSpec)

/-- 'changeforgelaw4.TransferPlanDelivers', WHERE WHAT IT READS IS OF BULK AT MOST 1048576: true; the input reads as it did. -/
def transferPlanDeliversUptoRow : OpenClaim := { program := "ythklbefnmcoojaa", sum := "451668f1b0790567314ed206987c3dff593a4d7f93be4ef724be491513c1b55d", func := "changeforge/changeforgelaw4.TransferPlanDelivers", spec := "transferPlanDelivers", unfollowed := true, recurses := true, apart := false, narrowed := true }
def TransferPlanDeliversUptoSaid : Prop := transferPlanDeliversUptoRow.holds Try.pinned (OpenSpec.upto transferPlanDeliversSpec)

end Rows
end Go.Proofs.Ythklbefnmcoojaa
