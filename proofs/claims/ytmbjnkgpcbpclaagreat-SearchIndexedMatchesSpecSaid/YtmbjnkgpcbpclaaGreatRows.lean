/-
  No cell of these rows narrows 'for every input' (looked for: loops, veiled, ifaces, maps, wideKeys, modest, calm, conditions, laid).
  DERIVED. THE GIVEN ROWS OF THIS SEAT. 6 by the template 'for every input the law returns true; each argument reads behind the call as it read before'; 0 by the template 'total and deterministic' (their statements: YtmbjnkgpcbpclaaGreatTotals.lean).
  GIVEN WITH THE SEED: the statements are not yours to turn. If you find one false, say at which input.
  Laid BY PROGRAM, IN A SANDBOX (cutbox-rows.mjs): the forced cells as the released guide's own fill.sh prints them over the translation 2fc8821b2ef40080… (all of the seat's roots in one cut). By AI agents, Wed Nov 11 2026. No macro, syntax, notation, axiom, sorry.
-/
import Derived.Test.YtmbjnkgpcbpclaaGreatChecked
import GoSem.Claim
import GoSem.ClaimJoined
import GoSem.ClaimMapViews
import Derived.JoinedTies
import Derived.KernelRfl
namespace Go.Proofs.YtmbjnkgpcbpclaaGreat
/- THE CELL 'sum', in the pinned program and in every row, IS THE sha256 OF THE DUMP (.gsa) THAT YtmbjnkgpcbpclaaGreatProg.lean LOADS. Nothing in Lean hashes anything: it is a label: what it is worth is what the hold of that sum in a sandbox is worth. -/
noncomputable def Tryz.pinned : Pinned := { name := "ytmbjnkgpcbpclaagreat", sum := "2fc8821b2ef400808f115cd133432b7b95b84e9e5105b4a00240ce0e9b00b6dd", checked := Tryz.checked }
namespace Rows
def none {H : Type} : Left H := { results := [], args := [] }

/-- 'changeforgelaw4.SearchFindMatchesSpec': WHATEVER THE INPUT: true; the input reads as it did. -/
def searchFindMatchesSpecSpec : ChangeSpec := { name := "searchFindMatchesSpec", fn := fun _ => fun
  | [d1, d2] => { results := [.lit (.bool true)], args := [d1, d2] }
  | _ => none }
def searchFindMatchesSpecRow : OpenClaim := { program := "ytmbjnkgpcbpclaagreat", sum := "2fc8821b2ef400808f115cd133432b7b95b84e9e5105b4a00240ce0e9b00b6dd", func := "changeforge/changeforgelaw4.SearchFindMatchesSpec", spec := "searchFindMatchesSpec", inPlace := ["internal/abi.NoEscape", "internal/bytealg.IndexByteString", "internal/bytealg.IndexString", "slices.overlaps[int]", "internal/bytealg.abigen_runtime_cmpstring", "slices.overlaps[changeforge/api.Posting]", "sync/atomic.LoadUint32", "(*internal/sync.Mutex).Lock", "internal/race.Disable", "sync/atomic.CompareAndSwapInt32", "internal/race.Enable", "internal/race.Acquire", "(*internal/sync.Mutex).lockSlow", "internal/sync.runtime_canSpin", "internal/sync.runtime_doSpin", "internal/sync.throw", "internal/sync.runtime_nanotime", "internal/sync.runtime_SemacquireMutex", "sync/atomic.AddInt32", "(*internal/sync.Mutex).Unlock", "internal/race.ReleaseMerge", "(*internal/sync.Mutex).unlockSlow", "internal/sync.fatal", "internal/sync.runtime_Semrelease", "sync/atomic.StoreUint32"], unfollowed := true, recurses := true, named := ["internal/bytealg.MaxLen"], apart := false }
def SearchFindMatchesSpecSaid : Prop := searchFindMatchesSpecRow.holds Tryz.pinned (OpenSpec.ofChange searchFindMatchesSpecSpec)

/-- ITS FALSE NEIGHBOUR: 'it returns false'. Refute it at one input. -/
def searchFindMatchesSpecWrong : ChangeSpec := { name := "searchFindMatchesSpec", fn := fun _ => fun
  | [d1, d2] => { results := [.lit (.bool false)], args := [d1, d2] }
  | _ => none }
def SearchFindMatchesSpecWrongFalsely : Prop := searchFindMatchesSpecRow.holds Tryz.pinned (OpenSpec.ofChange searchFindMatchesSpecWrong)

/-- 'changeforgelaw4.SearchParseMatchesSpec': WHATEVER THE INPUT: true; the input reads as it did. -/
def searchParseMatchesSpecSpec : ChangeSpec := { name := "searchParseMatchesSpec", fn := fun _ => fun
  | [d] => { results := [.lit (.bool true)], args := [d] }
  | _ => none }
def searchParseMatchesSpecRow : OpenClaim := { program := "ytmbjnkgpcbpclaagreat", sum := "2fc8821b2ef400808f115cd133432b7b95b84e9e5105b4a00240ce0e9b00b6dd", func := "changeforge/changeforgelaw4.SearchParseMatchesSpec", spec := "searchParseMatchesSpec", inPlace := ["internal/abi.NoEscape", "internal/bytealg.IndexByteString", "internal/bytealg.IndexString", "slices.overlaps[int]", "internal/bytealg.abigen_runtime_cmpstring", "slices.overlaps[changeforge/api.Posting]", "sync/atomic.LoadUint32", "(*internal/sync.Mutex).Lock", "internal/race.Disable", "sync/atomic.CompareAndSwapInt32", "internal/race.Enable", "internal/race.Acquire", "(*internal/sync.Mutex).lockSlow", "internal/sync.runtime_canSpin", "internal/sync.runtime_doSpin", "internal/sync.throw", "internal/sync.runtime_nanotime", "internal/sync.runtime_SemacquireMutex", "sync/atomic.AddInt32", "(*internal/sync.Mutex).Unlock", "internal/race.ReleaseMerge", "(*internal/sync.Mutex).unlockSlow", "internal/sync.fatal", "internal/sync.runtime_Semrelease", "sync/atomic.StoreUint32"], unfollowed := true, recurses := true, named := ["internal/bytealg.MaxLen"], apart := false }
def SearchParseMatchesSpecSaid : Prop := searchParseMatchesSpecRow.holds Tryz.pinned (OpenSpec.ofChange searchParseMatchesSpecSpec)

/-- ITS FALSE NEIGHBOUR: 'it returns false'. Refute it at one input. -/
def searchParseMatchesSpecWrong : ChangeSpec := { name := "searchParseMatchesSpec", fn := fun _ => fun
  | [d] => { results := [.lit (.bool false)], args := [d] }
  | _ => none }
def SearchParseMatchesSpecWrongFalsely : Prop := searchParseMatchesSpecRow.holds Tryz.pinned (OpenSpec.ofChange searchParseMatchesSpecWrong)

/-- 'changeforgelaw4.SearchRoundTrip': WHATEVER THE INPUT: true; the input reads as it did. -/
def searchRoundTripSpec : ChangeSpec := { name := "searchRoundTrip", fn := fun _ => fun
  | [d] => { results := [.lit (.bool true)], args := [d] }
  | _ => none }
def searchRoundTripRow : OpenClaim := { program := "ytmbjnkgpcbpclaagreat", sum := "2fc8821b2ef400808f115cd133432b7b95b84e9e5105b4a00240ce0e9b00b6dd", func := "changeforge/changeforgelaw4.SearchRoundTrip", spec := "searchRoundTrip", inPlace := ["internal/abi.NoEscape", "internal/bytealg.IndexByteString", "internal/bytealg.IndexString", "slices.overlaps[int]", "internal/bytealg.abigen_runtime_cmpstring", "slices.overlaps[changeforge/api.Posting]", "sync/atomic.LoadUint32", "(*internal/sync.Mutex).Lock", "internal/race.Disable", "sync/atomic.CompareAndSwapInt32", "internal/race.Enable", "internal/race.Acquire", "(*internal/sync.Mutex).lockSlow", "internal/sync.runtime_canSpin", "internal/sync.runtime_doSpin", "internal/sync.throw", "internal/sync.runtime_nanotime", "internal/sync.runtime_SemacquireMutex", "sync/atomic.AddInt32", "(*internal/sync.Mutex).Unlock", "internal/race.ReleaseMerge", "(*internal/sync.Mutex).unlockSlow", "internal/sync.fatal", "internal/sync.runtime_Semrelease", "sync/atomic.StoreUint32"], unfollowed := true, recurses := true, named := ["internal/bytealg.MaxLen"], apart := false }
def SearchRoundTripSaid : Prop := searchRoundTripRow.holds Tryz.pinned (OpenSpec.ofChange searchRoundTripSpec)

/-- ITS FALSE NEIGHBOUR: 'it returns false'. Refute it at one input. -/
def searchRoundTripWrong : ChangeSpec := { name := "searchRoundTrip", fn := fun _ => fun
  | [d] => { results := [.lit (.bool false)], args := [d] }
  | _ => none }
def SearchRoundTripWrongFalsely : Prop := searchRoundTripRow.holds Tryz.pinned (OpenSpec.ofChange searchRoundTripWrong)

/-- 'changeforgelaw4.SearchCandidatesMatchesSpec': WHATEVER THE INPUT: true; the input reads as it did. -/
def searchCandidatesMatchesSpecSpec : ChangeSpec := { name := "searchCandidatesMatchesSpec", fn := fun _ => fun
  | [d1, d2] => { results := [.lit (.bool true)], args := [d1, d2] }
  | _ => none }
def searchCandidatesMatchesSpecRow : OpenClaim := { program := "ytmbjnkgpcbpclaagreat", sum := "2fc8821b2ef400808f115cd133432b7b95b84e9e5105b4a00240ce0e9b00b6dd", func := "changeforge/changeforgelaw4.SearchCandidatesMatchesSpec", spec := "searchCandidatesMatchesSpec", inPlace := ["internal/abi.NoEscape", "internal/bytealg.IndexByteString", "internal/bytealg.IndexString", "slices.overlaps[int]", "internal/bytealg.abigen_runtime_cmpstring", "slices.overlaps[changeforge/api.Posting]", "sync/atomic.LoadUint32", "(*internal/sync.Mutex).Lock", "internal/race.Disable", "sync/atomic.CompareAndSwapInt32", "internal/race.Enable", "internal/race.Acquire", "(*internal/sync.Mutex).lockSlow", "internal/sync.runtime_canSpin", "internal/sync.runtime_doSpin", "internal/sync.throw", "internal/sync.runtime_nanotime", "internal/sync.runtime_SemacquireMutex", "sync/atomic.AddInt32", "(*internal/sync.Mutex).Unlock", "internal/race.ReleaseMerge", "(*internal/sync.Mutex).unlockSlow", "internal/sync.fatal", "internal/sync.runtime_Semrelease", "sync/atomic.StoreUint32"], unfollowed := true, recurses := true, named := ["internal/bytealg.MaxLen"], apart := false }
def SearchCandidatesMatchesSpecSaid : Prop := searchCandidatesMatchesSpecRow.holds Tryz.pinned (OpenSpec.ofChange searchCandidatesMatchesSpecSpec)

/-- ITS FALSE NEIGHBOUR: 'it returns false'. Refute it at one input. -/
def searchCandidatesMatchesSpecWrong : ChangeSpec := { name := "searchCandidatesMatchesSpec", fn := fun _ => fun
  | [d1, d2] => { results := [.lit (.bool false)], args := [d1, d2] }
  | _ => none }
def SearchCandidatesMatchesSpecWrongFalsely : Prop := searchCandidatesMatchesSpecRow.holds Tryz.pinned (OpenSpec.ofChange searchCandidatesMatchesSpecWrong)

/-- 'changeforgelaw4.SearchComplement': WHATEVER THE INPUT: true; the input reads as it did. -/
def searchComplementSpec : ChangeSpec := { name := "searchComplement", fn := fun _ => fun
  | [d1, d2] => { results := [.lit (.bool true)], args := [d1, d2] }
  | _ => none }
def searchComplementRow : OpenClaim := { program := "ytmbjnkgpcbpclaagreat", sum := "2fc8821b2ef400808f115cd133432b7b95b84e9e5105b4a00240ce0e9b00b6dd", func := "changeforge/changeforgelaw4.SearchComplement", spec := "searchComplement", inPlace := ["internal/abi.NoEscape", "internal/bytealg.IndexByteString", "internal/bytealg.IndexString", "slices.overlaps[int]", "internal/bytealg.abigen_runtime_cmpstring", "slices.overlaps[changeforge/api.Posting]", "sync/atomic.LoadUint32", "(*internal/sync.Mutex).Lock", "internal/race.Disable", "sync/atomic.CompareAndSwapInt32", "internal/race.Enable", "internal/race.Acquire", "(*internal/sync.Mutex).lockSlow", "internal/sync.runtime_canSpin", "internal/sync.runtime_doSpin", "internal/sync.throw", "internal/sync.runtime_nanotime", "internal/sync.runtime_SemacquireMutex", "sync/atomic.AddInt32", "(*internal/sync.Mutex).Unlock", "internal/race.ReleaseMerge", "(*internal/sync.Mutex).unlockSlow", "internal/sync.fatal", "internal/sync.runtime_Semrelease", "sync/atomic.StoreUint32"], unfollowed := true, recurses := true, named := ["internal/bytealg.MaxLen"], apart := false }
def SearchComplementSaid : Prop := searchComplementRow.holds Tryz.pinned (OpenSpec.ofChange searchComplementSpec)

/-- ITS FALSE NEIGHBOUR: 'it returns false'. Refute it at one input. -/
def searchComplementWrong : ChangeSpec := { name := "searchComplement", fn := fun _ => fun
  | [d1, d2] => { results := [.lit (.bool false)], args := [d1, d2] }
  | _ => none }
def SearchComplementWrongFalsely : Prop := searchComplementRow.holds Tryz.pinned (OpenSpec.ofChange searchComplementWrong)

/-- 'changeforgelaw4.SearchIndexedMatchesSpec': WHATEVER THE INPUT: true; the input reads as it did. -/
def searchIndexedMatchesSpecSpec : ChangeSpec := { name := "searchIndexedMatchesSpec", fn := fun _ => fun
  | [d1, d2, d3] => { results := [.lit (.bool true)], args := [d1, d2, d3] }
  | _ => none }
def searchIndexedMatchesSpecRow : OpenClaim := { program := "ytmbjnkgpcbpclaagreat", sum := "2fc8821b2ef400808f115cd133432b7b95b84e9e5105b4a00240ce0e9b00b6dd", func := "changeforge/changeforgelaw4.SearchIndexedMatchesSpec", spec := "searchIndexedMatchesSpec", inPlace := ["internal/abi.NoEscape", "internal/bytealg.IndexByteString", "internal/bytealg.IndexString", "slices.overlaps[int]", "internal/bytealg.abigen_runtime_cmpstring", "slices.overlaps[changeforge/api.Posting]", "sync/atomic.LoadUint32", "(*internal/sync.Mutex).Lock", "internal/race.Disable", "sync/atomic.CompareAndSwapInt32", "internal/race.Enable", "internal/race.Acquire", "(*internal/sync.Mutex).lockSlow", "internal/sync.runtime_canSpin", "internal/sync.runtime_doSpin", "internal/sync.throw", "internal/sync.runtime_nanotime", "internal/sync.runtime_SemacquireMutex", "sync/atomic.AddInt32", "(*internal/sync.Mutex).Unlock", "internal/race.ReleaseMerge", "(*internal/sync.Mutex).unlockSlow", "internal/sync.fatal", "internal/sync.runtime_Semrelease", "sync/atomic.StoreUint32"], unfollowed := true, recurses := true, named := ["internal/bytealg.MaxLen"], apart := false }
def SearchIndexedMatchesSpecSaid : Prop := searchIndexedMatchesSpecRow.holds Tryz.pinned (OpenSpec.ofChange searchIndexedMatchesSpecSpec)

/-- ITS FALSE NEIGHBOUR: 'it returns false'. Refute it at one input. -/
def searchIndexedMatchesSpecWrong : ChangeSpec := { name := "searchIndexedMatchesSpec", fn := fun _ => fun
  | [d1, d2, d3] => { results := [.lit (.bool false)], args := [d1, d2, d3] }
  | _ => none }
def SearchIndexedMatchesSpecWrongFalsely : Prop := searchIndexedMatchesSpecRow.holds Tryz.pinned (OpenSpec.ofChange searchIndexedMatchesSpecWrong)

/- THE SECOND FORM. 'bulk': how many values and letters a reading holds, each counted each time it is reached (what is shared counts as often as it is met; a slice's spare places count too). A statement '..UptoSaid' is the law's where the arguments, and the package variables that the reading takes, are together of bulk at most 1048576: NARROWER than '..Said'. Prove '..Said' where nothing that the law and all that it calls make is longer than what came in: it says more and counts as full. Else prove '..UptoSaid'. A law counts once. -/
mutual
def uptoBulk {H : Type} : DataW H → Nat
  | .lit (.string bytes) => bytes.length + 1
  | .lit _ => 1
  | .nil => 1
  | .ptr d => uptoBulk d + 1
  | .slice elems spare => uptoBulkAll elems + uptoBulkAll spare + 1
  | .agg parts => uptoBulkAll parts + 1
  | .iface _ d => uptoBulk d + 1
  | .map entries => uptoBulkEntries entries + 1
  | .held _ => 1
def uptoBulkAll {H : Type} : List (DataW H) → Nat
  | [] => 0
  | d :: r => uptoBulk d + uptoBulkAll r
def uptoBulkEntries {H : Type} : List (Lit × DataW H) → Nat
  | [] => 0
  | x :: r => uptoBulkEntry x + uptoBulkEntries r
def uptoBulkEntry {H : Type} : Lit × DataW H → Nat
  | (.string bytes, d) => bytes.length + uptoBulk d + 1
  | (_, d) => uptoBulk d + 1
 end
def uptoSmall : (H : Type) → List (DataW H) → Bool := fun _ ds => decide (uptoBulkAll ds ≤ 1048576)
def OpenSpec.upto (s : _root_.Go.ChangeSpec) : _root_.Go.OpenSpec := { _root_.Go.OpenSpec.ofChange s with cond := some uptoSmall }

/-- 'changeforgelaw4.SearchFindMatchesSpec', WHERE WHAT IT READS IS OF BULK AT MOST 1048576: true; the input reads as it did. -/
def searchFindMatchesSpecUptoRow : OpenClaim := { program := "ytmbjnkgpcbpclaagreat", sum := "2fc8821b2ef400808f115cd133432b7b95b84e9e5105b4a00240ce0e9b00b6dd", func := "changeforge/changeforgelaw4.SearchFindMatchesSpec", spec := "searchFindMatchesSpec", inPlace := ["internal/abi.NoEscape", "internal/bytealg.IndexByteString", "internal/bytealg.IndexString", "slices.overlaps[int]", "internal/bytealg.abigen_runtime_cmpstring", "slices.overlaps[changeforge/api.Posting]", "sync/atomic.LoadUint32", "(*internal/sync.Mutex).Lock", "internal/race.Disable", "sync/atomic.CompareAndSwapInt32", "internal/race.Enable", "internal/race.Acquire", "(*internal/sync.Mutex).lockSlow", "internal/sync.runtime_canSpin", "internal/sync.runtime_doSpin", "internal/sync.throw", "internal/sync.runtime_nanotime", "internal/sync.runtime_SemacquireMutex", "sync/atomic.AddInt32", "(*internal/sync.Mutex).Unlock", "internal/race.ReleaseMerge", "(*internal/sync.Mutex).unlockSlow", "internal/sync.fatal", "internal/sync.runtime_Semrelease", "sync/atomic.StoreUint32"], unfollowed := true, recurses := true, named := ["internal/bytealg.MaxLen"], apart := false, narrowed := true }
def SearchFindMatchesSpecUptoSaid : Prop := searchFindMatchesSpecUptoRow.holds Tryz.pinned (OpenSpec.upto searchFindMatchesSpecSpec)

/-- 'changeforgelaw4.SearchParseMatchesSpec', WHERE WHAT IT READS IS OF BULK AT MOST 1048576: true; the input reads as it did. -/
def searchParseMatchesSpecUptoRow : OpenClaim := { program := "ytmbjnkgpcbpclaagreat", sum := "2fc8821b2ef400808f115cd133432b7b95b84e9e5105b4a00240ce0e9b00b6dd", func := "changeforge/changeforgelaw4.SearchParseMatchesSpec", spec := "searchParseMatchesSpec", inPlace := ["internal/abi.NoEscape", "internal/bytealg.IndexByteString", "internal/bytealg.IndexString", "slices.overlaps[int]", "internal/bytealg.abigen_runtime_cmpstring", "slices.overlaps[changeforge/api.Posting]", "sync/atomic.LoadUint32", "(*internal/sync.Mutex).Lock", "internal/race.Disable", "sync/atomic.CompareAndSwapInt32", "internal/race.Enable", "internal/race.Acquire", "(*internal/sync.Mutex).lockSlow", "internal/sync.runtime_canSpin", "internal/sync.runtime_doSpin", "internal/sync.throw", "internal/sync.runtime_nanotime", "internal/sync.runtime_SemacquireMutex", "sync/atomic.AddInt32", "(*internal/sync.Mutex).Unlock", "internal/race.ReleaseMerge", "(*internal/sync.Mutex).unlockSlow", "internal/sync.fatal", "internal/sync.runtime_Semrelease", "sync/atomic.StoreUint32"], unfollowed := true, recurses := true, named := ["internal/bytealg.MaxLen"], apart := false, narrowed := true }
def SearchParseMatchesSpecUptoSaid : Prop := searchParseMatchesSpecUptoRow.holds Tryz.pinned (OpenSpec.upto searchParseMatchesSpecSpec)

/-- 'changeforgelaw4.SearchRoundTrip', WHERE WHAT IT READS IS OF BULK AT MOST 1048576: true; the input reads as it did. -/
def searchRoundTripUptoRow : OpenClaim := { program := "ytmbjnkgpcbpclaagreat", sum := "2fc8821b2ef400808f115cd133432b7b95b84e9e5105b4a00240ce0e9b00b6dd", func := "changeforge/changeforgelaw4.SearchRoundTrip", spec := "searchRoundTrip", inPlace := ["internal/abi.NoEscape", "internal/bytealg.IndexByteString", "internal/bytealg.IndexString", "slices.overlaps[int]", "internal/bytealg.abigen_runtime_cmpstring", "slices.overlaps[changeforge/api.Posting]", "sync/atomic.LoadUint32", "(*internal/sync.Mutex).Lock", "internal/race.Disable", "sync/atomic.CompareAndSwapInt32", "internal/race.Enable", "internal/race.Acquire", "(*internal/sync.Mutex).lockSlow", "internal/sync.runtime_canSpin", "internal/sync.runtime_doSpin", "internal/sync.throw", "internal/sync.runtime_nanotime", "internal/sync.runtime_SemacquireMutex", "sync/atomic.AddInt32", "(*internal/sync.Mutex).Unlock", "internal/race.ReleaseMerge", "(*internal/sync.Mutex).unlockSlow", "internal/sync.fatal", "internal/sync.runtime_Semrelease", "sync/atomic.StoreUint32"], unfollowed := true, recurses := true, named := ["internal/bytealg.MaxLen"], apart := false, narrowed := true }
def SearchRoundTripUptoSaid : Prop := searchRoundTripUptoRow.holds Tryz.pinned (OpenSpec.upto searchRoundTripSpec)

/-- 'changeforgelaw4.SearchCandidatesMatchesSpec', WHERE WHAT IT READS IS OF BULK AT MOST 1048576: true; the input reads as it did. -/
def searchCandidatesMatchesSpecUptoRow : OpenClaim := { program := "ytmbjnkgpcbpclaagreat", sum := "2fc8821b2ef400808f115cd133432b7b95b84e9e5105b4a00240ce0e9b00b6dd", func := "changeforge/changeforgelaw4.SearchCandidatesMatchesSpec", spec := "searchCandidatesMatchesSpec", inPlace := ["internal/abi.NoEscape", "internal/bytealg.IndexByteString", "internal/bytealg.IndexString", "slices.overlaps[int]", "internal/bytealg.abigen_runtime_cmpstring", "slices.overlaps[changeforge/api.Posting]", "sync/atomic.LoadUint32", "(*internal/sync.Mutex).Lock", "internal/race.Disable", "sync/atomic.CompareAndSwapInt32", "internal/race.Enable", "internal/race.Acquire", "(*internal/sync.Mutex).lockSlow", "internal/sync.runtime_canSpin", "internal/sync.runtime_doSpin", "internal/sync.throw", "internal/sync.runtime_nanotime", "internal/sync.runtime_SemacquireMutex", "sync/atomic.AddInt32", "(*internal/sync.Mutex).Unlock", "internal/race.ReleaseMerge", "(*internal/sync.Mutex).unlockSlow", "internal/sync.fatal", "internal/sync.runtime_Semrelease", "sync/atomic.StoreUint32"], unfollowed := true, recurses := true, named := ["internal/bytealg.MaxLen"], apart := false, narrowed := true }
def SearchCandidatesMatchesSpecUptoSaid : Prop := searchCandidatesMatchesSpecUptoRow.holds Tryz.pinned (OpenSpec.upto searchCandidatesMatchesSpecSpec)

/-- 'changeforgelaw4.SearchComplement', WHERE WHAT IT READS IS OF BULK AT MOST 1048576: true; the input reads as it did. -/
def searchComplementUptoRow : OpenClaim := { program := "ytmbjnkgpcbpclaagreat", sum := "2fc8821b2ef400808f115cd133432b7b95b84e9e5105b4a00240ce0e9b00b6dd", func := "changeforge/changeforgelaw4.SearchComplement", spec := "searchComplement", inPlace := ["internal/abi.NoEscape", "internal/bytealg.IndexByteString", "internal/bytealg.IndexString", "slices.overlaps[int]", "internal/bytealg.abigen_runtime_cmpstring", "slices.overlaps[changeforge/api.Posting]", "sync/atomic.LoadUint32", "(*internal/sync.Mutex).Lock", "internal/race.Disable", "sync/atomic.CompareAndSwapInt32", "internal/race.Enable", "internal/race.Acquire", "(*internal/sync.Mutex).lockSlow", "internal/sync.runtime_canSpin", "internal/sync.runtime_doSpin", "internal/sync.throw", "internal/sync.runtime_nanotime", "internal/sync.runtime_SemacquireMutex", "sync/atomic.AddInt32", "(*internal/sync.Mutex).Unlock", "internal/race.ReleaseMerge", "(*internal/sync.Mutex).unlockSlow", "internal/sync.fatal", "internal/sync.runtime_Semrelease", "sync/atomic.StoreUint32"], unfollowed := true, recurses := true, named := ["internal/bytealg.MaxLen"], apart := false, narrowed := true }
def SearchComplementUptoSaid : Prop := searchComplementUptoRow.holds Tryz.pinned (OpenSpec.upto searchComplementSpec)

/-- 'changeforgelaw4.SearchIndexedMatchesSpec', WHERE WHAT IT READS IS OF BULK AT MOST 1048576: true; the input reads as it did. -/
def searchIndexedMatchesSpecUptoRow : OpenClaim := { program := "ytmbjnkgpcbpclaagreat", sum := "2fc8821b2ef400808f115cd133432b7b95b84e9e5105b4a00240ce0e9b00b6dd", func := "changeforge/changeforgelaw4.SearchIndexedMatchesSpec", spec := "searchIndexedMatchesSpec", inPlace := ["internal/abi.NoEscape", "internal/bytealg.IndexByteString", "internal/bytealg.IndexString", "slices.overlaps[int]", "internal/bytealg.abigen_runtime_cmpstring", "slices.overlaps[changeforge/api.Posting]", "sync/atomic.LoadUint32", "(*internal/sync.Mutex).Lock", "internal/race.Disable", "sync/atomic.CompareAndSwapInt32", "internal/race.Enable", "internal/race.Acquire", "(*internal/sync.Mutex).lockSlow", "internal/sync.runtime_canSpin", "internal/sync.runtime_doSpin", "internal/sync.throw", "internal/sync.runtime_nanotime", "internal/sync.runtime_SemacquireMutex", "sync/atomic.AddInt32", "(*internal/sync.Mutex).Unlock", "internal/race.ReleaseMerge", "(*internal/sync.Mutex).unlockSlow", "internal/sync.fatal", "internal/sync.runtime_Semrelease", "sync/atomic.StoreUint32"], unfollowed := true, recurses := true, named := ["internal/bytealg.MaxLen"], apart := false, narrowed := true }
def SearchIndexedMatchesSpecUptoSaid : Prop := searchIndexedMatchesSpecUptoRow.holds Tryz.pinned (OpenSpec.upto searchIndexedMatchesSpecSpec)

end Rows
end Go.Proofs.YtmbjnkgpcbpclaaGreat
