/-
  NARROWER THAN 'FOR EVERY INPUT', by the rows' own cells (each row's printed sentence says how): RevoptMatchesSpec: laid · RevoptNeverWorse: laid · RevoptIdempotent: laid · RevoptEqualOperands: laid · RevsetEvalMatchesSpec: laid · RevsetParseMatchesSpec: laid · RevsetFormatMatchesSpec: laid · RevsetRoundTrip: laid · RevsetDeMorgan: laid · RevsetHeadsGenerate: laid · RevoptSameResult: laid.
  DERIVED. THE GIVEN ROWS OF THIS SEAT. 11 by the template 'for every input the law returns true; each argument reads behind the call as it read before'; 0 by the template 'total and deterministic' (their statements: YtlbjffdaooadoaaDoorTotals.lean).
  GIVEN WITH THE SEED: the statements are not yours to turn. If you find one false, say at which input.
  Laid BY PROGRAM, IN A SANDBOX (cutbox-rows.mjs): the forced cells as the released guide's own fill.sh prints them over the translation b43c47928dbb059a… (all of the seat's roots in one cut). By AI agents, Wed Nov 11 2026. No macro, syntax, notation, axiom, sorry.
-/
import Derived.Test.YtlbjffdaooadoaaDoorChecked
import GoSem.Claim
import GoSem.ClaimJoined
import GoSem.ClaimMapViews
import Derived.JoinedTies
import Derived.KernelRfl
namespace Go.Proofs.YtlbjffdaooadoaaDoor
/- THE CELL 'sum', in the pinned program and in every row, IS THE sha256 OF THE DUMP (.gsa) THAT YtlbjffdaooadoaaDoorProg.lean LOADS. Nothing in Lean hashes anything: it is a label: what it is worth is what the hold of that sum in a sandbox is worth. -/
noncomputable def Tryd.pinned : Pinned := { name := "ytlbjffdaooadoaadoor", sum := "b43c47928dbb059af4ac94b4a0f8e8d06177806dae3232a22661e5c54269974f", checked := Tryd.checked }
namespace Rows
def none {H : Type} : Left H := { results := [], args := [] }

/- WHAT THE LISTED PACKAGE-LEVEL VARIABLES READ AS WHEN THE CALL BEGINS. Each datum BY PROGRAM (the guide's laid-datum.mjs) off the statement by which the dump's own 'gosem.cut.vars' lays the variable. In a bare row this is a premise. The card (YtlbjffdaooadoaaDoorCards.lean) ties it to the program's text. -/
def laid_math_bits_deBruijn32tab {H : Type} : DataW H := .agg [.lit (.int .u8 0), .lit (.int .u8 1), .lit (.int .u8 28), .lit (.int .u8 2), .lit (.int .u8 29), .lit (.int .u8 14), .lit (.int .u8 24), .lit (.int .u8 3), .lit (.int .u8 30), .lit (.int .u8 22), .lit (.int .u8 20), .lit (.int .u8 15), .lit (.int .u8 25), .lit (.int .u8 17), .lit (.int .u8 4), .lit (.int .u8 8), .lit (.int .u8 31), .lit (.int .u8 27), .lit (.int .u8 13), .lit (.int .u8 23), .lit (.int .u8 21), .lit (.int .u8 19), .lit (.int .u8 16), .lit (.int .u8 7), .lit (.int .u8 26), .lit (.int .u8 12), .lit (.int .u8 18), .lit (.int .u8 6), .lit (.int .u8 11), .lit (.int .u8 5), .lit (.int .u8 10), .lit (.int .u8 9)]
def laid_math_bits_deBruijn64tab {H : Type} : DataW H := .agg [.lit (.int .u8 0), .lit (.int .u8 1), .lit (.int .u8 56), .lit (.int .u8 2), .lit (.int .u8 57), .lit (.int .u8 49), .lit (.int .u8 28), .lit (.int .u8 3), .lit (.int .u8 61), .lit (.int .u8 58), .lit (.int .u8 42), .lit (.int .u8 50), .lit (.int .u8 38), .lit (.int .u8 29), .lit (.int .u8 17), .lit (.int .u8 4), .lit (.int .u8 62), .lit (.int .u8 47), .lit (.int .u8 59), .lit (.int .u8 36), .lit (.int .u8 45), .lit (.int .u8 43), .lit (.int .u8 51), .lit (.int .u8 22), .lit (.int .u8 53), .lit (.int .u8 39), .lit (.int .u8 33), .lit (.int .u8 30), .lit (.int .u8 24), .lit (.int .u8 18), .lit (.int .u8 12), .lit (.int .u8 5), .lit (.int .u8 63), .lit (.int .u8 55), .lit (.int .u8 48), .lit (.int .u8 27), .lit (.int .u8 60), .lit (.int .u8 41), .lit (.int .u8 37), .lit (.int .u8 16), .lit (.int .u8 46), .lit (.int .u8 35), .lit (.int .u8 44), .lit (.int .u8 21), .lit (.int .u8 52), .lit (.int .u8 32), .lit (.int .u8 23), .lit (.int .u8 11), .lit (.int .u8 54), .lit (.int .u8 26), .lit (.int .u8 40), .lit (.int .u8 15), .lit (.int .u8 34), .lit (.int .u8 20), .lit (.int .u8 31), .lit (.int .u8 10), .lit (.int .u8 25), .lit (.int .u8 14), .lit (.int .u8 19), .lit (.int .u8 9), .lit (.int .u8 13), .lit (.int .u8 8), .lit (.int .u8 7), .lit (.int .u8 6)]
def laid_internal_strconv_uint64pow10 {H : Type} : DataW H := .agg [.lit (.int .u64 1), .lit (.int .u64 10), .lit (.int .u64 100), .lit (.int .u64 1000), .lit (.int .u64 10000), .lit (.int .u64 100000), .lit (.int .u64 1000000), .lit (.int .u64 10000000), .lit (.int .u64 100000000), .lit (.int .u64 1000000000), .lit (.int .u64 10000000000), .lit (.int .u64 100000000000), .lit (.int .u64 1000000000000), .lit (.int .u64 10000000000000), .lit (.int .u64 100000000000000), .lit (.int .u64 1000000000000000), .lit (.int .u64 10000000000000000), .lit (.int .u64 100000000000000000), .lit (.int .u64 1000000000000000000), .lit (.int .u64 10000000000000000000)]
def laid_strconv_ErrRange {H : Type} : DataW H := .iface "*errors.errorString" (.ptr (.agg [.lit (.string [118, 97, 108, 117, 101, 32, 111, 117, 116, 32, 111, 102, 32, 114, 97, 110, 103, 101])]))
def laid_strconv_ErrSyntax {H : Type} : DataW H := .iface "*errors.errorString" (.ptr (.agg [.lit (.string [105, 110, 118, 97, 108, 105, 100, 32, 115, 121, 110, 116, 97, 120])]))
def laid_changeforge_revset_words {H : Type} : DataW H := .agg [.lit (.string []), .lit (.string [97, 108, 108]), .lit (.string [110, 111, 110, 101]), .lit (.string []), .lit (.string [97, 117, 116, 104, 111, 114]), .lit (.string [98, 101, 102, 111, 114, 101]), .lit (.string [109, 101, 114, 103, 101, 115]), .lit (.string []), .lit (.string [97, 110, 99]), .lit (.string [100, 101, 115, 99]), .lit (.string [112, 97, 114, 101, 110, 116, 115]), .lit (.string [99, 104, 105, 108, 100, 114, 101, 110]), .lit (.string [104, 101, 97, 100, 115]), .lit (.string [114, 111, 111, 116, 115]), .lit (.string []), .lit (.string []), .lit (.string [])]
def laid_changeforge_revset_signs {H : Type} : DataW H := .agg [.lit (.string []), .lit (.string []), .lit (.string []), .lit (.string []), .lit (.string []), .lit (.string []), .lit (.string []), .lit (.string []), .lit (.string []), .lit (.string []), .lit (.string []), .lit (.string []), .lit (.string []), .lit (.string []), .lit (.string [32, 124, 32]), .lit (.string [32, 38, 32]), .lit (.string [32, 45, 32])]
def laid_changeforge_revopt_inner {H : Type} : DataW H := .agg [.lit (.int .i64 0), .lit (.int .i64 0), .lit (.int .i64 0), .lit (.int .i64 0), .lit (.int .i64 0), .lit (.int .i64 0), .lit (.int .i64 0), .lit (.int .i64 0), .lit (.int .i64 12), .lit (.int .i64 13), .lit (.int .i64 0), .lit (.int .i64 0), .lit (.int .i64 8), .lit (.int .i64 9), .lit (.int .i64 0), .lit (.int .i64 0), .lit (.int .i64 0)]

/-- 'changeforgelaw4.RevoptMatchesSpec': WHATEVER THE INPUT: true; the input reads as it did. -/
def revoptMatchesSpecSpec : ChangeSpec := { name := "revoptMatchesSpec", fn := fun _ => fun
  | [d] => { results := [.lit (.bool true)], args := [d] }
  | _ => none }
def revoptMatchesSpecRow : OpenClaim := { program := "ytlbjffdaooadoaadoor", sum := "b43c47928dbb059af4ac94b4a0f8e8d06177806dae3232a22661e5c54269974f", func := "changeforge/changeforgelaw4.RevoptMatchesSpec", spec := "revoptMatchesSpec", recurses := true, named := ["changeforge/revset.words", "strconv.ErrSyntax", "strconv.ErrRange", "internal/strconv.uint64pow10", "math/bits.deBruijn32tab", "math/bits.deBruijn64tab", "changeforge/revopt.inner", "changeforge/revset.signs"], apart := false, laid := [("math/bits.deBruijn32tab", laid_math_bits_deBruijn32tab), ("math/bits.deBruijn64tab", laid_math_bits_deBruijn64tab), ("internal/strconv.uint64pow10", laid_internal_strconv_uint64pow10), ("strconv.ErrRange", laid_strconv_ErrRange), ("strconv.ErrSyntax", laid_strconv_ErrSyntax), ("changeforge/revset.words", laid_changeforge_revset_words), ("changeforge/revset.signs", laid_changeforge_revset_signs), ("changeforge/revopt.inner", laid_changeforge_revopt_inner)] }
def RevoptMatchesSpecSaid : Prop := revoptMatchesSpecRow.holds Tryd.pinned (OpenSpec.ofChange revoptMatchesSpecSpec)

/-- ITS FALSE NEIGHBOUR: 'it returns false'. Refute it at one input. -/
def revoptMatchesSpecWrong : ChangeSpec := { name := "revoptMatchesSpec", fn := fun _ => fun
  | [d] => { results := [.lit (.bool false)], args := [d] }
  | _ => none }
def RevoptMatchesSpecWrongFalsely : Prop := revoptMatchesSpecRow.holds Tryd.pinned (OpenSpec.ofChange revoptMatchesSpecWrong)

/-- 'changeforgelaw4.RevoptNeverWorse': WHATEVER THE INPUT: true; the input reads as it did. -/
def revoptNeverWorseSpec : ChangeSpec := { name := "revoptNeverWorse", fn := fun _ => fun
  | [d] => { results := [.lit (.bool true)], args := [d] }
  | _ => none }
def revoptNeverWorseRow : OpenClaim := { program := "ytlbjffdaooadoaadoor", sum := "b43c47928dbb059af4ac94b4a0f8e8d06177806dae3232a22661e5c54269974f", func := "changeforge/changeforgelaw4.RevoptNeverWorse", spec := "revoptNeverWorse", recurses := true, named := ["changeforge/revset.words", "strconv.ErrSyntax", "strconv.ErrRange", "internal/strconv.uint64pow10", "math/bits.deBruijn32tab", "math/bits.deBruijn64tab", "changeforge/revopt.inner", "changeforge/revset.signs"], apart := false, laid := [("math/bits.deBruijn32tab", laid_math_bits_deBruijn32tab), ("math/bits.deBruijn64tab", laid_math_bits_deBruijn64tab), ("internal/strconv.uint64pow10", laid_internal_strconv_uint64pow10), ("strconv.ErrRange", laid_strconv_ErrRange), ("strconv.ErrSyntax", laid_strconv_ErrSyntax), ("changeforge/revset.words", laid_changeforge_revset_words), ("changeforge/revset.signs", laid_changeforge_revset_signs), ("changeforge/revopt.inner", laid_changeforge_revopt_inner)] }
def RevoptNeverWorseSaid : Prop := revoptNeverWorseRow.holds Tryd.pinned (OpenSpec.ofChange revoptNeverWorseSpec)

/-- ITS FALSE NEIGHBOUR: 'it returns false'. Refute it at one input. -/
def revoptNeverWorseWrong : ChangeSpec := { name := "revoptNeverWorse", fn := fun _ => fun
  | [d] => { results := [.lit (.bool false)], args := [d] }
  | _ => none }
def RevoptNeverWorseWrongFalsely : Prop := revoptNeverWorseRow.holds Tryd.pinned (OpenSpec.ofChange revoptNeverWorseWrong)

/-- 'changeforgelaw4.RevoptIdempotent': WHATEVER THE INPUT: true; the input reads as it did. -/
def revoptIdempotentSpec : ChangeSpec := { name := "revoptIdempotent", fn := fun _ => fun
  | [d] => { results := [.lit (.bool true)], args := [d] }
  | _ => none }
def revoptIdempotentRow : OpenClaim := { program := "ytlbjffdaooadoaadoor", sum := "b43c47928dbb059af4ac94b4a0f8e8d06177806dae3232a22661e5c54269974f", func := "changeforge/changeforgelaw4.RevoptIdempotent", spec := "revoptIdempotent", recurses := true, named := ["changeforge/revset.words", "strconv.ErrSyntax", "strconv.ErrRange", "internal/strconv.uint64pow10", "math/bits.deBruijn32tab", "math/bits.deBruijn64tab", "changeforge/revopt.inner", "changeforge/revset.signs"], apart := false, laid := [("math/bits.deBruijn32tab", laid_math_bits_deBruijn32tab), ("math/bits.deBruijn64tab", laid_math_bits_deBruijn64tab), ("internal/strconv.uint64pow10", laid_internal_strconv_uint64pow10), ("strconv.ErrRange", laid_strconv_ErrRange), ("strconv.ErrSyntax", laid_strconv_ErrSyntax), ("changeforge/revset.words", laid_changeforge_revset_words), ("changeforge/revset.signs", laid_changeforge_revset_signs), ("changeforge/revopt.inner", laid_changeforge_revopt_inner)] }
def RevoptIdempotentSaid : Prop := revoptIdempotentRow.holds Tryd.pinned (OpenSpec.ofChange revoptIdempotentSpec)

/-- ITS FALSE NEIGHBOUR: 'it returns false'. Refute it at one input. -/
def revoptIdempotentWrong : ChangeSpec := { name := "revoptIdempotent", fn := fun _ => fun
  | [d] => { results := [.lit (.bool false)], args := [d] }
  | _ => none }
def RevoptIdempotentWrongFalsely : Prop := revoptIdempotentRow.holds Tryd.pinned (OpenSpec.ofChange revoptIdempotentWrong)

/-- 'changeforgelaw4.RevoptEqualOperands': WHATEVER THE INPUT: true; the input reads as it did. -/
def revoptEqualOperandsSpec : ChangeSpec := { name := "revoptEqualOperands", fn := fun _ => fun
  | [d] => { results := [.lit (.bool true)], args := [d] }
  | _ => none }
def revoptEqualOperandsRow : OpenClaim := { program := "ytlbjffdaooadoaadoor", sum := "b43c47928dbb059af4ac94b4a0f8e8d06177806dae3232a22661e5c54269974f", func := "changeforge/changeforgelaw4.RevoptEqualOperands", spec := "revoptEqualOperands", recurses := true, named := ["changeforge/revset.words", "strconv.ErrSyntax", "strconv.ErrRange", "internal/strconv.uint64pow10", "math/bits.deBruijn32tab", "math/bits.deBruijn64tab", "changeforge/revopt.inner", "changeforge/revset.signs"], apart := false, laid := [("math/bits.deBruijn32tab", laid_math_bits_deBruijn32tab), ("math/bits.deBruijn64tab", laid_math_bits_deBruijn64tab), ("internal/strconv.uint64pow10", laid_internal_strconv_uint64pow10), ("strconv.ErrRange", laid_strconv_ErrRange), ("strconv.ErrSyntax", laid_strconv_ErrSyntax), ("changeforge/revset.words", laid_changeforge_revset_words), ("changeforge/revset.signs", laid_changeforge_revset_signs), ("changeforge/revopt.inner", laid_changeforge_revopt_inner)] }
def RevoptEqualOperandsSaid : Prop := revoptEqualOperandsRow.holds Tryd.pinned (OpenSpec.ofChange revoptEqualOperandsSpec)

/-- ITS FALSE NEIGHBOUR: 'it returns false'. Refute it at one input. -/
def revoptEqualOperandsWrong : ChangeSpec := { name := "revoptEqualOperands", fn := fun _ => fun
  | [d] => { results := [.lit (.bool false)], args := [d] }
  | _ => none }
def RevoptEqualOperandsWrongFalsely : Prop := revoptEqualOperandsRow.holds Tryd.pinned (OpenSpec.ofChange revoptEqualOperandsWrong)

/-- 'changeforgelaw4.RevsetEvalMatchesSpec': WHATEVER THE INPUT: true; the input reads as it did. -/
def revsetEvalMatchesSpecSpec : ChangeSpec := { name := "revsetEvalMatchesSpec", fn := fun _ => fun
  | [d1, d2] => { results := [.lit (.bool true)], args := [d1, d2] }
  | _ => none }
def revsetEvalMatchesSpecRow : OpenClaim := { program := "ytlbjffdaooadoaadoor", sum := "b43c47928dbb059af4ac94b4a0f8e8d06177806dae3232a22661e5c54269974f", func := "changeforge/changeforgelaw4.RevsetEvalMatchesSpec", spec := "revsetEvalMatchesSpec", unfollowed := true, recurses := true, named := ["changeforge/revset.words", "strconv.ErrSyntax", "strconv.ErrRange", "internal/strconv.uint64pow10", "math/bits.deBruijn32tab", "math/bits.deBruijn64tab", "changeforge/revset.signs"], apart := false, laid := [("math/bits.deBruijn32tab", laid_math_bits_deBruijn32tab), ("math/bits.deBruijn64tab", laid_math_bits_deBruijn64tab), ("internal/strconv.uint64pow10", laid_internal_strconv_uint64pow10), ("strconv.ErrRange", laid_strconv_ErrRange), ("strconv.ErrSyntax", laid_strconv_ErrSyntax), ("changeforge/revset.words", laid_changeforge_revset_words), ("changeforge/revset.signs", laid_changeforge_revset_signs)] }
def RevsetEvalMatchesSpecSaid : Prop := revsetEvalMatchesSpecRow.holds Tryd.pinned (OpenSpec.ofChange revsetEvalMatchesSpecSpec)

/-- ITS FALSE NEIGHBOUR: 'it returns false'. Refute it at one input. -/
def revsetEvalMatchesSpecWrong : ChangeSpec := { name := "revsetEvalMatchesSpec", fn := fun _ => fun
  | [d1, d2] => { results := [.lit (.bool false)], args := [d1, d2] }
  | _ => none }
def RevsetEvalMatchesSpecWrongFalsely : Prop := revsetEvalMatchesSpecRow.holds Tryd.pinned (OpenSpec.ofChange revsetEvalMatchesSpecWrong)

/-- 'changeforgelaw4.RevsetParseMatchesSpec': WHATEVER THE INPUT: true; the input reads as it did. -/
def revsetParseMatchesSpecSpec : ChangeSpec := { name := "revsetParseMatchesSpec", fn := fun _ => fun
  | [d] => { results := [.lit (.bool true)], args := [d] }
  | _ => none }
def revsetParseMatchesSpecRow : OpenClaim := { program := "ytlbjffdaooadoaadoor", sum := "b43c47928dbb059af4ac94b4a0f8e8d06177806dae3232a22661e5c54269974f", func := "changeforge/changeforgelaw4.RevsetParseMatchesSpec", spec := "revsetParseMatchesSpec", unfollowed := true, recurses := true, named := ["changeforge/revset.words", "strconv.ErrSyntax", "strconv.ErrRange", "internal/strconv.uint64pow10", "math/bits.deBruijn32tab", "math/bits.deBruijn64tab", "changeforge/revset.signs"], apart := false, laid := [("math/bits.deBruijn32tab", laid_math_bits_deBruijn32tab), ("math/bits.deBruijn64tab", laid_math_bits_deBruijn64tab), ("internal/strconv.uint64pow10", laid_internal_strconv_uint64pow10), ("strconv.ErrRange", laid_strconv_ErrRange), ("strconv.ErrSyntax", laid_strconv_ErrSyntax), ("changeforge/revset.words", laid_changeforge_revset_words), ("changeforge/revset.signs", laid_changeforge_revset_signs)] }
def RevsetParseMatchesSpecSaid : Prop := revsetParseMatchesSpecRow.holds Tryd.pinned (OpenSpec.ofChange revsetParseMatchesSpecSpec)

/-- ITS FALSE NEIGHBOUR: 'it returns false'. Refute it at one input. -/
def revsetParseMatchesSpecWrong : ChangeSpec := { name := "revsetParseMatchesSpec", fn := fun _ => fun
  | [d] => { results := [.lit (.bool false)], args := [d] }
  | _ => none }
def RevsetParseMatchesSpecWrongFalsely : Prop := revsetParseMatchesSpecRow.holds Tryd.pinned (OpenSpec.ofChange revsetParseMatchesSpecWrong)

/-- 'changeforgelaw4.RevsetFormatMatchesSpec': WHATEVER THE INPUT: true; the input reads as it did. -/
def revsetFormatMatchesSpecSpec : ChangeSpec := { name := "revsetFormatMatchesSpec", fn := fun _ => fun
  | [d] => { results := [.lit (.bool true)], args := [d] }
  | _ => none }
def revsetFormatMatchesSpecRow : OpenClaim := { program := "ytlbjffdaooadoaadoor", sum := "b43c47928dbb059af4ac94b4a0f8e8d06177806dae3232a22661e5c54269974f", func := "changeforge/changeforgelaw4.RevsetFormatMatchesSpec", spec := "revsetFormatMatchesSpec", unfollowed := true, recurses := true, named := ["changeforge/revset.words", "strconv.ErrSyntax", "strconv.ErrRange", "internal/strconv.uint64pow10", "math/bits.deBruijn32tab", "math/bits.deBruijn64tab", "changeforge/revset.signs"], apart := false, laid := [("math/bits.deBruijn32tab", laid_math_bits_deBruijn32tab), ("math/bits.deBruijn64tab", laid_math_bits_deBruijn64tab), ("internal/strconv.uint64pow10", laid_internal_strconv_uint64pow10), ("strconv.ErrRange", laid_strconv_ErrRange), ("strconv.ErrSyntax", laid_strconv_ErrSyntax), ("changeforge/revset.words", laid_changeforge_revset_words), ("changeforge/revset.signs", laid_changeforge_revset_signs)] }
def RevsetFormatMatchesSpecSaid : Prop := revsetFormatMatchesSpecRow.holds Tryd.pinned (OpenSpec.ofChange revsetFormatMatchesSpecSpec)

/-- ITS FALSE NEIGHBOUR: 'it returns false'. Refute it at one input. -/
def revsetFormatMatchesSpecWrong : ChangeSpec := { name := "revsetFormatMatchesSpec", fn := fun _ => fun
  | [d] => { results := [.lit (.bool false)], args := [d] }
  | _ => none }
def RevsetFormatMatchesSpecWrongFalsely : Prop := revsetFormatMatchesSpecRow.holds Tryd.pinned (OpenSpec.ofChange revsetFormatMatchesSpecWrong)

/-- 'changeforgelaw4.RevsetRoundTrip': WHATEVER THE INPUT: true; the input reads as it did. -/
def revsetRoundTripSpec : ChangeSpec := { name := "revsetRoundTrip", fn := fun _ => fun
  | [d] => { results := [.lit (.bool true)], args := [d] }
  | _ => none }
def revsetRoundTripRow : OpenClaim := { program := "ytlbjffdaooadoaadoor", sum := "b43c47928dbb059af4ac94b4a0f8e8d06177806dae3232a22661e5c54269974f", func := "changeforge/changeforgelaw4.RevsetRoundTrip", spec := "revsetRoundTrip", unfollowed := true, recurses := true, named := ["changeforge/revset.words", "strconv.ErrSyntax", "strconv.ErrRange", "internal/strconv.uint64pow10", "math/bits.deBruijn32tab", "math/bits.deBruijn64tab", "changeforge/revset.signs"], apart := false, laid := [("math/bits.deBruijn32tab", laid_math_bits_deBruijn32tab), ("math/bits.deBruijn64tab", laid_math_bits_deBruijn64tab), ("internal/strconv.uint64pow10", laid_internal_strconv_uint64pow10), ("strconv.ErrRange", laid_strconv_ErrRange), ("strconv.ErrSyntax", laid_strconv_ErrSyntax), ("changeforge/revset.words", laid_changeforge_revset_words), ("changeforge/revset.signs", laid_changeforge_revset_signs)] }
def RevsetRoundTripSaid : Prop := revsetRoundTripRow.holds Tryd.pinned (OpenSpec.ofChange revsetRoundTripSpec)

/-- ITS FALSE NEIGHBOUR: 'it returns false'. Refute it at one input. -/
def revsetRoundTripWrong : ChangeSpec := { name := "revsetRoundTrip", fn := fun _ => fun
  | [d] => { results := [.lit (.bool false)], args := [d] }
  | _ => none }
def RevsetRoundTripWrongFalsely : Prop := revsetRoundTripRow.holds Tryd.pinned (OpenSpec.ofChange revsetRoundTripWrong)

/-- 'changeforgelaw4.RevsetDeMorgan': WHATEVER THE INPUT: true; the input reads as it did. -/
def revsetDeMorganSpec : ChangeSpec := { name := "revsetDeMorgan", fn := fun _ => fun
  | [d1, d2, d3] => { results := [.lit (.bool true)], args := [d1, d2, d3] }
  | _ => none }
def revsetDeMorganRow : OpenClaim := { program := "ytlbjffdaooadoaadoor", sum := "b43c47928dbb059af4ac94b4a0f8e8d06177806dae3232a22661e5c54269974f", func := "changeforge/changeforgelaw4.RevsetDeMorgan", spec := "revsetDeMorgan", unfollowed := true, recurses := true, named := ["changeforge/revset.words", "strconv.ErrSyntax", "strconv.ErrRange", "internal/strconv.uint64pow10", "math/bits.deBruijn32tab", "math/bits.deBruijn64tab", "changeforge/revset.signs"], apart := false, laid := [("math/bits.deBruijn32tab", laid_math_bits_deBruijn32tab), ("math/bits.deBruijn64tab", laid_math_bits_deBruijn64tab), ("internal/strconv.uint64pow10", laid_internal_strconv_uint64pow10), ("strconv.ErrRange", laid_strconv_ErrRange), ("strconv.ErrSyntax", laid_strconv_ErrSyntax), ("changeforge/revset.words", laid_changeforge_revset_words), ("changeforge/revset.signs", laid_changeforge_revset_signs)] }
def RevsetDeMorganSaid : Prop := revsetDeMorganRow.holds Tryd.pinned (OpenSpec.ofChange revsetDeMorganSpec)

/-- ITS FALSE NEIGHBOUR: 'it returns false'. Refute it at one input. -/
def revsetDeMorganWrong : ChangeSpec := { name := "revsetDeMorgan", fn := fun _ => fun
  | [d1, d2, d3] => { results := [.lit (.bool false)], args := [d1, d2, d3] }
  | _ => none }
def RevsetDeMorganWrongFalsely : Prop := revsetDeMorganRow.holds Tryd.pinned (OpenSpec.ofChange revsetDeMorganWrong)

/-- 'changeforgelaw4.RevsetHeadsGenerate': WHATEVER THE INPUT: true; the input reads as it did. -/
def revsetHeadsGenerateSpec : ChangeSpec := { name := "revsetHeadsGenerate", fn := fun _ => fun
  | [d1, d2] => { results := [.lit (.bool true)], args := [d1, d2] }
  | _ => none }
def revsetHeadsGenerateRow : OpenClaim := { program := "ytlbjffdaooadoaadoor", sum := "b43c47928dbb059af4ac94b4a0f8e8d06177806dae3232a22661e5c54269974f", func := "changeforge/changeforgelaw4.RevsetHeadsGenerate", spec := "revsetHeadsGenerate", unfollowed := true, recurses := true, named := ["changeforge/revset.words", "strconv.ErrSyntax", "strconv.ErrRange", "internal/strconv.uint64pow10", "math/bits.deBruijn32tab", "math/bits.deBruijn64tab", "changeforge/revset.signs"], apart := false, laid := [("math/bits.deBruijn32tab", laid_math_bits_deBruijn32tab), ("math/bits.deBruijn64tab", laid_math_bits_deBruijn64tab), ("internal/strconv.uint64pow10", laid_internal_strconv_uint64pow10), ("strconv.ErrRange", laid_strconv_ErrRange), ("strconv.ErrSyntax", laid_strconv_ErrSyntax), ("changeforge/revset.words", laid_changeforge_revset_words), ("changeforge/revset.signs", laid_changeforge_revset_signs)] }
def RevsetHeadsGenerateSaid : Prop := revsetHeadsGenerateRow.holds Tryd.pinned (OpenSpec.ofChange revsetHeadsGenerateSpec)

/-- ITS FALSE NEIGHBOUR: 'it returns false'. Refute it at one input. -/
def revsetHeadsGenerateWrong : ChangeSpec := { name := "revsetHeadsGenerate", fn := fun _ => fun
  | [d1, d2] => { results := [.lit (.bool false)], args := [d1, d2] }
  | _ => none }
def RevsetHeadsGenerateWrongFalsely : Prop := revsetHeadsGenerateRow.holds Tryd.pinned (OpenSpec.ofChange revsetHeadsGenerateWrong)

/-- 'changeforgelaw4.RevoptSameResult': WHATEVER THE INPUT: true; the input reads as it did. -/
def revoptSameResultSpec : ChangeSpec := { name := "revoptSameResult", fn := fun _ => fun
  | [d1, d2] => { results := [.lit (.bool true)], args := [d1, d2] }
  | _ => none }
def revoptSameResultRow : OpenClaim := { program := "ytlbjffdaooadoaadoor", sum := "b43c47928dbb059af4ac94b4a0f8e8d06177806dae3232a22661e5c54269974f", func := "changeforge/changeforgelaw4.RevoptSameResult", spec := "revoptSameResult", unfollowed := true, recurses := true, named := ["changeforge/revset.words", "strconv.ErrSyntax", "strconv.ErrRange", "internal/strconv.uint64pow10", "math/bits.deBruijn32tab", "math/bits.deBruijn64tab", "changeforge/revopt.inner", "changeforge/revset.signs"], apart := false, laid := [("math/bits.deBruijn32tab", laid_math_bits_deBruijn32tab), ("math/bits.deBruijn64tab", laid_math_bits_deBruijn64tab), ("internal/strconv.uint64pow10", laid_internal_strconv_uint64pow10), ("strconv.ErrRange", laid_strconv_ErrRange), ("strconv.ErrSyntax", laid_strconv_ErrSyntax), ("changeforge/revset.words", laid_changeforge_revset_words), ("changeforge/revset.signs", laid_changeforge_revset_signs), ("changeforge/revopt.inner", laid_changeforge_revopt_inner)] }
def RevoptSameResultSaid : Prop := revoptSameResultRow.holds Tryd.pinned (OpenSpec.ofChange revoptSameResultSpec)

/-- ITS FALSE NEIGHBOUR: 'it returns false'. Refute it at one input. -/
def revoptSameResultWrong : ChangeSpec := { name := "revoptSameResult", fn := fun _ => fun
  | [d1, d2] => { results := [.lit (.bool false)], args := [d1, d2] }
  | _ => none }
def RevoptSameResultWrongFalsely : Prop := revoptSameResultRow.holds Tryd.pinned (OpenSpec.ofChange revoptSameResultWrong)

/- THE SECOND FORM. 'bulk': how many values and letters a reading holds, each counted each time it is reached (what is shared counts as often as it is met; a slice's spare places count too). A statement '..UptoSaid' is the law's where the arguments, and the package variables that the reading takes, are together of bulk at most 1048576: NARROWER than '..Said'. Prove '..Said' where nothing that the law and all that it calls make is longer than what came in: it says more and counts as full. Else prove '..UptoSaid'. A law counts once. -/
mutual
def uptoBulk {H : Type} : DataW H → Nat
  | .lit (.string bytes) => bytes.length + 1
  | .lit _ => 1
  | .nil => 1
  | .ptr d => uptoBulk d + 1
  | .slice elems spare => uptoBulkAll elems + uptoBulkAll spare + 1
  | .agg parts => uptoBulkAll parts + 1
  | .iface _ d => uptoBulk d + 1
  | .map entries => uptoBulkEntries entries + 1
  | .held _ => 1
def uptoBulkAll {H : Type} : List (DataW H) → Nat
  | [] => 0
  | d :: r => uptoBulk d + uptoBulkAll r
def uptoBulkEntries {H : Type} : List (Lit × DataW H) → Nat
  | [] => 0
  | x :: r => uptoBulkEntry x + uptoBulkEntries r
def uptoBulkEntry {H : Type} : Lit × DataW H → Nat
  | (.string bytes, d) => bytes.length + uptoBulk d + 1
  | (_, d) => uptoBulk d + 1
 end
def uptoSmall : (H : Type) → List (DataW H) → Bool := fun _ ds => decide (uptoBulkAll ds ≤ 1048576)
def OpenSpec.upto (s : _root_.Go.ChangeSpec) : _root_.Go.OpenSpec := { _root_.Go.OpenSpec.ofChange s with cond := some uptoSmall }

/-- 'changeforgelaw4.RevoptMatchesSpec', WHERE WHAT IT READS IS OF BULK AT MOST 1048576: true; the input reads as it did. -/
def revoptMatchesSpecUptoRow : OpenClaim := { program := "ytlbjffdaooadoaadoor", sum := "b43c47928dbb059af4ac94b4a0f8e8d06177806dae3232a22661e5c54269974f", func := "changeforge/changeforgelaw4.RevoptMatchesSpec", spec := "revoptMatchesSpec", recurses := true, named := ["changeforge/revset.words", "strconv.ErrSyntax", "strconv.ErrRange", "internal/strconv.uint64pow10", "math/bits.deBruijn32tab", "math/bits.deBruijn64tab", "changeforge/revopt.inner", "changeforge/revset.signs"], apart := false, laid := [("math/bits.deBruijn32tab", laid_math_bits_deBruijn32tab), ("math/bits.deBruijn64tab", laid_math_bits_deBruijn64tab), ("internal/strconv.uint64pow10", laid_internal_strconv_uint64pow10), ("strconv.ErrRange", laid_strconv_ErrRange), ("strconv.ErrSyntax", laid_strconv_ErrSyntax), ("changeforge/revset.words", laid_changeforge_revset_words), ("changeforge/revset.signs", laid_changeforge_revset_signs), ("changeforge/revopt.inner", laid_changeforge_revopt_inner)], narrowed := true }
def RevoptMatchesSpecUptoSaid : Prop := revoptMatchesSpecUptoRow.holds Tryd.pinned (OpenSpec.upto revoptMatchesSpecSpec)

/-- 'changeforgelaw4.RevoptNeverWorse', WHERE WHAT IT READS IS OF BULK AT MOST 1048576: true; the input reads as it did. -/
def revoptNeverWorseUptoRow : OpenClaim := { program := "ytlbjffdaooadoaadoor", sum := "b43c47928dbb059af4ac94b4a0f8e8d06177806dae3232a22661e5c54269974f", func := "changeforge/changeforgelaw4.RevoptNeverWorse", spec := "revoptNeverWorse", recurses := true, named := ["changeforge/revset.words", "strconv.ErrSyntax", "strconv.ErrRange", "internal/strconv.uint64pow10", "math/bits.deBruijn32tab", "math/bits.deBruijn64tab", "changeforge/revopt.inner", "changeforge/revset.signs"], apart := false, laid := [("math/bits.deBruijn32tab", laid_math_bits_deBruijn32tab), ("math/bits.deBruijn64tab", laid_math_bits_deBruijn64tab), ("internal/strconv.uint64pow10", laid_internal_strconv_uint64pow10), ("strconv.ErrRange", laid_strconv_ErrRange), ("strconv.ErrSyntax", laid_strconv_ErrSyntax), ("changeforge/revset.words", laid_changeforge_revset_words), ("changeforge/revset.signs", laid_changeforge_revset_signs), ("changeforge/revopt.inner", laid_changeforge_revopt_inner)], narrowed := true }
def RevoptNeverWorseUptoSaid : Prop := revoptNeverWorseUptoRow.holds Tryd.pinned (OpenSpec.upto revoptNeverWorseSpec)

/-- 'changeforgelaw4.RevoptIdempotent', WHERE WHAT IT READS IS OF BULK AT MOST 1048576: true; the input reads as it did. -/
def revoptIdempotentUptoRow : OpenClaim := { program := "ytlbjffdaooadoaadoor", sum := "b43c47928dbb059af4ac94b4a0f8e8d06177806dae3232a22661e5c54269974f", func := "changeforge/changeforgelaw4.RevoptIdempotent", spec := "revoptIdempotent", recurses := true, named := ["changeforge/revset.words", "strconv.ErrSyntax", "strconv.ErrRange", "internal/strconv.uint64pow10", "math/bits.deBruijn32tab", "math/bits.deBruijn64tab", "changeforge/revopt.inner", "changeforge/revset.signs"], apart := false, laid := [("math/bits.deBruijn32tab", laid_math_bits_deBruijn32tab), ("math/bits.deBruijn64tab", laid_math_bits_deBruijn64tab), ("internal/strconv.uint64pow10", laid_internal_strconv_uint64pow10), ("strconv.ErrRange", laid_strconv_ErrRange), ("strconv.ErrSyntax", laid_strconv_ErrSyntax), ("changeforge/revset.words", laid_changeforge_revset_words), ("changeforge/revset.signs", laid_changeforge_revset_signs), ("changeforge/revopt.inner", laid_changeforge_revopt_inner)], narrowed := true }
def RevoptIdempotentUptoSaid : Prop := revoptIdempotentUptoRow.holds Tryd.pinned (OpenSpec.upto revoptIdempotentSpec)

/-- 'changeforgelaw4.RevoptEqualOperands', WHERE WHAT IT READS IS OF BULK AT MOST 1048576: true; the input reads as it did. -/
def revoptEqualOperandsUptoRow : OpenClaim := { program := "ytlbjffdaooadoaadoor", sum := "b43c47928dbb059af4ac94b4a0f8e8d06177806dae3232a22661e5c54269974f", func := "changeforge/changeforgelaw4.RevoptEqualOperands", spec := "revoptEqualOperands", recurses := true, named := ["changeforge/revset.words", "strconv.ErrSyntax", "strconv.ErrRange", "internal/strconv.uint64pow10", "math/bits.deBruijn32tab", "math/bits.deBruijn64tab", "changeforge/revopt.inner", "changeforge/revset.signs"], apart := false, laid := [("math/bits.deBruijn32tab", laid_math_bits_deBruijn32tab), ("math/bits.deBruijn64tab", laid_math_bits_deBruijn64tab), ("internal/strconv.uint64pow10", laid_internal_strconv_uint64pow10), ("strconv.ErrRange", laid_strconv_ErrRange), ("strconv.ErrSyntax", laid_strconv_ErrSyntax), ("changeforge/revset.words", laid_changeforge_revset_words), ("changeforge/revset.signs", laid_changeforge_revset_signs), ("changeforge/revopt.inner", laid_changeforge_revopt_inner)], narrowed := true }
def RevoptEqualOperandsUptoSaid : Prop := revoptEqualOperandsUptoRow.holds Tryd.pinned (OpenSpec.upto revoptEqualOperandsSpec)

/-- 'changeforgelaw4.RevsetEvalMatchesSpec', WHERE WHAT IT READS IS OF BULK AT MOST 1048576: true; the input reads as it did. -/
def revsetEvalMatchesSpecUptoRow : OpenClaim := { program := "ytlbjffdaooadoaadoor", sum := "b43c47928dbb059af4ac94b4a0f8e8d06177806dae3232a22661e5c54269974f", func := "changeforge/changeforgelaw4.RevsetEvalMatchesSpec", spec := "revsetEvalMatchesSpec", unfollowed := true, recurses := true, named := ["changeforge/revset.words", "strconv.ErrSyntax", "strconv.ErrRange", "internal/strconv.uint64pow10", "math/bits.deBruijn32tab", "math/bits.deBruijn64tab", "changeforge/revset.signs"], apart := false, laid := [("math/bits.deBruijn32tab", laid_math_bits_deBruijn32tab), ("math/bits.deBruijn64tab", laid_math_bits_deBruijn64tab), ("internal/strconv.uint64pow10", laid_internal_strconv_uint64pow10), ("strconv.ErrRange", laid_strconv_ErrRange), ("strconv.ErrSyntax", laid_strconv_ErrSyntax), ("changeforge/revset.words", laid_changeforge_revset_words), ("changeforge/revset.signs", laid_changeforge_revset_signs)], narrowed := true }
def RevsetEvalMatchesSpecUptoSaid : Prop := revsetEvalMatchesSpecUptoRow.holds Tryd.pinned (OpenSpec.upto revsetEvalMatchesSpecSpec)

/-- 'changeforgelaw4.RevsetParseMatchesSpec', WHERE WHAT IT READS IS OF BULK AT MOST 1048576: true; the input reads as it did. -/
def revsetParseMatchesSpecUptoRow : OpenClaim := { program := "ytlbjffdaooadoaadoor", sum := "b43c47928dbb059af4ac94b4a0f8e8d06177806dae3232a22661e5c54269974f", func := "changeforge/changeforgelaw4.RevsetParseMatchesSpec", spec := "revsetParseMatchesSpec", unfollowed := true, recurses := true, named := ["changeforge/revset.words", "strconv.ErrSyntax", "strconv.ErrRange", "internal/strconv.uint64pow10", "math/bits.deBruijn32tab", "math/bits.deBruijn64tab", "changeforge/revset.signs"], apart := false, laid := [("math/bits.deBruijn32tab", laid_math_bits_deBruijn32tab), ("math/bits.deBruijn64tab", laid_math_bits_deBruijn64tab), ("internal/strconv.uint64pow10", laid_internal_strconv_uint64pow10), ("strconv.ErrRange", laid_strconv_ErrRange), ("strconv.ErrSyntax", laid_strconv_ErrSyntax), ("changeforge/revset.words", laid_changeforge_revset_words), ("changeforge/revset.signs", laid_changeforge_revset_signs)], narrowed := true }
def RevsetParseMatchesSpecUptoSaid : Prop := revsetParseMatchesSpecUptoRow.holds Tryd.pinned (OpenSpec.upto revsetParseMatchesSpecSpec)

/-- 'changeforgelaw4.RevsetFormatMatchesSpec', WHERE WHAT IT READS IS OF BULK AT MOST 1048576: true; the input reads as it did. -/
def revsetFormatMatchesSpecUptoRow : OpenClaim := { program := "ytlbjffdaooadoaadoor", sum := "b43c47928dbb059af4ac94b4a0f8e8d06177806dae3232a22661e5c54269974f", func := "changeforge/changeforgelaw4.RevsetFormatMatchesSpec", spec := "revsetFormatMatchesSpec", unfollowed := true, recurses := true, named := ["changeforge/revset.words", "strconv.ErrSyntax", "strconv.ErrRange", "internal/strconv.uint64pow10", "math/bits.deBruijn32tab", "math/bits.deBruijn64tab", "changeforge/revset.signs"], apart := false, laid := [("math/bits.deBruijn32tab", laid_math_bits_deBruijn32tab), ("math/bits.deBruijn64tab", laid_math_bits_deBruijn64tab), ("internal/strconv.uint64pow10", laid_internal_strconv_uint64pow10), ("strconv.ErrRange", laid_strconv_ErrRange), ("strconv.ErrSyntax", laid_strconv_ErrSyntax), ("changeforge/revset.words", laid_changeforge_revset_words), ("changeforge/revset.signs", laid_changeforge_revset_signs)], narrowed := true }
def RevsetFormatMatchesSpecUptoSaid : Prop := revsetFormatMatchesSpecUptoRow.holds Tryd.pinned (OpenSpec.upto revsetFormatMatchesSpecSpec)

/-- 'changeforgelaw4.RevsetRoundTrip', WHERE WHAT IT READS IS OF BULK AT MOST 1048576: true; the input reads as it did. -/
def revsetRoundTripUptoRow : OpenClaim := { program := "ytlbjffdaooadoaadoor", sum := "b43c47928dbb059af4ac94b4a0f8e8d06177806dae3232a22661e5c54269974f", func := "changeforge/changeforgelaw4.RevsetRoundTrip", spec := "revsetRoundTrip", unfollowed := true, recurses := true, named := ["changeforge/revset.words", "strconv.ErrSyntax", "strconv.ErrRange", "internal/strconv.uint64pow10", "math/bits.deBruijn32tab", "math/bits.deBruijn64tab", "changeforge/revset.signs"], apart := false, laid := [("math/bits.deBruijn32tab", laid_math_bits_deBruijn32tab), ("math/bits.deBruijn64tab", laid_math_bits_deBruijn64tab), ("internal/strconv.uint64pow10", laid_internal_strconv_uint64pow10), ("strconv.ErrRange", laid_strconv_ErrRange), ("strconv.ErrSyntax", laid_strconv_ErrSyntax), ("changeforge/revset.words", laid_changeforge_revset_words), ("changeforge/revset.signs", laid_changeforge_revset_signs)], narrowed := true }
def RevsetRoundTripUptoSaid : Prop := revsetRoundTripUptoRow.holds Tryd.pinned (OpenSpec.upto revsetRoundTripSpec)

/-- 'changeforgelaw4.RevsetDeMorgan', WHERE WHAT IT READS IS OF BULK AT MOST 1048576: true; the input reads as it did. -/
def revsetDeMorganUptoRow : OpenClaim := { program := "ytlbjffdaooadoaadoor", sum := "b43c47928dbb059af4ac94b4a0f8e8d06177806dae3232a22661e5c54269974f", func := "changeforge/changeforgelaw4.RevsetDeMorgan", spec := "revsetDeMorgan", unfollowed := true, recurses := true, named := ["changeforge/revset.words", "strconv.ErrSyntax", "strconv.ErrRange", "internal/strconv.uint64pow10", "math/bits.deBruijn32tab", "math/bits.deBruijn64tab", "changeforge/revset.signs"], apart := false, laid := [("math/bits.deBruijn32tab", laid_math_bits_deBruijn32tab), ("math/bits.deBruijn64tab", laid_math_bits_deBruijn64tab), ("internal/strconv.uint64pow10", laid_internal_strconv_uint64pow10), ("strconv.ErrRange", laid_strconv_ErrRange), ("strconv.ErrSyntax", laid_strconv_ErrSyntax), ("changeforge/revset.words", laid_changeforge_revset_words), ("changeforge/revset.signs", laid_changeforge_revset_signs)], narrowed := true }
def RevsetDeMorganUptoSaid : Prop := revsetDeMorganUptoRow.holds Tryd.pinned (OpenSpec.upto revsetDeMorganSpec)

/-- 'changeforgelaw4.RevsetHeadsGenerate', WHERE WHAT IT READS IS OF BULK AT MOST 1048576: true; the input reads as it did. -/
def revsetHeadsGenerateUptoRow : OpenClaim := { program := "ytlbjffdaooadoaadoor", sum := "b43c47928dbb059af4ac94b4a0f8e8d06177806dae3232a22661e5c54269974f", func := "changeforge/changeforgelaw4.RevsetHeadsGenerate", spec := "revsetHeadsGenerate", unfollowed := true, recurses := true, named := ["changeforge/revset.words", "strconv.ErrSyntax", "strconv.ErrRange", "internal/strconv.uint64pow10", "math/bits.deBruijn32tab", "math/bits.deBruijn64tab", "changeforge/revset.signs"], apart := false, laid := [("math/bits.deBruijn32tab", laid_math_bits_deBruijn32tab), ("math/bits.deBruijn64tab", laid_math_bits_deBruijn64tab), ("internal/strconv.uint64pow10", laid_internal_strconv_uint64pow10), ("strconv.ErrRange", laid_strconv_ErrRange), ("strconv.ErrSyntax", laid_strconv_ErrSyntax), ("changeforge/revset.words", laid_changeforge_revset_words), ("changeforge/revset.signs", laid_changeforge_revset_signs)], narrowed := true }
def RevsetHeadsGenerateUptoSaid : Prop := revsetHeadsGenerateUptoRow.holds Tryd.pinned (OpenSpec.upto revsetHeadsGenerateSpec)

/-- 'changeforgelaw4.RevoptSameResult', WHERE WHAT IT READS IS OF BULK AT MOST 1048576: true; the input reads as it did. -/
def revoptSameResultUptoRow : OpenClaim := { program := "ytlbjffdaooadoaadoor", sum := "b43c47928dbb059af4ac94b4a0f8e8d06177806dae3232a22661e5c54269974f", func := "changeforge/changeforgelaw4.RevoptSameResult", spec := "revoptSameResult", unfollowed := true, recurses := true, named := ["changeforge/revset.words", "strconv.ErrSyntax", "strconv.ErrRange", "internal/strconv.uint64pow10", "math/bits.deBruijn32tab", "math/bits.deBruijn64tab", "changeforge/revopt.inner", "changeforge/revset.signs"], apart := false, laid := [("math/bits.deBruijn32tab", laid_math_bits_deBruijn32tab), ("math/bits.deBruijn64tab", laid_math_bits_deBruijn64tab), ("internal/strconv.uint64pow10", laid_internal_strconv_uint64pow10), ("strconv.ErrRange", laid_strconv_ErrRange), ("strconv.ErrSyntax", laid_strconv_ErrSyntax), ("changeforge/revset.words", laid_changeforge_revset_words), ("changeforge/revset.signs", laid_changeforge_revset_signs), ("changeforge/revopt.inner", laid_changeforge_revopt_inner)], narrowed := true }
def RevoptSameResultUptoSaid : Prop := revoptSameResultUptoRow.holds Tryd.pinned (OpenSpec.upto revoptSameResultSpec)

end Rows
end Go.Proofs.YtlbjffdaooadoaaDoor
