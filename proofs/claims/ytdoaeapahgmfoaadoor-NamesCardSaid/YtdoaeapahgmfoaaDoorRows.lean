/-
  NARROWER THAN 'FOR EVERY INPUT', by the rows' own cells (each row's printed sentence says how): Names: laid · LexBlanks: laid · LexQuotes: laid · LexDeep: laid · LexTwice: laid.
  DERIVED. THE GIVEN ROWS OF THIS SEAT. 5 by the template 'for every input the law returns true; each argument reads behind the call as it read before'; 0 by the template 'total and deterministic' (their statements: YtdoaeapahgmfoaaDoorTotals.lean).
  GIVEN WITH THE SEED: the statements are not yours to turn. If you find one false, say at which input.
  Laid BY PROGRAM, IN A SANDBOX (cutbox-rows.mjs): the forced cells as the released guide's own fill.sh prints them over the translation e987050f4029f701… (all of the seat's roots in one cut). By AI agents, Wed Nov 11 2026. No macro, syntax, notation, axiom, sorry.
-/
import Derived.Test.YtdoaeapahgmfoaaDoorChecked
import GoSem.PinnedTables
import GoSem.Claim
import GoSem.ClaimJoined
import GoSem.ClaimMapViews
import Derived.JoinedTies
import Derived.KernelRfl
namespace Go.Proofs.YtdoaeapahgmfoaaDoor
/- THE CELL 'sum', in the pinned program and in every row, IS THE sha256 OF THE DUMP (.gsa) THAT YtdoaeapahgmfoaaDoorProg.lean LOADS. Nothing in Lean hashes anything: it is a label: what it is worth is what the hold of that sum in a sandbox is worth. -/
noncomputable def Tryd.pinned : Pinned := { name := "ytdoaeapahgmfoaadoor", sum := "e987050f4029f701188a56189f42b3f45d12ce4685c9fe516a92e95728bd5261", checked := Tryd.checked }
namespace Rows
def none {H : Type} : Left H := { results := [], args := [] }

/- WHAT THE LISTED PACKAGE-LEVEL VARIABLES READ AS WHEN THE CALL BEGINS. Each datum BY PROGRAM (the guide's laid-datum.mjs) off the statement by which the dump's own 'gosem.cut.vars' lays the variable. In a bare row this is a premise. The card (YtdoaeapahgmfoaaDoorCards.lean) ties it to the program's text. -/
def laid_errors_errorType {H : Type} : DataW H := .iface "internal/reflectlite.rtype" (.agg [.ptr (.lit (.string [101, 114, 114, 111, 114]))])
def laid_nurserypy_api_ErrText {H : Type} : DataW H := .iface "*errors.errorString" (.ptr (.agg [.lit (.string [110, 117, 114, 115, 101, 114, 121, 112, 121, 58, 32, 116, 101, 120, 116])]))
def laid_nurserypy_api_ErrBound {H : Type} : DataW H := .iface "*errors.errorString" (.ptr (.agg [.lit (.string [110, 117, 114, 115, 101, 114, 121, 112, 121, 58, 32, 98, 111, 117, 110, 100])]))
def laid_nurserypy_api_ErrShape {H : Type} : DataW H := .iface "*errors.errorString" (.ptr (.agg [.lit (.string [110, 117, 114, 115, 101, 114, 121, 112, 121, 58, 32, 115, 104, 97, 112, 101])]))
def laid_nurserypy_api_ErrName {H : Type} : DataW H := .iface "*errors.errorString" (.ptr (.agg [.lit (.string [110, 117, 114, 115, 101, 114, 121, 112, 121, 58, 32, 110, 97, 109, 101])]))
def laid_nurserypy_api_ErrPlace {H : Type} : DataW H := .iface "*errors.errorString" (.ptr (.agg [.lit (.string [110, 117, 114, 115, 101, 114, 121, 112, 121, 58, 32, 112, 108, 97, 99, 101])]))
def laid_nurserypy_api_ErrFull {H : Type} : DataW H := .iface "*errors.errorString" (.ptr (.agg [.lit (.string [110, 117, 114, 115, 101, 114, 121, 112, 121, 58, 32, 102, 117, 108, 108])]))
def laid_nurserypy_api_ErrNone {H : Type} : DataW H := .iface "*errors.errorString" (.ptr (.agg [.lit (.string [110, 117, 114, 115, 101, 114, 121, 112, 121, 58, 32, 110, 111, 110, 101])]))
def laid_math_bits_deBruijn32tab {H : Type} : DataW H := .agg [.lit (.int .u8 0), .lit (.int .u8 1), .lit (.int .u8 28), .lit (.int .u8 2), .lit (.int .u8 29), .lit (.int .u8 14), .lit (.int .u8 24), .lit (.int .u8 3), .lit (.int .u8 30), .lit (.int .u8 22), .lit (.int .u8 20), .lit (.int .u8 15), .lit (.int .u8 25), .lit (.int .u8 17), .lit (.int .u8 4), .lit (.int .u8 8), .lit (.int .u8 31), .lit (.int .u8 27), .lit (.int .u8 13), .lit (.int .u8 23), .lit (.int .u8 21), .lit (.int .u8 19), .lit (.int .u8 16), .lit (.int .u8 7), .lit (.int .u8 26), .lit (.int .u8 12), .lit (.int .u8 18), .lit (.int .u8 6), .lit (.int .u8 11), .lit (.int .u8 5), .lit (.int .u8 10), .lit (.int .u8 9)]
def laid_math_bits_deBruijn64tab {H : Type} : DataW H := .agg [.lit (.int .u8 0), .lit (.int .u8 1), .lit (.int .u8 56), .lit (.int .u8 2), .lit (.int .u8 57), .lit (.int .u8 49), .lit (.int .u8 28), .lit (.int .u8 3), .lit (.int .u8 61), .lit (.int .u8 58), .lit (.int .u8 42), .lit (.int .u8 50), .lit (.int .u8 38), .lit (.int .u8 29), .lit (.int .u8 17), .lit (.int .u8 4), .lit (.int .u8 62), .lit (.int .u8 47), .lit (.int .u8 59), .lit (.int .u8 36), .lit (.int .u8 45), .lit (.int .u8 43), .lit (.int .u8 51), .lit (.int .u8 22), .lit (.int .u8 53), .lit (.int .u8 39), .lit (.int .u8 33), .lit (.int .u8 30), .lit (.int .u8 24), .lit (.int .u8 18), .lit (.int .u8 12), .lit (.int .u8 5), .lit (.int .u8 63), .lit (.int .u8 55), .lit (.int .u8 48), .lit (.int .u8 27), .lit (.int .u8 60), .lit (.int .u8 41), .lit (.int .u8 37), .lit (.int .u8 16), .lit (.int .u8 46), .lit (.int .u8 35), .lit (.int .u8 44), .lit (.int .u8 21), .lit (.int .u8 52), .lit (.int .u8 32), .lit (.int .u8 23), .lit (.int .u8 11), .lit (.int .u8 54), .lit (.int .u8 26), .lit (.int .u8 40), .lit (.int .u8 15), .lit (.int .u8 34), .lit (.int .u8 20), .lit (.int .u8 31), .lit (.int .u8 10), .lit (.int .u8 25), .lit (.int .u8 14), .lit (.int .u8 19), .lit (.int .u8 9), .lit (.int .u8 13), .lit (.int .u8 8), .lit (.int .u8 7), .lit (.int .u8 6)]
def laid_internal_strconv_uint64pow10 {H : Type} : DataW H := .agg [.lit (.int .u64 1), .lit (.int .u64 10), .lit (.int .u64 100), .lit (.int .u64 1000), .lit (.int .u64 10000), .lit (.int .u64 100000), .lit (.int .u64 1000000), .lit (.int .u64 10000000), .lit (.int .u64 100000000), .lit (.int .u64 1000000000), .lit (.int .u64 10000000000), .lit (.int .u64 100000000000), .lit (.int .u64 1000000000000), .lit (.int .u64 10000000000000), .lit (.int .u64 100000000000000), .lit (.int .u64 1000000000000000), .lit (.int .u64 10000000000000000), .lit (.int .u64 100000000000000000), .lit (.int .u64 1000000000000000000), .lit (.int .u64 10000000000000000000)]
def laid_unicode_utf8_acceptRanges {H : Type} : DataW H := .agg [.agg [.lit (.int .u8 128), .lit (.int .u8 191)], .agg [.lit (.int .u8 160), .lit (.int .u8 191)], .agg [.lit (.int .u8 128), .lit (.int .u8 159)], .agg [.lit (.int .u8 144), .lit (.int .u8 191)], .agg [.lit (.int .u8 128), .lit (.int .u8 143)], .agg [.lit (.int .u8 0), .lit (.int .u8 0)], .agg [.lit (.int .u8 0), .lit (.int .u8 0)], .agg [.lit (.int .u8 0), .lit (.int .u8 0)], .agg [.lit (.int .u8 0), .lit (.int .u8 0)], .agg [.lit (.int .u8 0), .lit (.int .u8 0)], .agg [.lit (.int .u8 0), .lit (.int .u8 0)], .agg [.lit (.int .u8 0), .lit (.int .u8 0)], .agg [.lit (.int .u8 0), .lit (.int .u8 0)], .agg [.lit (.int .u8 0), .lit (.int .u8 0)], .agg [.lit (.int .u8 0), .lit (.int .u8 0)], .agg [.lit (.int .u8 0), .lit (.int .u8 0)]]
def laid_strconv_ErrRange {H : Type} : DataW H := .iface "*errors.errorString" (.ptr (.agg [.lit (.string [118, 97, 108, 117, 101, 32, 111, 117, 116, 32, 111, 102, 32, 114, 97, 110, 103, 101])]))
def laid_strconv_ErrSyntax {H : Type} : DataW H := .iface "*errors.errorString" (.ptr (.agg [.lit (.string [105, 110, 118, 97, 108, 105, 100, 32, 115, 121, 110, 116, 97, 120])]))
def laid_nurserypy_lex_words {H : Type} : DataW H := .slice [.lit (.string [97, 110, 100]), .lit (.string [98, 114, 101, 97, 107]), .lit (.string [99, 111, 110, 116, 105, 110, 117, 101]), .lit (.string [100, 101, 102]), .lit (.string [100, 101, 108]), .lit (.string [101, 108, 105, 102]), .lit (.string [101, 108, 115, 101]), .lit (.string [101, 120, 99, 101, 112, 116]), .lit (.string [70, 97, 108, 115, 101]), .lit (.string [102, 111, 114]), .lit (.string [103, 108, 111, 98, 97, 108]), .lit (.string [105, 102]), .lit (.string [105, 110]), .lit (.string [105, 115]), .lit (.string [108, 97, 109, 98, 100, 97]), .lit (.string [78, 111, 110, 101]), .lit (.string [110, 111, 110, 108, 111, 99, 97, 108]), .lit (.string [110, 111, 116]), .lit (.string [111, 114]), .lit (.string [112, 97, 115, 115]), .lit (.string [114, 97, 105, 115, 101]), .lit (.string [114, 101, 116, 117, 114, 110]), .lit (.string [84, 114, 117, 101]), .lit (.string [116, 114, 121]), .lit (.string [119, 104, 105, 108, 101])] []
def laid_nurserypy_lex_ops {H : Type} : DataW H := .slice [.lit (.string [61, 61]), .lit (.string [33, 61]), .lit (.string [60, 61]), .lit (.string [62, 61]), .lit (.string [47, 47]), .lit (.string [60]), .lit (.string [62]), .lit (.string [61]), .lit (.string [43]), .lit (.string [45]), .lit (.string [42]), .lit (.string [37]), .lit (.string [40]), .lit (.string [41]), .lit (.string [91]), .lit (.string [93]), .lit (.string [123]), .lit (.string [125]), .lit (.string [44]), .lit (.string [58]), .lit (.string [46])] []
/-- One of Go's own tables, pinned by name: the form's constant. -/
def laid_unicode_utf8_first : DataW Unit := Go.Pinned.utf8First

/-- 'nurserypylaw1.Names': WHATEVER THE INPUT: true; the input reads as it did. -/
def namesSpec : ChangeSpec := { name := "names", fn := fun _ => fun
  | [] => { results := [.lit (.bool true)], args := [] }
  | _ => none }
def namesRow : OpenClaim := { program := "ytdoaeapahgmfoaadoor", sum := "e987050f4029f701188a56189f42b3f45d12ce4685c9fe516a92e95728bd5261", func := "nurserypy/nurserypylaw1.Names", spec := "names", inPlace := ["internal/reflectlite.ValueOf", "(internal/reflectlite.Value).Type", "(internal/reflectlite.Value).IsNil", "internal/reflectlite.TypeOf", "(internal/reflectlite.Value).Elem", "(internal/reflectlite.Value).Set"], unfollowed := true, recurses := true, named := ["nurserypy/api.ErrText", "nurserypy/api.ErrBound", "nurserypy/api.ErrShape", "nurserypy/api.ErrName", "nurserypy/api.ErrPlace", "nurserypy/api.ErrFull", "nurserypy/api.ErrNone", "errors.errorType"], apart := false, laid := [("errors.errorType", laid_errors_errorType), ("nurserypy/api.ErrText", laid_nurserypy_api_ErrText), ("nurserypy/api.ErrBound", laid_nurserypy_api_ErrBound), ("nurserypy/api.ErrShape", laid_nurserypy_api_ErrShape), ("nurserypy/api.ErrName", laid_nurserypy_api_ErrName), ("nurserypy/api.ErrPlace", laid_nurserypy_api_ErrPlace), ("nurserypy/api.ErrFull", laid_nurserypy_api_ErrFull), ("nurserypy/api.ErrNone", laid_nurserypy_api_ErrNone)] }
def NamesSaid : Prop := namesRow.holds Tryd.pinned (OpenSpec.ofChange namesSpec)

/-- ITS FALSE NEIGHBOUR: 'it returns false'. Refute it at one input. -/
def namesWrong : ChangeSpec := { name := "names", fn := fun _ => fun
  | [] => { results := [.lit (.bool false)], args := [] }
  | _ => none }
def NamesWrongFalsely : Prop := namesRow.holds Tryd.pinned (OpenSpec.ofChange namesWrong)

/-- 'nurserypylaw1.LexBlanks': WHATEVER THE INPUT: true; the input reads as it did. -/
def lexBlanksSpec : ChangeSpec := { name := "lexBlanks", fn := fun _ => fun
  | [d1, d2, d3] => { results := [.lit (.bool true)], args := [d1, d2, d3] }
  | _ => none }
def lexBlanksRow : OpenClaim := { program := "ytdoaeapahgmfoaadoor", sum := "e987050f4029f701188a56189f42b3f45d12ce4685c9fe516a92e95728bd5261", func := "nurserypy/nurserypylaw1.LexBlanks", spec := "lexBlanks", inPlace := ["internal/bytealg.IndexByteString", "internal/bytealg.IndexString"], unfollowed := true, recurses := true, named := ["nurserypy/api.ErrBound", "nurserypy/api.ErrText", "nurserypy/lex.words", "nurserypy/lex.ops", "strconv.ErrSyntax", "strconv.ErrRange", "internal/strconv.uint64pow10", "math/bits.deBruijn32tab", "math/bits.deBruijn64tab", "unicode/utf8.first", "unicode/utf8.acceptRanges", "internal/bytealg.MaxLen"], apart := false, laid := [("math/bits.deBruijn32tab", laid_math_bits_deBruijn32tab), ("math/bits.deBruijn64tab", laid_math_bits_deBruijn64tab), ("internal/strconv.uint64pow10", laid_internal_strconv_uint64pow10), ("unicode/utf8.acceptRanges", laid_unicode_utf8_acceptRanges), ("nurserypy/api.ErrText", laid_nurserypy_api_ErrText), ("nurserypy/api.ErrBound", laid_nurserypy_api_ErrBound), ("strconv.ErrRange", laid_strconv_ErrRange), ("strconv.ErrSyntax", laid_strconv_ErrSyntax), ("nurserypy/lex.words", laid_nurserypy_lex_words), ("nurserypy/lex.ops", laid_nurserypy_lex_ops), ("unicode/utf8.first", laid_unicode_utf8_first)] }
def LexBlanksSaid : Prop := lexBlanksRow.holds Tryd.pinned (OpenSpec.ofChange lexBlanksSpec)

/-- ITS FALSE NEIGHBOUR: 'it returns false'. Refute it at one input. -/
def lexBlanksWrong : ChangeSpec := { name := "lexBlanks", fn := fun _ => fun
  | [d1, d2, d3] => { results := [.lit (.bool false)], args := [d1, d2, d3] }
  | _ => none }
def LexBlanksWrongFalsely : Prop := lexBlanksRow.holds Tryd.pinned (OpenSpec.ofChange lexBlanksWrong)

/-- 'nurserypylaw1.LexQuotes': WHATEVER THE INPUT: true; the input reads as it did. -/
def lexQuotesSpec : ChangeSpec := { name := "lexQuotes", fn := fun _ => fun
  | [d] => { results := [.lit (.bool true)], args := [d] }
  | _ => none }
def lexQuotesRow : OpenClaim := { program := "ytdoaeapahgmfoaadoor", sum := "e987050f4029f701188a56189f42b3f45d12ce4685c9fe516a92e95728bd5261", func := "nurserypy/nurserypylaw1.LexQuotes", spec := "lexQuotes", inPlace := ["internal/bytealg.IndexByteString", "internal/bytealg.IndexString"], unfollowed := true, recurses := true, named := ["nurserypy/api.ErrBound", "nurserypy/api.ErrText", "nurserypy/lex.words", "nurserypy/lex.ops", "strconv.ErrSyntax", "strconv.ErrRange", "internal/strconv.uint64pow10", "math/bits.deBruijn32tab", "math/bits.deBruijn64tab", "unicode/utf8.first", "unicode/utf8.acceptRanges", "internal/bytealg.MaxLen"], apart := false, laid := [("math/bits.deBruijn32tab", laid_math_bits_deBruijn32tab), ("math/bits.deBruijn64tab", laid_math_bits_deBruijn64tab), ("internal/strconv.uint64pow10", laid_internal_strconv_uint64pow10), ("unicode/utf8.acceptRanges", laid_unicode_utf8_acceptRanges), ("nurserypy/api.ErrText", laid_nurserypy_api_ErrText), ("nurserypy/api.ErrBound", laid_nurserypy_api_ErrBound), ("strconv.ErrRange", laid_strconv_ErrRange), ("strconv.ErrSyntax", laid_strconv_ErrSyntax), ("nurserypy/lex.words", laid_nurserypy_lex_words), ("nurserypy/lex.ops", laid_nurserypy_lex_ops), ("unicode/utf8.first", laid_unicode_utf8_first)] }
def LexQuotesSaid : Prop := lexQuotesRow.holds Tryd.pinned (OpenSpec.ofChange lexQuotesSpec)

/-- ITS FALSE NEIGHBOUR: 'it returns false'. Refute it at one input. -/
def lexQuotesWrong : ChangeSpec := { name := "lexQuotes", fn := fun _ => fun
  | [d] => { results := [.lit (.bool false)], args := [d] }
  | _ => none }
def LexQuotesWrongFalsely : Prop := lexQuotesRow.holds Tryd.pinned (OpenSpec.ofChange lexQuotesWrong)

/-- 'nurserypylaw1.LexDeep': WHATEVER THE INPUT: true; the input reads as it did. -/
def lexDeepSpec : ChangeSpec := { name := "lexDeep", fn := fun _ => fun
  | [d1, d2] => { results := [.lit (.bool true)], args := [d1, d2] }
  | _ => none }
def lexDeepRow : OpenClaim := { program := "ytdoaeapahgmfoaadoor", sum := "e987050f4029f701188a56189f42b3f45d12ce4685c9fe516a92e95728bd5261", func := "nurserypy/nurserypylaw1.LexDeep", spec := "lexDeep", inPlace := ["internal/bytealg.IndexByteString", "internal/bytealg.IndexString"], unfollowed := true, recurses := true, named := ["nurserypy/api.ErrBound", "nurserypy/api.ErrText", "nurserypy/lex.words", "nurserypy/lex.ops", "strconv.ErrSyntax", "strconv.ErrRange", "internal/strconv.uint64pow10", "math/bits.deBruijn32tab", "math/bits.deBruijn64tab", "unicode/utf8.first", "unicode/utf8.acceptRanges", "internal/bytealg.MaxLen"], apart := false, laid := [("math/bits.deBruijn32tab", laid_math_bits_deBruijn32tab), ("math/bits.deBruijn64tab", laid_math_bits_deBruijn64tab), ("internal/strconv.uint64pow10", laid_internal_strconv_uint64pow10), ("unicode/utf8.acceptRanges", laid_unicode_utf8_acceptRanges), ("nurserypy/api.ErrText", laid_nurserypy_api_ErrText), ("nurserypy/api.ErrBound", laid_nurserypy_api_ErrBound), ("strconv.ErrRange", laid_strconv_ErrRange), ("strconv.ErrSyntax", laid_strconv_ErrSyntax), ("nurserypy/lex.words", laid_nurserypy_lex_words), ("nurserypy/lex.ops", laid_nurserypy_lex_ops), ("unicode/utf8.first", laid_unicode_utf8_first)] }
def LexDeepSaid : Prop := lexDeepRow.holds Tryd.pinned (OpenSpec.ofChange lexDeepSpec)

/-- ITS FALSE NEIGHBOUR: 'it returns false'. Refute it at one input. -/
def lexDeepWrong : ChangeSpec := { name := "lexDeep", fn := fun _ => fun
  | [d1, d2] => { results := [.lit (.bool false)], args := [d1, d2] }
  | _ => none }
def LexDeepWrongFalsely : Prop := lexDeepRow.holds Tryd.pinned (OpenSpec.ofChange lexDeepWrong)

/-- 'nurserypylaw1.LexTwice': WHATEVER THE INPUT: true; the input reads as it did. -/
def lexTwiceSpec : ChangeSpec := { name := "lexTwice", fn := fun _ => fun
  | [d] => { results := [.lit (.bool true)], args := [d] }
  | _ => none }
def lexTwiceRow : OpenClaim := { program := "ytdoaeapahgmfoaadoor", sum := "e987050f4029f701188a56189f42b3f45d12ce4685c9fe516a92e95728bd5261", func := "nurserypy/nurserypylaw1.LexTwice", spec := "lexTwice", inPlace := ["internal/bytealg.IndexByteString", "internal/bytealg.IndexString", "internal/abi.NoEscape", "internal/bytealg.MakeNoZero"], unfollowed := true, recurses := true, named := ["nurserypy/api.ErrBound", "nurserypy/api.ErrText", "nurserypy/lex.words", "nurserypy/lex.ops", "strconv.ErrSyntax", "strconv.ErrRange", "internal/strconv.uint64pow10", "math/bits.deBruijn32tab", "math/bits.deBruijn64tab", "unicode/utf8.first", "unicode/utf8.acceptRanges", "nurserypy/api.ErrShape", "internal/bytealg.MaxLen"], apart := false, laid := [("math/bits.deBruijn32tab", laid_math_bits_deBruijn32tab), ("math/bits.deBruijn64tab", laid_math_bits_deBruijn64tab), ("internal/strconv.uint64pow10", laid_internal_strconv_uint64pow10), ("unicode/utf8.acceptRanges", laid_unicode_utf8_acceptRanges), ("nurserypy/api.ErrText", laid_nurserypy_api_ErrText), ("nurserypy/api.ErrBound", laid_nurserypy_api_ErrBound), ("nurserypy/api.ErrShape", laid_nurserypy_api_ErrShape), ("strconv.ErrRange", laid_strconv_ErrRange), ("strconv.ErrSyntax", laid_strconv_ErrSyntax), ("nurserypy/lex.words", laid_nurserypy_lex_words), ("nurserypy/lex.ops", laid_nurserypy_lex_ops), ("unicode/utf8.first", laid_unicode_utf8_first)] }
def LexTwiceSaid : Prop := lexTwiceRow.holds Tryd.pinned (OpenSpec.ofChange lexTwiceSpec)

/-- ITS FALSE NEIGHBOUR: 'it returns false'. Refute it at one input. -/
def lexTwiceWrong : ChangeSpec := { name := "lexTwice", fn := fun _ => fun
  | [d] => { results := [.lit (.bool false)], args := [d] }
  | _ => none }
def LexTwiceWrongFalsely : Prop := lexTwiceRow.holds Tryd.pinned (OpenSpec.ofChange lexTwiceWrong)

/- THE SECOND FORM. 'bulk': how many values and letters a reading holds, each counted each time it is reached (what is shared counts as often as it is met; a slice's spare places count too). A statement '..UptoSaid' is the law's where the arguments, and the package variables that the reading takes, are together of bulk at most 1048576: NARROWER than '..Said'. Prove '..Said' where nothing that the law and all that it calls make is longer than what came in: it says more and counts as full. Else prove '..UptoSaid'. A law counts once. -/
mutual
def uptoBulk {H : Type} : DataW H → Nat
  | .lit (.string bytes) => bytes.length + 1
  | .lit _ => 1
  | .nil => 1
  | .ptr d => uptoBulk d + 1
  | .slice elems spare => uptoBulkAll elems + uptoBulkAll spare + 1
  | .agg parts => uptoBulkAll parts + 1
  | .iface _ d => uptoBulk d + 1
  | .map entries => uptoBulkEntries entries + 1
  | .held _ => 1
def uptoBulkAll {H : Type} : List (DataW H) → Nat
  | [] => 0
  | d :: r => uptoBulk d + uptoBulkAll r
def uptoBulkEntries {H : Type} : List (Lit × DataW H) → Nat
  | [] => 0
  | x :: r => uptoBulkEntry x + uptoBulkEntries r
def uptoBulkEntry {H : Type} : Lit × DataW H → Nat
  | (.string bytes, d) => bytes.length + uptoBulk d + 1
  | (_, d) => uptoBulk d + 1
 end
def uptoSmall : (H : Type) → List (DataW H) → Bool := fun _ ds => decide (uptoBulkAll ds ≤ 1048576)
def OpenSpec.upto (s : _root_.Go.ChangeSpec) : _root_.Go.OpenSpec := { _root_.Go.OpenSpec.ofChange s with cond := some uptoSmall }

/-- 'nurserypylaw1.Names', WHERE WHAT IT READS IS OF BULK AT MOST 1048576: true; the input reads as it did. -/
def namesUptoRow : OpenClaim := { program := "ytdoaeapahgmfoaadoor", sum := "e987050f4029f701188a56189f42b3f45d12ce4685c9fe516a92e95728bd5261", func := "nurserypy/nurserypylaw1.Names", spec := "names", inPlace := ["internal/reflectlite.ValueOf", "(internal/reflectlite.Value).Type", "(internal/reflectlite.Value).IsNil", "internal/reflectlite.TypeOf", "(internal/reflectlite.Value).Elem", "(internal/reflectlite.Value).Set"], unfollowed := true, recurses := true, named := ["nurserypy/api.ErrText", "nurserypy/api.ErrBound", "nurserypy/api.ErrShape", "nurserypy/api.ErrName", "nurserypy/api.ErrPlace", "nurserypy/api.ErrFull", "nurserypy/api.ErrNone", "errors.errorType"], apart := false, laid := [("errors.errorType", laid_errors_errorType), ("nurserypy/api.ErrText", laid_nurserypy_api_ErrText), ("nurserypy/api.ErrBound", laid_nurserypy_api_ErrBound), ("nurserypy/api.ErrShape", laid_nurserypy_api_ErrShape), ("nurserypy/api.ErrName", laid_nurserypy_api_ErrName), ("nurserypy/api.ErrPlace", laid_nurserypy_api_ErrPlace), ("nurserypy/api.ErrFull", laid_nurserypy_api_ErrFull), ("nurserypy/api.ErrNone", laid_nurserypy_api_ErrNone)], narrowed := true }
def NamesUptoSaid : Prop := namesUptoRow.holds Tryd.pinned (OpenSpec.upto namesSpec)

/-- 'nurserypylaw1.LexBlanks', WHERE WHAT IT READS IS OF BULK AT MOST 1048576: true; the input reads as it did. -/
def lexBlanksUptoRow : OpenClaim := { program := "ytdoaeapahgmfoaadoor", sum := "e987050f4029f701188a56189f42b3f45d12ce4685c9fe516a92e95728bd5261", func := "nurserypy/nurserypylaw1.LexBlanks", spec := "lexBlanks", inPlace := ["internal/bytealg.IndexByteString", "internal/bytealg.IndexString"], unfollowed := true, recurses := true, named := ["nurserypy/api.ErrBound", "nurserypy/api.ErrText", "nurserypy/lex.words", "nurserypy/lex.ops", "strconv.ErrSyntax", "strconv.ErrRange", "internal/strconv.uint64pow10", "math/bits.deBruijn32tab", "math/bits.deBruijn64tab", "unicode/utf8.first", "unicode/utf8.acceptRanges", "internal/bytealg.MaxLen"], apart := false, laid := [("math/bits.deBruijn32tab", laid_math_bits_deBruijn32tab), ("math/bits.deBruijn64tab", laid_math_bits_deBruijn64tab), ("internal/strconv.uint64pow10", laid_internal_strconv_uint64pow10), ("unicode/utf8.acceptRanges", laid_unicode_utf8_acceptRanges), ("nurserypy/api.ErrText", laid_nurserypy_api_ErrText), ("nurserypy/api.ErrBound", laid_nurserypy_api_ErrBound), ("strconv.ErrRange", laid_strconv_ErrRange), ("strconv.ErrSyntax", laid_strconv_ErrSyntax), ("nurserypy/lex.words", laid_nurserypy_lex_words), ("nurserypy/lex.ops", laid_nurserypy_lex_ops), ("unicode/utf8.first", laid_unicode_utf8_first)], narrowed := true }
def LexBlanksUptoSaid : Prop := lexBlanksUptoRow.holds Tryd.pinned (OpenSpec.upto lexBlanksSpec)

/-- 'nurserypylaw1.LexQuotes', WHERE WHAT IT READS IS OF BULK AT MOST 1048576: true; the input reads as it did. -/
def lexQuotesUptoRow : OpenClaim := { program := "ytdoaeapahgmfoaadoor", sum := "e987050f4029f701188a56189f42b3f45d12ce4685c9fe516a92e95728bd5261", func := "nurserypy/nurserypylaw1.LexQuotes", spec := "lexQuotes", inPlace := ["internal/bytealg.IndexByteString", "internal/bytealg.IndexString"], unfollowed := true, recurses := true, named := ["nurserypy/api.ErrBound", "nurserypy/api.ErrText", "nurserypy/lex.words", "nurserypy/lex.ops", "strconv.ErrSyntax", "strconv.ErrRange", "internal/strconv.uint64pow10", "math/bits.deBruijn32tab", "math/bits.deBruijn64tab", "unicode/utf8.first", "unicode/utf8.acceptRanges", "internal/bytealg.MaxLen"], apart := false, laid := [("math/bits.deBruijn32tab", laid_math_bits_deBruijn32tab), ("math/bits.deBruijn64tab", laid_math_bits_deBruijn64tab), ("internal/strconv.uint64pow10", laid_internal_strconv_uint64pow10), ("unicode/utf8.acceptRanges", laid_unicode_utf8_acceptRanges), ("nurserypy/api.ErrText", laid_nurserypy_api_ErrText), ("nurserypy/api.ErrBound", laid_nurserypy_api_ErrBound), ("strconv.ErrRange", laid_strconv_ErrRange), ("strconv.ErrSyntax", laid_strconv_ErrSyntax), ("nurserypy/lex.words", laid_nurserypy_lex_words), ("nurserypy/lex.ops", laid_nurserypy_lex_ops), ("unicode/utf8.first", laid_unicode_utf8_first)], narrowed := true }
def LexQuotesUptoSaid : Prop := lexQuotesUptoRow.holds Tryd.pinned (OpenSpec.upto lexQuotesSpec)

/-- 'nurserypylaw1.LexDeep', WHERE WHAT IT READS IS OF BULK AT MOST 1048576: true; the input reads as it did. -/
def lexDeepUptoRow : OpenClaim := { program := "ytdoaeapahgmfoaadoor", sum := "e987050f4029f701188a56189f42b3f45d12ce4685c9fe516a92e95728bd5261", func := "nurserypy/nurserypylaw1.LexDeep", spec := "lexDeep", inPlace := ["internal/bytealg.IndexByteString", "internal/bytealg.IndexString"], unfollowed := true, recurses := true, named := ["nurserypy/api.ErrBound", "nurserypy/api.ErrText", "nurserypy/lex.words", "nurserypy/lex.ops", "strconv.ErrSyntax", "strconv.ErrRange", "internal/strconv.uint64pow10", "math/bits.deBruijn32tab", "math/bits.deBruijn64tab", "unicode/utf8.first", "unicode/utf8.acceptRanges", "internal/bytealg.MaxLen"], apart := false, laid := [("math/bits.deBruijn32tab", laid_math_bits_deBruijn32tab), ("math/bits.deBruijn64tab", laid_math_bits_deBruijn64tab), ("internal/strconv.uint64pow10", laid_internal_strconv_uint64pow10), ("unicode/utf8.acceptRanges", laid_unicode_utf8_acceptRanges), ("nurserypy/api.ErrText", laid_nurserypy_api_ErrText), ("nurserypy/api.ErrBound", laid_nurserypy_api_ErrBound), ("strconv.ErrRange", laid_strconv_ErrRange), ("strconv.ErrSyntax", laid_strconv_ErrSyntax), ("nurserypy/lex.words", laid_nurserypy_lex_words), ("nurserypy/lex.ops", laid_nurserypy_lex_ops), ("unicode/utf8.first", laid_unicode_utf8_first)], narrowed := true }
def LexDeepUptoSaid : Prop := lexDeepUptoRow.holds Tryd.pinned (OpenSpec.upto lexDeepSpec)

/-- 'nurserypylaw1.LexTwice', WHERE WHAT IT READS IS OF BULK AT MOST 1048576: true; the input reads as it did. -/
def lexTwiceUptoRow : OpenClaim := { program := "ytdoaeapahgmfoaadoor", sum := "e987050f4029f701188a56189f42b3f45d12ce4685c9fe516a92e95728bd5261", func := "nurserypy/nurserypylaw1.LexTwice", spec := "lexTwice", inPlace := ["internal/bytealg.IndexByteString", "internal/bytealg.IndexString", "internal/abi.NoEscape", "internal/bytealg.MakeNoZero"], unfollowed := true, recurses := true, named := ["nurserypy/api.ErrBound", "nurserypy/api.ErrText", "nurserypy/lex.words", "nurserypy/lex.ops", "strconv.ErrSyntax", "strconv.ErrRange", "internal/strconv.uint64pow10", "math/bits.deBruijn32tab", "math/bits.deBruijn64tab", "unicode/utf8.first", "unicode/utf8.acceptRanges", "nurserypy/api.ErrShape", "internal/bytealg.MaxLen"], apart := false, laid := [("math/bits.deBruijn32tab", laid_math_bits_deBruijn32tab), ("math/bits.deBruijn64tab", laid_math_bits_deBruijn64tab), ("internal/strconv.uint64pow10", laid_internal_strconv_uint64pow10), ("unicode/utf8.acceptRanges", laid_unicode_utf8_acceptRanges), ("nurserypy/api.ErrText", laid_nurserypy_api_ErrText), ("nurserypy/api.ErrBound", laid_nurserypy_api_ErrBound), ("nurserypy/api.ErrShape", laid_nurserypy_api_ErrShape), ("strconv.ErrRange", laid_strconv_ErrRange), ("strconv.ErrSyntax", laid_strconv_ErrSyntax), ("nurserypy/lex.words", laid_nurserypy_lex_words), ("nurserypy/lex.ops", laid_nurserypy_lex_ops), ("unicode/utf8.first", laid_unicode_utf8_first)], narrowed := true }
def LexTwiceUptoSaid : Prop := lexTwiceUptoRow.holds Tryd.pinned (OpenSpec.upto lexTwiceSpec)

end Rows
end Go.Proofs.YtdoaeapahgmfoaaDoor
