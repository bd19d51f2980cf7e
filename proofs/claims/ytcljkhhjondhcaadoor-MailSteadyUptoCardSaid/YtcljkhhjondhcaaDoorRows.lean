/-
  NARROWER THAN 'FOR EVERY INPUT', by the rows' own cells (each row's printed sentence says how): MailTokens: laid · MailSteady: laid · MailKinds: laid · MailAddresses: laid · MailWrapped: laid · MailMasks: laid · MailQuoted: laid · MailTold: laid · MailChecks: laid · TopThreads: laid.
  DERIVED. THE GIVEN ROWS OF THIS SEAT. 10 by the template 'for every input the law returns true; each argument reads behind the call as it read before'; 0 by the template 'total and deterministic' (their statements: YtcljkhhjondhcaaDoorTotals.lean).
  GIVEN WITH THE SEED: the statements are not yours to turn. If you find one false, say at which input.
  Laid BY PROGRAM, IN A SANDBOX (cutbox-rows.mjs): the forced cells as the released guide's own fill.sh prints them over the translation 95ff472de0c056e5… (all of the seat's roots in one cut). By AI agents, Wed Nov 11 2026. No macro, syntax, notation, axiom, sorry.
-/
import Derived.Test.YtcljkhhjondhcaaDoorChecked
import GoSem.PinnedTables
import GoSem.Claim
import GoSem.ClaimJoined
import GoSem.ClaimMapViews
import Derived.JoinedTies
import Derived.KernelRfl
namespace Go.Proofs.YtcljkhhjondhcaaDoor
/- THE CELL 'sum', in the pinned program and in every row, IS THE sha256 OF THE DUMP (.gsa) THAT YtcljkhhjondhcaaDoorProg.lean LOADS. Nothing in Lean hashes anything: it is a label: what it is worth is what the hold of that sum in a sandbox is worth. -/
noncomputable def Tryd.pinned : Pinned := { name := "ytcljkhhjondhcaadoor", sum := "95ff472de0c056e5226fc18d92fb19094dc4a034b1596144b0815ac7e44dc194", checked := Tryd.checked }
namespace Rows
def none {H : Type} : Left H := { results := [], args := [] }

/- WHAT THE LISTED PACKAGE-LEVEL VARIABLES READ AS WHEN THE CALL BEGINS. Each datum BY PROGRAM (the guide's laid-datum.mjs) off the statement by which the dump's own 'gosem.cut.vars' lays the variable. In a bare row this is a premise. The card (YtcljkhhjondhcaaDoorCards.lean) ties it to the program's text. -/
def laid_math_bits_deBruijn32tab {H : Type} : DataW H := .agg [.lit (.int .u8 0), .lit (.int .u8 1), .lit (.int .u8 28), .lit (.int .u8 2), .lit (.int .u8 29), .lit (.int .u8 14), .lit (.int .u8 24), .lit (.int .u8 3), .lit (.int .u8 30), .lit (.int .u8 22), .lit (.int .u8 20), .lit (.int .u8 15), .lit (.int .u8 25), .lit (.int .u8 17), .lit (.int .u8 4), .lit (.int .u8 8), .lit (.int .u8 31), .lit (.int .u8 27), .lit (.int .u8 13), .lit (.int .u8 23), .lit (.int .u8 21), .lit (.int .u8 19), .lit (.int .u8 16), .lit (.int .u8 7), .lit (.int .u8 26), .lit (.int .u8 12), .lit (.int .u8 18), .lit (.int .u8 6), .lit (.int .u8 11), .lit (.int .u8 5), .lit (.int .u8 10), .lit (.int .u8 9)]
def laid_math_bits_deBruijn64tab {H : Type} : DataW H := .agg [.lit (.int .u8 0), .lit (.int .u8 1), .lit (.int .u8 56), .lit (.int .u8 2), .lit (.int .u8 57), .lit (.int .u8 49), .lit (.int .u8 28), .lit (.int .u8 3), .lit (.int .u8 61), .lit (.int .u8 58), .lit (.int .u8 42), .lit (.int .u8 50), .lit (.int .u8 38), .lit (.int .u8 29), .lit (.int .u8 17), .lit (.int .u8 4), .lit (.int .u8 62), .lit (.int .u8 47), .lit (.int .u8 59), .lit (.int .u8 36), .lit (.int .u8 45), .lit (.int .u8 43), .lit (.int .u8 51), .lit (.int .u8 22), .lit (.int .u8 53), .lit (.int .u8 39), .lit (.int .u8 33), .lit (.int .u8 30), .lit (.int .u8 24), .lit (.int .u8 18), .lit (.int .u8 12), .lit (.int .u8 5), .lit (.int .u8 63), .lit (.int .u8 55), .lit (.int .u8 48), .lit (.int .u8 27), .lit (.int .u8 60), .lit (.int .u8 41), .lit (.int .u8 37), .lit (.int .u8 16), .lit (.int .u8 46), .lit (.int .u8 35), .lit (.int .u8 44), .lit (.int .u8 21), .lit (.int .u8 52), .lit (.int .u8 32), .lit (.int .u8 23), .lit (.int .u8 11), .lit (.int .u8 54), .lit (.int .u8 26), .lit (.int .u8 40), .lit (.int .u8 15), .lit (.int .u8 34), .lit (.int .u8 20), .lit (.int .u8 31), .lit (.int .u8 10), .lit (.int .u8 25), .lit (.int .u8 14), .lit (.int .u8 19), .lit (.int .u8 9), .lit (.int .u8 13), .lit (.int .u8 8), .lit (.int .u8 7), .lit (.int .u8 6)]
def laid_internal_strconv_uint64pow10 {H : Type} : DataW H := .agg [.lit (.int .u64 1), .lit (.int .u64 10), .lit (.int .u64 100), .lit (.int .u64 1000), .lit (.int .u64 10000), .lit (.int .u64 100000), .lit (.int .u64 1000000), .lit (.int .u64 10000000), .lit (.int .u64 100000000), .lit (.int .u64 1000000000), .lit (.int .u64 10000000000), .lit (.int .u64 100000000000), .lit (.int .u64 1000000000000), .lit (.int .u64 10000000000000), .lit (.int .u64 100000000000000), .lit (.int .u64 1000000000000000), .lit (.int .u64 10000000000000000), .lit (.int .u64 100000000000000000), .lit (.int .u64 1000000000000000000), .lit (.int .u64 10000000000000000000)]
def laid_unicode_utf8_acceptRanges {H : Type} : DataW H := .agg [.agg [.lit (.int .u8 128), .lit (.int .u8 191)], .agg [.lit (.int .u8 160), .lit (.int .u8 191)], .agg [.lit (.int .u8 128), .lit (.int .u8 159)], .agg [.lit (.int .u8 144), .lit (.int .u8 191)], .agg [.lit (.int .u8 128), .lit (.int .u8 143)], .agg [.lit (.int .u8 0), .lit (.int .u8 0)], .agg [.lit (.int .u8 0), .lit (.int .u8 0)], .agg [.lit (.int .u8 0), .lit (.int .u8 0)], .agg [.lit (.int .u8 0), .lit (.int .u8 0)], .agg [.lit (.int .u8 0), .lit (.int .u8 0)], .agg [.lit (.int .u8 0), .lit (.int .u8 0)], .agg [.lit (.int .u8 0), .lit (.int .u8 0)], .agg [.lit (.int .u8 0), .lit (.int .u8 0)], .agg [.lit (.int .u8 0), .lit (.int .u8 0)], .agg [.lit (.int .u8 0), .lit (.int .u8 0)], .agg [.lit (.int .u8 0), .lit (.int .u8 0)]]
/-- One of Go's own tables, pinned by name: the form's constant. -/
def laid_unicode_utf8_first : DataW Unit := Go.Pinned.utf8First

/-- 'portlaw1.MailTokens': WHATEVER THE INPUT: true; the input reads as it did. -/
def mailTokensSpec : ChangeSpec := { name := "mailTokens", fn := fun _ => fun
  | [d1, d2, d3] => { results := [.lit (.bool true)], args := [d1, d2, d3] }
  | _ => none }
def mailTokensRow : OpenClaim := { program := "ytcljkhhjondhcaadoor", sum := "95ff472de0c056e5226fc18d92fb19094dc4a034b1596144b0815ac7e44dc194", func := "porterslodge/portlaw1.MailTokens", spec := "mailTokens", inPlace := ["internal/abi.NoEscape", "internal/bytealg.MakeNoZero"], recurses := true, named := ["internal/strconv.uint64pow10", "math/bits.deBruijn32tab", "math/bits.deBruijn64tab"], apart := false, laid := [("math/bits.deBruijn32tab", laid_math_bits_deBruijn32tab), ("math/bits.deBruijn64tab", laid_math_bits_deBruijn64tab), ("internal/strconv.uint64pow10", laid_internal_strconv_uint64pow10)] }
def MailTokensSaid : Prop := mailTokensRow.holds Tryd.pinned (OpenSpec.ofChange mailTokensSpec)

/-- ITS FALSE NEIGHBOUR: 'it returns false'. Refute it at one input. -/
def mailTokensWrong : ChangeSpec := { name := "mailTokens", fn := fun _ => fun
  | [d1, d2, d3] => { results := [.lit (.bool false)], args := [d1, d2, d3] }
  | _ => none }
def MailTokensWrongFalsely : Prop := mailTokensRow.holds Tryd.pinned (OpenSpec.ofChange mailTokensWrong)

/-- 'portkeep1.MailSteady': WHATEVER THE INPUT: true; the input reads as it did. -/
def mailSteadySpec : ChangeSpec := { name := "mailSteady", fn := fun _ => fun
  | [d1, d2] => { results := [.lit (.bool true)], args := [d1, d2] }
  | _ => none }
def mailSteadyRow : OpenClaim := { program := "ytcljkhhjondhcaadoor", sum := "95ff472de0c056e5226fc18d92fb19094dc4a034b1596144b0815ac7e44dc194", func := "porterslodge/portkeep1.MailSteady", spec := "mailSteady", inPlace := ["internal/bytealg.IndexByteString", "internal/bytealg.IndexString", "internal/abi.NoEscape"], named := ["unicode/utf8.first", "unicode/utf8.acceptRanges", "internal/bytealg.MaxLen"], apart := false, laid := [("unicode/utf8.acceptRanges", laid_unicode_utf8_acceptRanges), ("unicode/utf8.first", laid_unicode_utf8_first)] }
def MailSteadySaid : Prop := mailSteadyRow.holds Tryd.pinned (OpenSpec.ofChange mailSteadySpec)

/-- ITS FALSE NEIGHBOUR: 'it returns false'. Refute it at one input. -/
def mailSteadyWrong : ChangeSpec := { name := "mailSteady", fn := fun _ => fun
  | [d1, d2] => { results := [.lit (.bool false)], args := [d1, d2] }
  | _ => none }
def MailSteadyWrongFalsely : Prop := mailSteadyRow.holds Tryd.pinned (OpenSpec.ofChange mailSteadyWrong)

/-- 'portlaw1.MailKinds': WHATEVER THE INPUT: true; the input reads as it did. -/
def mailKindsSpec : ChangeSpec := { name := "mailKinds", fn := fun _ => fun
  | [d] => { results := [.lit (.bool true)], args := [d] }
  | _ => none }
def mailKindsRow : OpenClaim := { program := "ytcljkhhjondhcaadoor", sum := "95ff472de0c056e5226fc18d92fb19094dc4a034b1596144b0815ac7e44dc194", func := "porterslodge/portlaw1.MailKinds", spec := "mailKinds", inPlace := ["internal/bytealg.IndexByteString", "internal/bytealg.IndexString"], named := ["unicode/utf8.first", "unicode/utf8.acceptRanges", "internal/bytealg.MaxLen"], apart := false, laid := [("unicode/utf8.acceptRanges", laid_unicode_utf8_acceptRanges), ("unicode/utf8.first", laid_unicode_utf8_first)] }
def MailKindsSaid : Prop := mailKindsRow.holds Tryd.pinned (OpenSpec.ofChange mailKindsSpec)

/-- ITS FALSE NEIGHBOUR: 'it returns false'. Refute it at one input. -/
def mailKindsWrong : ChangeSpec := { name := "mailKinds", fn := fun _ => fun
  | [d] => { results := [.lit (.bool false)], args := [d] }
  | _ => none }
def MailKindsWrongFalsely : Prop := mailKindsRow.holds Tryd.pinned (OpenSpec.ofChange mailKindsWrong)

/-- 'portlaw1.MailAddresses': WHATEVER THE INPUT: true; the input reads as it did. -/
def mailAddressesSpec : ChangeSpec := { name := "mailAddresses", fn := fun _ => fun
  | [d1, d2, d3] => { results := [.lit (.bool true)], args := [d1, d2, d3] }
  | _ => none }
def mailAddressesRow : OpenClaim := { program := "ytcljkhhjondhcaadoor", sum := "95ff472de0c056e5226fc18d92fb19094dc4a034b1596144b0815ac7e44dc194", func := "porterslodge/portlaw1.MailAddresses", spec := "mailAddresses", inPlace := ["internal/bytealg.IndexByteString", "internal/bytealg.IndexString", "internal/bytealg.CountString"], unfollowed := true, recurses := true, named := ["internal/bytealg.MaxLen", "unicode/utf8.first", "unicode/utf8.acceptRanges"], apart := false, laid := [("unicode/utf8.acceptRanges", laid_unicode_utf8_acceptRanges), ("unicode/utf8.first", laid_unicode_utf8_first)] }
def MailAddressesSaid : Prop := mailAddressesRow.holds Tryd.pinned (OpenSpec.ofChange mailAddressesSpec)

/-- ITS FALSE NEIGHBOUR: 'it returns false'. Refute it at one input. -/
def mailAddressesWrong : ChangeSpec := { name := "mailAddresses", fn := fun _ => fun
  | [d1, d2, d3] => { results := [.lit (.bool false)], args := [d1, d2, d3] }
  | _ => none }
def MailAddressesWrongFalsely : Prop := mailAddressesRow.holds Tryd.pinned (OpenSpec.ofChange mailAddressesWrong)

/-- 'portkeep1.MailWrapped': WHATEVER THE INPUT: true; the input reads as it did. -/
def mailWrappedSpec : ChangeSpec := { name := "mailWrapped", fn := fun _ => fun
  | [d1, d2] => { results := [.lit (.bool true)], args := [d1, d2] }
  | _ => none }
def mailWrappedRow : OpenClaim := { program := "ytcljkhhjondhcaadoor", sum := "95ff472de0c056e5226fc18d92fb19094dc4a034b1596144b0815ac7e44dc194", func := "porterslodge/portkeep1.MailWrapped", spec := "mailWrapped", inPlace := ["internal/bytealg.IndexByteString", "internal/bytealg.IndexString", "internal/abi.NoEscape", "internal/bytealg.MakeNoZero"], named := ["unicode/utf8.first", "unicode/utf8.acceptRanges", "internal/bytealg.MaxLen"], apart := false, laid := [("unicode/utf8.acceptRanges", laid_unicode_utf8_acceptRanges), ("unicode/utf8.first", laid_unicode_utf8_first)] }
def MailWrappedSaid : Prop := mailWrappedRow.holds Tryd.pinned (OpenSpec.ofChange mailWrappedSpec)

/-- ITS FALSE NEIGHBOUR: 'it returns false'. Refute it at one input. -/
def mailWrappedWrong : ChangeSpec := { name := "mailWrapped", fn := fun _ => fun
  | [d1, d2] => { results := [.lit (.bool false)], args := [d1, d2] }
  | _ => none }
def MailWrappedWrongFalsely : Prop := mailWrappedRow.holds Tryd.pinned (OpenSpec.ofChange mailWrappedWrong)

/-- 'portlaw1.MailMasks': WHATEVER THE INPUT: true; the input reads as it did. -/
def mailMasksSpec : ChangeSpec := { name := "mailMasks", fn := fun _ => fun
  | [d1, d2, d3] => { results := [.lit (.bool true)], args := [d1, d2, d3] }
  | _ => none }
def mailMasksRow : OpenClaim := { program := "ytcljkhhjondhcaadoor", sum := "95ff472de0c056e5226fc18d92fb19094dc4a034b1596144b0815ac7e44dc194", func := "porterslodge/portlaw1.MailMasks", spec := "mailMasks", inPlace := ["internal/bytealg.IndexByteString", "internal/bytealg.IndexString", "internal/abi.NoEscape", "internal/bytealg.MakeNoZero"], named := ["unicode/utf8.first", "unicode/utf8.acceptRanges", "internal/bytealg.MaxLen"], apart := false, laid := [("unicode/utf8.acceptRanges", laid_unicode_utf8_acceptRanges), ("unicode/utf8.first", laid_unicode_utf8_first)] }
def MailMasksSaid : Prop := mailMasksRow.holds Tryd.pinned (OpenSpec.ofChange mailMasksSpec)

/-- ITS FALSE NEIGHBOUR: 'it returns false'. Refute it at one input. -/
def mailMasksWrong : ChangeSpec := { name := "mailMasks", fn := fun _ => fun
  | [d1, d2, d3] => { results := [.lit (.bool false)], args := [d1, d2, d3] }
  | _ => none }
def MailMasksWrongFalsely : Prop := mailMasksRow.holds Tryd.pinned (OpenSpec.ofChange mailMasksWrong)

/-- 'portkeep1.MailQuoted': WHATEVER THE INPUT: true; the input reads as it did. -/
def mailQuotedSpec : ChangeSpec := { name := "mailQuoted", fn := fun _ => fun
  | [d] => { results := [.lit (.bool true)], args := [d] }
  | _ => none }
def mailQuotedRow : OpenClaim := { program := "ytcljkhhjondhcaadoor", sum := "95ff472de0c056e5226fc18d92fb19094dc4a034b1596144b0815ac7e44dc194", func := "porterslodge/portkeep1.MailQuoted", spec := "mailQuoted", inPlace := ["internal/bytealg.IndexByteString", "internal/bytealg.IndexString", "internal/abi.NoEscape"], named := ["unicode/utf8.first", "unicode/utf8.acceptRanges", "internal/bytealg.MaxLen"], apart := false, laid := [("unicode/utf8.acceptRanges", laid_unicode_utf8_acceptRanges), ("unicode/utf8.first", laid_unicode_utf8_first)] }
def MailQuotedSaid : Prop := mailQuotedRow.holds Tryd.pinned (OpenSpec.ofChange mailQuotedSpec)

/-- ITS FALSE NEIGHBOUR: 'it returns false'. Refute it at one input. -/
def mailQuotedWrong : ChangeSpec := { name := "mailQuoted", fn := fun _ => fun
  | [d] => { results := [.lit (.bool false)], args := [d] }
  | _ => none }
def MailQuotedWrongFalsely : Prop := mailQuotedRow.holds Tryd.pinned (OpenSpec.ofChange mailQuotedWrong)

/-- 'portkeep1.MailTold': WHATEVER THE INPUT: true; the input reads as it did. -/
def mailToldSpec : ChangeSpec := { name := "mailTold", fn := fun _ => fun
  | [d1, d2, d3, d4] => { results := [.lit (.bool true)], args := [d1, d2, d3, d4] }
  | _ => none }
def mailToldRow : OpenClaim := { program := "ytcljkhhjondhcaadoor", sum := "95ff472de0c056e5226fc18d92fb19094dc4a034b1596144b0815ac7e44dc194", func := "porterslodge/portkeep1.MailTold", spec := "mailTold", inPlace := ["internal/bytealg.IndexByteString", "internal/bytealg.IndexString", "internal/abi.NoEscape"], named := ["unicode/utf8.first", "unicode/utf8.acceptRanges", "internal/strconv.uint64pow10", "math/bits.deBruijn32tab", "math/bits.deBruijn64tab", "internal/bytealg.MaxLen"], apart := false, laid := [("math/bits.deBruijn32tab", laid_math_bits_deBruijn32tab), ("math/bits.deBruijn64tab", laid_math_bits_deBruijn64tab), ("internal/strconv.uint64pow10", laid_internal_strconv_uint64pow10), ("unicode/utf8.acceptRanges", laid_unicode_utf8_acceptRanges), ("unicode/utf8.first", laid_unicode_utf8_first)] }
def MailToldSaid : Prop := mailToldRow.holds Tryd.pinned (OpenSpec.ofChange mailToldSpec)

/-- ITS FALSE NEIGHBOUR: 'it returns false'. Refute it at one input. -/
def mailToldWrong : ChangeSpec := { name := "mailTold", fn := fun _ => fun
  | [d1, d2, d3, d4] => { results := [.lit (.bool false)], args := [d1, d2, d3, d4] }
  | _ => none }
def MailToldWrongFalsely : Prop := mailToldRow.holds Tryd.pinned (OpenSpec.ofChange mailToldWrong)

/-- 'portlaw1.MailChecks': WHATEVER THE INPUT: true; the input reads as it did. -/
def mailChecksSpec : ChangeSpec := { name := "mailChecks", fn := fun _ => fun
  | [d] => { results := [.lit (.bool true)], args := [d] }
  | _ => none }
def mailChecksRow : OpenClaim := { program := "ytcljkhhjondhcaadoor", sum := "95ff472de0c056e5226fc18d92fb19094dc4a034b1596144b0815ac7e44dc194", func := "porterslodge/portlaw1.MailChecks", spec := "mailChecks", inPlace := ["internal/bytealg.IndexByteString", "internal/bytealg.IndexString", "internal/bytealg.CountString", "internal/abi.NoEscape", "internal/bytealg.MakeNoZero"], unfollowed := true, recurses := true, named := ["internal/bytealg.MaxLen", "unicode/utf8.first", "unicode/utf8.acceptRanges", "internal/strconv.uint64pow10", "math/bits.deBruijn32tab", "math/bits.deBruijn64tab"], apart := false, laid := [("math/bits.deBruijn32tab", laid_math_bits_deBruijn32tab), ("math/bits.deBruijn64tab", laid_math_bits_deBruijn64tab), ("internal/strconv.uint64pow10", laid_internal_strconv_uint64pow10), ("unicode/utf8.acceptRanges", laid_unicode_utf8_acceptRanges), ("unicode/utf8.first", laid_unicode_utf8_first)] }
def MailChecksSaid : Prop := mailChecksRow.holds Tryd.pinned (OpenSpec.ofChange mailChecksSpec)

/-- ITS FALSE NEIGHBOUR: 'it returns false'. Refute it at one input. -/
def mailChecksWrong : ChangeSpec := { name := "mailChecks", fn := fun _ => fun
  | [d] => { results := [.lit (.bool false)], args := [d] }
  | _ => none }
def MailChecksWrongFalsely : Prop := mailChecksRow.holds Tryd.pinned (OpenSpec.ofChange mailChecksWrong)

/-- 'portkeep1.TopThreads': WHATEVER THE INPUT: true; the input reads as it did. -/
def topThreadsSpec : ChangeSpec := { name := "topThreads", fn := fun _ => fun
  | [d1, d2] => { results := [.lit (.bool true)], args := [d1, d2] }
  | _ => none }
def topThreadsRow : OpenClaim := { program := "ytcljkhhjondhcaadoor", sum := "95ff472de0c056e5226fc18d92fb19094dc4a034b1596144b0815ac7e44dc194", func := "porterslodge/portkeep1.TopThreads", spec := "topThreads", inPlace := ["internal/bytealg.IndexByteString", "internal/bytealg.IndexString", "internal/abi.NoEscape", "internal/bytealg.CountString", "internal/bytealg.MakeNoZero"], unfollowed := true, recurses := true, named := ["unicode/utf8.first", "unicode/utf8.acceptRanges", "internal/bytealg.MaxLen", "internal/strconv.uint64pow10", "math/bits.deBruijn32tab", "math/bits.deBruijn64tab"], apart := false, laid := [("math/bits.deBruijn32tab", laid_math_bits_deBruijn32tab), ("math/bits.deBruijn64tab", laid_math_bits_deBruijn64tab), ("internal/strconv.uint64pow10", laid_internal_strconv_uint64pow10), ("unicode/utf8.acceptRanges", laid_unicode_utf8_acceptRanges), ("unicode/utf8.first", laid_unicode_utf8_first)] }
def TopThreadsSaid : Prop := topThreadsRow.holds Tryd.pinned (OpenSpec.ofChange topThreadsSpec)

/-- ITS FALSE NEIGHBOUR: 'it returns false'. Refute it at one input. -/
def topThreadsWrong : ChangeSpec := { name := "topThreads", fn := fun _ => fun
  | [d1, d2] => { results := [.lit (.bool false)], args := [d1, d2] }
  | _ => none }
def TopThreadsWrongFalsely : Prop := topThreadsRow.holds Tryd.pinned (OpenSpec.ofChange topThreadsWrong)

/- THE SECOND FORM. 'bulk': how many values and letters a reading holds, each counted each time it is reached (what is shared counts as often as it is met; a slice's spare places count too). A statement '..UptoSaid' is the law's where the arguments, and the package variables that the reading takes, are together of bulk at most 1048576: NARROWER than '..Said'. Prove '..Said' where nothing that the law and all that it calls make is longer than what came in: it says more and counts as full. Else prove '..UptoSaid'. A law counts once. -/
mutual
def uptoBulk {H : Type} : DataW H → Nat
  | .lit (.string bytes) => bytes.length + 1
  | .lit _ => 1
  | .nil => 1
  | .ptr d => uptoBulk d + 1
  | .slice elems spare => uptoBulkAll elems + uptoBulkAll spare + 1
  | .agg parts => uptoBulkAll parts + 1
  | .iface _ d => uptoBulk d + 1
  | .map entries => uptoBulkEntries entries + 1
  | .held _ => 1
def uptoBulkAll {H : Type} : List (DataW H) → Nat
  | [] => 0
  | d :: r => uptoBulk d + uptoBulkAll r
def uptoBulkEntries {H : Type} : List (Lit × DataW H) → Nat
  | [] => 0
  | x :: r => uptoBulkEntry x + uptoBulkEntries r
def uptoBulkEntry {H : Type} : Lit × DataW H → Nat
  | (.string bytes, d) => bytes.length + uptoBulk d + 1
  | (_, d) => uptoBulk d + 1
 end
def uptoSmall : (H : Type) → List (DataW H) → Bool := fun _ ds => decide (uptoBulkAll ds ≤ 1048576)
def OpenSpec.upto (s : _root_.Go.ChangeSpec) : _root_.Go.OpenSpec := { _root_.Go.OpenSpec.ofChange s with cond := some uptoSmall }

/-- 'portlaw1.MailTokens', WHERE WHAT IT READS IS OF BULK AT MOST 1048576: true; the input reads as it did. -/
def mailTokensUptoRow : OpenClaim := { program := "ytcljkhhjondhcaadoor", sum := "95ff472de0c056e5226fc18d92fb19094dc4a034b1596144b0815ac7e44dc194", func := "porterslodge/portlaw1.MailTokens", spec := "mailTokens", inPlace := ["internal/abi.NoEscape", "internal/bytealg.MakeNoZero"], recurses := true, named := ["internal/strconv.uint64pow10", "math/bits.deBruijn32tab", "math/bits.deBruijn64tab"], apart := false, laid := [("math/bits.deBruijn32tab", laid_math_bits_deBruijn32tab), ("math/bits.deBruijn64tab", laid_math_bits_deBruijn64tab), ("internal/strconv.uint64pow10", laid_internal_strconv_uint64pow10)], narrowed := true }
def MailTokensUptoSaid : Prop := mailTokensUptoRow.holds Tryd.pinned (OpenSpec.upto mailTokensSpec)

/-- 'portkeep1.MailSteady', WHERE WHAT IT READS IS OF BULK AT MOST 1048576: true; the input reads as it did. -/
def mailSteadyUptoRow : OpenClaim := { program := "ytcljkhhjondhcaadoor", sum := "95ff472de0c056e5226fc18d92fb19094dc4a034b1596144b0815ac7e44dc194", func := "porterslodge/portkeep1.MailSteady", spec := "mailSteady", inPlace := ["internal/bytealg.IndexByteString", "internal/bytealg.IndexString", "internal/abi.NoEscape"], named := ["unicode/utf8.first", "unicode/utf8.acceptRanges", "internal/bytealg.MaxLen"], apart := false, laid := [("unicode/utf8.acceptRanges", laid_unicode_utf8_acceptRanges), ("unicode/utf8.first", laid_unicode_utf8_first)], narrowed := true }
def MailSteadyUptoSaid : Prop := mailSteadyUptoRow.holds Tryd.pinned (OpenSpec.upto mailSteadySpec)

/-- 'portlaw1.MailKinds', WHERE WHAT IT READS IS OF BULK AT MOST 1048576: true; the input reads as it did. -/
def mailKindsUptoRow : OpenClaim := { program := "ytcljkhhjondhcaadoor", sum := "95ff472de0c056e5226fc18d92fb19094dc4a034b1596144b0815ac7e44dc194", func := "porterslodge/portlaw1.MailKinds", spec := "mailKinds", inPlace := ["internal/bytealg.IndexByteString", "internal/bytealg.IndexString"], named := ["unicode/utf8.first", "unicode/utf8.acceptRanges", "internal/bytealg.MaxLen"], apart := false, laid := [("unicode/utf8.acceptRanges", laid_unicode_utf8_acceptRanges), ("unicode/utf8.first", laid_unicode_utf8_first)], narrowed := true }
def MailKindsUptoSaid : Prop := mailKindsUptoRow.holds Tryd.pinned (OpenSpec.upto mailKindsSpec)

/-- 'portlaw1.MailAddresses', WHERE WHAT IT READS IS OF BULK AT MOST 1048576: true; the input reads as it did. -/
def mailAddressesUptoRow : OpenClaim := { program := "ytcljkhhjondhcaadoor", sum := "95ff472de0c056e5226fc18d92fb19094dc4a034b1596144b0815ac7e44dc194", func := "porterslodge/portlaw1.MailAddresses", spec := "mailAddresses", inPlace := ["internal/bytealg.IndexByteString", "internal/bytealg.IndexString", "internal/bytealg.CountString"], unfollowed := true, recurses := true, named := ["internal/bytealg.MaxLen", "unicode/utf8.first", "unicode/utf8.acceptRanges"], apart := false, laid := [("unicode/utf8.acceptRanges", laid_unicode_utf8_acceptRanges), ("unicode/utf8.first", laid_unicode_utf8_first)], narrowed := true }
def MailAddressesUptoSaid : Prop := mailAddressesUptoRow.holds Tryd.pinned (OpenSpec.upto mailAddressesSpec)

/-- 'portkeep1.MailWrapped', WHERE WHAT IT READS IS OF BULK AT MOST 1048576: true; the input reads as it did. -/
def mailWrappedUptoRow : OpenClaim := { program := "ytcljkhhjondhcaadoor", sum := "95ff472de0c056e5226fc18d92fb19094dc4a034b1596144b0815ac7e44dc194", func := "porterslodge/portkeep1.MailWrapped", spec := "mailWrapped", inPlace := ["internal/bytealg.IndexByteString", "internal/bytealg.IndexString", "internal/abi.NoEscape", "internal/bytealg.MakeNoZero"], named := ["unicode/utf8.first", "unicode/utf8.acceptRanges", "internal/bytealg.MaxLen"], apart := false, laid := [("unicode/utf8.acceptRanges", laid_unicode_utf8_acceptRanges), ("unicode/utf8.first", laid_unicode_utf8_first)], narrowed := true }
def MailWrappedUptoSaid : Prop := mailWrappedUptoRow.holds Tryd.pinned (OpenSpec.upto mailWrappedSpec)

/-- 'portlaw1.MailMasks', WHERE WHAT IT READS IS OF BULK AT MOST 1048576: true; the input reads as it did. -/
def mailMasksUptoRow : OpenClaim := { program := "ytcljkhhjondhcaadoor", sum := "95ff472de0c056e5226fc18d92fb19094dc4a034b1596144b0815ac7e44dc194", func := "porterslodge/portlaw1.MailMasks", spec := "mailMasks", inPlace := ["internal/bytealg.IndexByteString", "internal/bytealg.IndexString", "internal/abi.NoEscape", "internal/bytealg.MakeNoZero"], named := ["unicode/utf8.first", "unicode/utf8.acceptRanges", "internal/bytealg.MaxLen"], apart := false, laid := [("unicode/utf8.acceptRanges", laid_unicode_utf8_acceptRanges), ("unicode/utf8.first", laid_unicode_utf8_first)], narrowed := true }
def MailMasksUptoSaid : Prop := mailMasksUptoRow.holds Tryd.pinned (OpenSpec.upto mailMasksSpec)

/-- 'portkeep1.MailQuoted', WHERE WHAT IT READS IS OF BULK AT MOST 1048576: true; the input reads as it did. -/
def mailQuotedUptoRow : OpenClaim := { program := "ytcljkhhjondhcaadoor", sum := "95ff472de0c056e5226fc18d92fb19094dc4a034b1596144b0815ac7e44dc194", func := "porterslodge/portkeep1.MailQuoted", spec := "mailQuoted", inPlace := ["internal/bytealg.IndexByteString", "internal/bytealg.IndexString", "internal/abi.NoEscape"], named := ["unicode/utf8.first", "unicode/utf8.acceptRanges", "internal/bytealg.MaxLen"], apart := false, laid := [("unicode/utf8.acceptRanges", laid_unicode_utf8_acceptRanges), ("unicode/utf8.first", laid_unicode_utf8_first)], narrowed := true }
def MailQuotedUptoSaid : Prop := mailQuotedUptoRow.holds Tryd.pinned (OpenSpec.upto mailQuotedSpec)

/-- 'portkeep1.MailTold', WHERE WHAT IT READS IS OF BULK AT MOST 1048576: true; the input reads as it did. -/
def mailToldUptoRow : OpenClaim := { program := "ytcljkhhjondhcaadoor", sum := "95ff472de0c056e5226fc18d92fb19094dc4a034b1596144b0815ac7e44dc194", func := "porterslodge/portkeep1.MailTold", spec := "mailTold", inPlace := ["internal/bytealg.IndexByteString", "internal/bytealg.IndexString", "internal/abi.NoEscape"], named := ["unicode/utf8.first", "unicode/utf8.acceptRanges", "internal/strconv.uint64pow10", "math/bits.deBruijn32tab", "math/bits.deBruijn64tab", "internal/bytealg.MaxLen"], apart := false, laid := [("math/bits.deBruijn32tab", laid_math_bits_deBruijn32tab), ("math/bits.deBruijn64tab", laid_math_bits_deBruijn64tab), ("internal/strconv.uint64pow10", laid_internal_strconv_uint64pow10), ("unicode/utf8.acceptRanges", laid_unicode_utf8_acceptRanges), ("unicode/utf8.first", laid_unicode_utf8_first)], narrowed := true }
def MailToldUptoSaid : Prop := mailToldUptoRow.holds Tryd.pinned (OpenSpec.upto mailToldSpec)

/-- 'portlaw1.MailChecks', WHERE WHAT IT READS IS OF BULK AT MOST 1048576: true; the input reads as it did. -/
def mailChecksUptoRow : OpenClaim := { program := "ytcljkhhjondhcaadoor", sum := "95ff472de0c056e5226fc18d92fb19094dc4a034b1596144b0815ac7e44dc194", func := "porterslodge/portlaw1.MailChecks", spec := "mailChecks", inPlace := ["internal/bytealg.IndexByteString", "internal/bytealg.IndexString", "internal/bytealg.CountString", "internal/abi.NoEscape", "internal/bytealg.MakeNoZero"], unfollowed := true, recurses := true, named := ["internal/bytealg.MaxLen", "unicode/utf8.first", "unicode/utf8.acceptRanges", "internal/strconv.uint64pow10", "math/bits.deBruijn32tab", "math/bits.deBruijn64tab"], apart := false, laid := [("math/bits.deBruijn32tab", laid_math_bits_deBruijn32tab), ("math/bits.deBruijn64tab", laid_math_bits_deBruijn64tab), ("internal/strconv.uint64pow10", laid_internal_strconv_uint64pow10), ("unicode/utf8.acceptRanges", laid_unicode_utf8_acceptRanges), ("unicode/utf8.first", laid_unicode_utf8_first)], narrowed := true }
def MailChecksUptoSaid : Prop := mailChecksUptoRow.holds Tryd.pinned (OpenSpec.upto mailChecksSpec)

/-- 'portkeep1.TopThreads', WHERE WHAT IT READS IS OF BULK AT MOST 1048576: true; the input reads as it did. -/
def topThreadsUptoRow : OpenClaim := { program := "ytcljkhhjondhcaadoor", sum := "95ff472de0c056e5226fc18d92fb19094dc4a034b1596144b0815ac7e44dc194", func := "porterslodge/portkeep1.TopThreads", spec := "topThreads", inPlace := ["internal/bytealg.IndexByteString", "internal/bytealg.IndexString", "internal/abi.NoEscape", "internal/bytealg.CountString", "internal/bytealg.MakeNoZero"], unfollowed := true, recurses := true, named := ["unicode/utf8.first", "unicode/utf8.acceptRanges", "internal/bytealg.MaxLen", "internal/strconv.uint64pow10", "math/bits.deBruijn32tab", "math/bits.deBruijn64tab"], apart := false, laid := [("math/bits.deBruijn32tab", laid_math_bits_deBruijn32tab), ("math/bits.deBruijn64tab", laid_math_bits_deBruijn64tab), ("internal/strconv.uint64pow10", laid_internal_strconv_uint64pow10), ("unicode/utf8.acceptRanges", laid_unicode_utf8_acceptRanges), ("unicode/utf8.first", laid_unicode_utf8_first)], narrowed := true }
def TopThreadsUptoSaid : Prop := topThreadsUptoRow.holds Tryd.pinned (OpenSpec.upto topThreadsSpec)

end Rows
end Go.Proofs.YtcljkhhjondhcaaDoor
