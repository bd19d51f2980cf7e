/-
  NARROWER THAN 'FOR EVERY INPUT', by the rows' own cells (each row's printed sentence says how): TicketValues: laid · TicketLogs: laid · RuleChecks: loops, laid · RuleTriggers: loops, laid · RuleHolds: loops, laid · TicketFormReads: laid · TicketValueReads: laid.
  DERIVED. THE GIVEN ROWS OF THIS SEAT. 7 by the template 'for every input the law returns true; each argument reads behind the call as it read before'; 0 by the template 'total and deterministic' (their statements: YtijajimooldhiaaDoorTotals.lean).
  GIVEN WITH THE SEED: the statements are not yours to turn. If you find one false, say at which input.
  Laid BY PROGRAM, IN A SANDBOX (cutbox-rows.mjs): the forced cells as the released guide's own fill.sh prints them over the translation 7262b9a1113f8dda… (all of the seat's roots in one cut). By AI agents, Wed Nov 11 2026. No macro, syntax, notation, axiom, sorry.
-/
import Derived.Test.YtijajimooldhiaaDoorChecked
import GoSem.PinnedTables
import GoSem.Claim
import GoSem.ClaimJoined
import GoSem.ClaimMapViews
import Derived.JoinedTies
import Derived.KernelRfl
namespace Go.Proofs.YtijajimooldhiaaDoor
/- THE CELL 'sum', in the pinned program and in every row, IS THE sha256 OF THE DUMP (.gsa) THAT YtijajimooldhiaaDoorProg.lean LOADS. Nothing in Lean hashes anything: it is a label: what it is worth is what the hold of that sum in a sandbox is worth. -/
noncomputable def Tryd.pinned : Pinned := { name := "ytijajimooldhiaadoor", sum := "7262b9a1113f8dda9d69ccd9e2294ef8d386c485720282a7897f8c6a788d0f35", checked := Tryd.checked }
namespace Rows
def none {H : Type} : Left H := { results := [], args := [] }

/- WHAT THE LISTED PACKAGE-LEVEL VARIABLES READ AS WHEN THE CALL BEGINS. Each datum BY PROGRAM (the guide's laid-datum.mjs) off the statement by which the dump's own 'gosem.cut.vars' lays the variable. In a bare row this is a premise. The card (YtijajimooldhiaaDoorCards.lean) ties it to the program's text. -/
def laid_math_bits_deBruijn32tab {H : Type} : DataW H := .agg [.lit (.int .u8 0), .lit (.int .u8 1), .lit (.int .u8 28), .lit (.int .u8 2), .lit (.int .u8 29), .lit (.int .u8 14), .lit (.int .u8 24), .lit (.int .u8 3), .lit (.int .u8 30), .lit (.int .u8 22), .lit (.int .u8 20), .lit (.int .u8 15), .lit (.int .u8 25), .lit (.int .u8 17), .lit (.int .u8 4), .lit (.int .u8 8), .lit (.int .u8 31), .lit (.int .u8 27), .lit (.int .u8 13), .lit (.int .u8 23), .lit (.int .u8 21), .lit (.int .u8 19), .lit (.int .u8 16), .lit (.int .u8 7), .lit (.int .u8 26), .lit (.int .u8 12), .lit (.int .u8 18), .lit (.int .u8 6), .lit (.int .u8 11), .lit (.int .u8 5), .lit (.int .u8 10), .lit (.int .u8 9)]
def laid_math_bits_deBruijn64tab {H : Type} : DataW H := .agg [.lit (.int .u8 0), .lit (.int .u8 1), .lit (.int .u8 56), .lit (.int .u8 2), .lit (.int .u8 57), .lit (.int .u8 49), .lit (.int .u8 28), .lit (.int .u8 3), .lit (.int .u8 61), .lit (.int .u8 58), .lit (.int .u8 42), .lit (.int .u8 50), .lit (.int .u8 38), .lit (.int .u8 29), .lit (.int .u8 17), .lit (.int .u8 4), .lit (.int .u8 62), .lit (.int .u8 47), .lit (.int .u8 59), .lit (.int .u8 36), .lit (.int .u8 45), .lit (.int .u8 43), .lit (.int .u8 51), .lit (.int .u8 22), .lit (.int .u8 53), .lit (.int .u8 39), .lit (.int .u8 33), .lit (.int .u8 30), .lit (.int .u8 24), .lit (.int .u8 18), .lit (.int .u8 12), .lit (.int .u8 5), .lit (.int .u8 63), .lit (.int .u8 55), .lit (.int .u8 48), .lit (.int .u8 27), .lit (.int .u8 60), .lit (.int .u8 41), .lit (.int .u8 37), .lit (.int .u8 16), .lit (.int .u8 46), .lit (.int .u8 35), .lit (.int .u8 44), .lit (.int .u8 21), .lit (.int .u8 52), .lit (.int .u8 32), .lit (.int .u8 23), .lit (.int .u8 11), .lit (.int .u8 54), .lit (.int .u8 26), .lit (.int .u8 40), .lit (.int .u8 15), .lit (.int .u8 34), .lit (.int .u8 20), .lit (.int .u8 31), .lit (.int .u8 10), .lit (.int .u8 25), .lit (.int .u8 14), .lit (.int .u8 19), .lit (.int .u8 9), .lit (.int .u8 13), .lit (.int .u8 8), .lit (.int .u8 7), .lit (.int .u8 6)]
def laid_internal_strconv_uint64pow10 {H : Type} : DataW H := .agg [.lit (.int .u64 1), .lit (.int .u64 10), .lit (.int .u64 100), .lit (.int .u64 1000), .lit (.int .u64 10000), .lit (.int .u64 100000), .lit (.int .u64 1000000), .lit (.int .u64 10000000), .lit (.int .u64 100000000), .lit (.int .u64 1000000000), .lit (.int .u64 10000000000), .lit (.int .u64 100000000000), .lit (.int .u64 1000000000000), .lit (.int .u64 10000000000000), .lit (.int .u64 100000000000000), .lit (.int .u64 1000000000000000), .lit (.int .u64 10000000000000000), .lit (.int .u64 100000000000000000), .lit (.int .u64 1000000000000000000), .lit (.int .u64 10000000000000000000)]
def laid_porterslodge_portref1_eventWords {H : Type} : DataW H := .slice [.lit (.string []), .lit (.string [111, 112, 101, 110, 101, 100]), .lit (.string [115, 97, 105, 100]), .lit (.string [110, 111, 116, 101, 100]), .lit (.string [115, 101, 116]), .lit (.string [109, 111, 118, 101, 100]), .lit (.string [97, 115, 115, 105, 103, 110, 101, 100]), .lit (.string [109, 101, 114, 103, 101, 100]), .lit (.string [115, 112, 108, 105, 116]), .lit (.string [117, 110, 100, 111, 110, 101]), .lit (.string [101, 114, 97, 115, 101, 100])] []
def laid_porterslodge_portref1_whatKinds {H : Type} : DataW H := .slice [.lit (.int .i64 2), .lit (.int .i64 2), .lit (.int .i64 6), .lit (.int .i64 5), .lit (.int .i64 5), .lit (.int .i64 2), .lit (.int .i64 2), .lit (.int .i64 1)] []
def laid_porterslodge_portref1_whatWords {H : Type} : DataW H := .slice [.lit (.string [46, 115, 116, 97, 116, 117, 115]), .lit (.string [46, 112, 114, 105, 111, 114, 105, 116, 121]), .lit (.string [46, 111, 119, 110, 101, 114]), .lit (.string [46, 111, 112, 101, 110, 101, 100]), .lit (.string [46, 99, 104, 97, 110, 103, 101, 100]), .lit (.string [46, 109, 101, 115, 115, 97, 103, 101, 115]), .lit (.string [46, 110, 111, 116, 101, 115]), .lit (.string [46, 109, 101, 114, 103, 101, 100])] []
def laid_porterslodge_portref1_statusWords {H : Type} : DataW H := .slice [.lit (.string []), .lit (.string [110, 101, 119]), .lit (.string [111, 112, 101, 110]), .lit (.string [119, 97, 105, 116, 105, 110, 103]), .lit (.string [104, 101, 108, 100]), .lit (.string [115, 111, 108, 118, 101, 100]), .lit (.string [99, 108, 111, 115, 101, 100])] []
def laid_porterslodge_portref1_opWords {H : Type} : DataW H := .slice [.lit (.string [61]), .lit (.string [33, 61]), .lit (.string [60]), .lit (.string [60, 61]), .lit (.string [62]), .lit (.string [62, 61])] []
def laid_unicode_utf8_acceptRanges {H : Type} : DataW H := .agg [.agg [.lit (.int .u8 128), .lit (.int .u8 191)], .agg [.lit (.int .u8 160), .lit (.int .u8 191)], .agg [.lit (.int .u8 128), .lit (.int .u8 159)], .agg [.lit (.int .u8 144), .lit (.int .u8 191)], .agg [.lit (.int .u8 128), .lit (.int .u8 143)], .agg [.lit (.int .u8 0), .lit (.int .u8 0)], .agg [.lit (.int .u8 0), .lit (.int .u8 0)], .agg [.lit (.int .u8 0), .lit (.int .u8 0)], .agg [.lit (.int .u8 0), .lit (.int .u8 0)], .agg [.lit (.int .u8 0), .lit (.int .u8 0)], .agg [.lit (.int .u8 0), .lit (.int .u8 0)], .agg [.lit (.int .u8 0), .lit (.int .u8 0)], .agg [.lit (.int .u8 0), .lit (.int .u8 0)], .agg [.lit (.int .u8 0), .lit (.int .u8 0)], .agg [.lit (.int .u8 0), .lit (.int .u8 0)], .agg [.lit (.int .u8 0), .lit (.int .u8 0)]]
def laid_strconv_ErrRange {H : Type} : DataW H := .iface "*errors.errorString" (.ptr (.agg [.lit (.string [118, 97, 108, 117, 101, 32, 111, 117, 116, 32, 111, 102, 32, 114, 97, 110, 103, 101])]))
def laid_strconv_ErrSyntax {H : Type} : DataW H := .iface "*errors.errorString" (.ptr (.agg [.lit (.string [105, 110, 118, 97, 108, 105, 100, 32, 115, 121, 110, 116, 97, 120])]))
def laid_porterslodge_portref1_kindWords {H : Type} : DataW H := .slice [.lit (.string [45]), .lit (.string [102, 108, 97, 103]), .lit (.string [110, 117, 109, 98, 101, 114]), .lit (.string [116, 101, 120, 116]), .lit (.string [99, 104, 111, 105, 99, 101]), .lit (.string [109, 111, 109, 101, 110, 116]), .lit (.string [112, 101, 114, 115, 111, 110])] []
/-- One of Go's own tables, pinned by name: the form's constant. -/
def laid_unicode_utf8_first : DataW Unit := Go.Pinned.utf8First

/-- 'portlaw1.TicketValues': WHATEVER THE INPUT: true; the input reads as it did. -/
def ticketValuesSpec : ChangeSpec := { name := "ticketValues", fn := fun _ => fun
  | [d1, d2, d3] => { results := [.lit (.bool true)], args := [d1, d2, d3] }
  | _ => none }
def ticketValuesRow : OpenClaim := { program := "ytijajimooldhiaadoor", sum := "7262b9a1113f8dda9d69ccd9e2294ef8d386c485720282a7897f8c6a788d0f35", func := "porterslodge/portlaw1.TicketValues", spec := "ticketValues", inPlace := ["internal/abi.NoEscape"], unfollowed := true, recurses := true, named := ["internal/strconv.uint64pow10", "math/bits.deBruijn32tab", "math/bits.deBruijn64tab"], apart := false, laid := [("math/bits.deBruijn32tab", laid_math_bits_deBruijn32tab), ("math/bits.deBruijn64tab", laid_math_bits_deBruijn64tab), ("internal/strconv.uint64pow10", laid_internal_strconv_uint64pow10)] }
def TicketValuesSaid : Prop := ticketValuesRow.holds Tryd.pinned (OpenSpec.ofChange ticketValuesSpec)

/-- ITS FALSE NEIGHBOUR: 'it returns false'. Refute it at one input. -/
def ticketValuesWrong : ChangeSpec := { name := "ticketValues", fn := fun _ => fun
  | [d1, d2, d3] => { results := [.lit (.bool false)], args := [d1, d2, d3] }
  | _ => none }
def TicketValuesWrongFalsely : Prop := ticketValuesRow.holds Tryd.pinned (OpenSpec.ofChange ticketValuesWrong)

/-- 'portlaw1.TicketLogs': WHATEVER THE INPUT: true; the input reads as it did. -/
def ticketLogsSpec : ChangeSpec := { name := "ticketLogs", fn := fun _ => fun
  | [d] => { results := [.lit (.bool true)], args := [d] }
  | _ => none }
def ticketLogsRow : OpenClaim := { program := "ytijajimooldhiaadoor", sum := "7262b9a1113f8dda9d69ccd9e2294ef8d386c485720282a7897f8c6a788d0f35", func := "porterslodge/portlaw1.TicketLogs", spec := "ticketLogs", inPlace := ["internal/abi.NoEscape", "internal/bytealg.MakeNoZero"], recurses := true, named := ["internal/strconv.uint64pow10", "math/bits.deBruijn32tab", "math/bits.deBruijn64tab", "porterslodge/portref1.eventWords"], apart := false, laid := [("math/bits.deBruijn32tab", laid_math_bits_deBruijn32tab), ("math/bits.deBruijn64tab", laid_math_bits_deBruijn64tab), ("internal/strconv.uint64pow10", laid_internal_strconv_uint64pow10), ("porterslodge/portref1.eventWords", laid_porterslodge_portref1_eventWords)] }
def TicketLogsSaid : Prop := ticketLogsRow.holds Tryd.pinned (OpenSpec.ofChange ticketLogsSpec)

/-- ITS FALSE NEIGHBOUR: 'it returns false'. Refute it at one input. -/
def ticketLogsWrong : ChangeSpec := { name := "ticketLogs", fn := fun _ => fun
  | [d] => { results := [.lit (.bool false)], args := [d] }
  | _ => none }
def TicketLogsWrongFalsely : Prop := ticketLogsRow.holds Tryd.pinned (OpenSpec.ofChange ticketLogsWrong)

/-- 'portlaw1.RuleChecks': WHATEVER THE INPUT: true; the input reads as it did. -/
def ruleChecksSpec : ChangeSpec := { name := "ruleChecks", fn := fun _ => fun
  | [d1, d2] => { results := [.lit (.bool true)], args := [d1, d2] }
  | _ => none }
def ruleChecksRow : OpenClaim := { program := "ytijajimooldhiaadoor", sum := "7262b9a1113f8dda9d69ccd9e2294ef8d386c485720282a7897f8c6a788d0f35", func := "porterslodge/portlaw1.RuleChecks", spec := "ruleChecks", inPlace := ["internal/abi.NoEscape", "internal/bytealg.MakeNoZero"], unfollowed := true, recurses := true, named := ["porterslodge/portref1.whatKinds", "internal/strconv.uint64pow10", "math/bits.deBruijn32tab", "math/bits.deBruijn64tab", "porterslodge/portref1.opWords", "porterslodge/portref1.whatWords", "porterslodge/portref1.statusWords"], loops := true, apart := false, laid := [("math/bits.deBruijn32tab", laid_math_bits_deBruijn32tab), ("math/bits.deBruijn64tab", laid_math_bits_deBruijn64tab), ("internal/strconv.uint64pow10", laid_internal_strconv_uint64pow10), ("porterslodge/portref1.whatKinds", laid_porterslodge_portref1_whatKinds), ("porterslodge/portref1.whatWords", laid_porterslodge_portref1_whatWords), ("porterslodge/portref1.statusWords", laid_porterslodge_portref1_statusWords), ("porterslodge/portref1.opWords", laid_porterslodge_portref1_opWords)] }
def RuleChecksSaid : Prop := ruleChecksRow.holds Tryd.pinned (OpenSpec.ofChange ruleChecksSpec)

/-- ITS FALSE NEIGHBOUR: 'it returns false'. Refute it at one input. -/
def ruleChecksWrong : ChangeSpec := { name := "ruleChecks", fn := fun _ => fun
  | [d1, d2] => { results := [.lit (.bool false)], args := [d1, d2] }
  | _ => none }
def RuleChecksWrongFalsely : Prop := ruleChecksRow.holds Tryd.pinned (OpenSpec.ofChange ruleChecksWrong)

/-- 'portlaw1.RuleTriggers': WHATEVER THE INPUT: true; the input reads as it did. -/
def ruleTriggersSpec : ChangeSpec := { name := "ruleTriggers", fn := fun _ => fun
  | [d1, d2] => { results := [.lit (.bool true)], args := [d1, d2] }
  | _ => none }
def ruleTriggersRow : OpenClaim := { program := "ytijajimooldhiaadoor", sum := "7262b9a1113f8dda9d69ccd9e2294ef8d386c485720282a7897f8c6a788d0f35", func := "porterslodge/portlaw1.RuleTriggers", spec := "ruleTriggers", inPlace := ["internal/abi.NoEscape", "internal/bytealg.MakeNoZero"], unfollowed := true, recurses := true, named := ["porterslodge/portref1.whatKinds", "internal/strconv.uint64pow10", "math/bits.deBruijn32tab", "math/bits.deBruijn64tab", "porterslodge/portref1.eventWords", "porterslodge/portref1.statusWords", "porterslodge/portref1.opWords", "porterslodge/portref1.whatWords"], loops := true, apart := false, laid := [("math/bits.deBruijn32tab", laid_math_bits_deBruijn32tab), ("math/bits.deBruijn64tab", laid_math_bits_deBruijn64tab), ("internal/strconv.uint64pow10", laid_internal_strconv_uint64pow10), ("porterslodge/portref1.whatKinds", laid_porterslodge_portref1_whatKinds), ("porterslodge/portref1.whatWords", laid_porterslodge_portref1_whatWords), ("porterslodge/portref1.statusWords", laid_porterslodge_portref1_statusWords), ("porterslodge/portref1.opWords", laid_porterslodge_portref1_opWords), ("porterslodge/portref1.eventWords", laid_porterslodge_portref1_eventWords)] }
def RuleTriggersSaid : Prop := ruleTriggersRow.holds Tryd.pinned (OpenSpec.ofChange ruleTriggersSpec)

/-- ITS FALSE NEIGHBOUR: 'it returns false'. Refute it at one input. -/
def ruleTriggersWrong : ChangeSpec := { name := "ruleTriggers", fn := fun _ => fun
  | [d1, d2] => { results := [.lit (.bool false)], args := [d1, d2] }
  | _ => none }
def RuleTriggersWrongFalsely : Prop := ruleTriggersRow.holds Tryd.pinned (OpenSpec.ofChange ruleTriggersWrong)

/-- 'portlaw1.RuleHolds': WHATEVER THE INPUT: true; the input reads as it did. -/
def ruleHoldsSpec : ChangeSpec := { name := "ruleHolds", fn := fun _ => fun
  | [d1, d2, d3] => { results := [.lit (.bool true)], args := [d1, d2, d3] }
  | _ => none }
def ruleHoldsRow : OpenClaim := { program := "ytijajimooldhiaadoor", sum := "7262b9a1113f8dda9d69ccd9e2294ef8d386c485720282a7897f8c6a788d0f35", func := "porterslodge/portlaw1.RuleHolds", spec := "ruleHolds", unfollowed := true, recurses := true, named := ["porterslodge/portref1.whatKinds"], loops := true, apart := false, laid := [("porterslodge/portref1.whatKinds", laid_porterslodge_portref1_whatKinds)] }
def RuleHoldsSaid : Prop := ruleHoldsRow.holds Tryd.pinned (OpenSpec.ofChange ruleHoldsSpec)

/-- ITS FALSE NEIGHBOUR: 'it returns false'. Refute it at one input. -/
def ruleHoldsWrong : ChangeSpec := { name := "ruleHolds", fn := fun _ => fun
  | [d1, d2, d3] => { results := [.lit (.bool false)], args := [d1, d2, d3] }
  | _ => none }
def RuleHoldsWrongFalsely : Prop := ruleHoldsRow.holds Tryd.pinned (OpenSpec.ofChange ruleHoldsWrong)

/-- 'portlaw1.TicketFormReads': WHATEVER THE INPUT: true; the input reads as it did. -/
def ticketFormReadsSpec : ChangeSpec := { name := "ticketFormReads", fn := fun _ => fun
  | [d] => { results := [.lit (.bool true)], args := [d] }
  | _ => none }
def ticketFormReadsRow : OpenClaim := { program := "ytijajimooldhiaadoor", sum := "7262b9a1113f8dda9d69ccd9e2294ef8d386c485720282a7897f8c6a788d0f35", func := "porterslodge/portlaw1.TicketFormReads", spec := "ticketFormReads", inPlace := ["internal/bytealg.IndexByteString", "internal/bytealg.IndexString", "internal/bytealg.CountString"], unfollowed := true, recurses := true, named := ["internal/bytealg.MaxLen", "unicode/utf8.first", "unicode/utf8.acceptRanges", "strconv.ErrSyntax", "strconv.ErrRange", "internal/strconv.uint64pow10", "math/bits.deBruijn32tab", "math/bits.deBruijn64tab", "porterslodge/portref1.kindWords"], apart := false, laid := [("math/bits.deBruijn32tab", laid_math_bits_deBruijn32tab), ("math/bits.deBruijn64tab", laid_math_bits_deBruijn64tab), ("internal/strconv.uint64pow10", laid_internal_strconv_uint64pow10), ("unicode/utf8.acceptRanges", laid_unicode_utf8_acceptRanges), ("strconv.ErrRange", laid_strconv_ErrRange), ("strconv.ErrSyntax", laid_strconv_ErrSyntax), ("porterslodge/portref1.kindWords", laid_porterslodge_portref1_kindWords), ("unicode/utf8.first", laid_unicode_utf8_first)] }
def TicketFormReadsSaid : Prop := ticketFormReadsRow.holds Tryd.pinned (OpenSpec.ofChange ticketFormReadsSpec)

/-- ITS FALSE NEIGHBOUR: 'it returns false'. Refute it at one input. -/
def ticketFormReadsWrong : ChangeSpec := { name := "ticketFormReads", fn := fun _ => fun
  | [d] => { results := [.lit (.bool false)], args := [d] }
  | _ => none }
def TicketFormReadsWrongFalsely : Prop := ticketFormReadsRow.holds Tryd.pinned (OpenSpec.ofChange ticketFormReadsWrong)

/-- 'portlaw1.TicketValueReads': WHATEVER THE INPUT: true; the input reads as it did. -/
def ticketValueReadsSpec : ChangeSpec := { name := "ticketValueReads", fn := fun _ => fun
  | [d1, d2, d3] => { results := [.lit (.bool true)], args := [d1, d2, d3] }
  | _ => none }
def ticketValueReadsRow : OpenClaim := { program := "ytijajimooldhiaadoor", sum := "7262b9a1113f8dda9d69ccd9e2294ef8d386c485720282a7897f8c6a788d0f35", func := "porterslodge/portlaw1.TicketValueReads", spec := "ticketValueReads", inPlace := ["internal/abi.NoEscape", "internal/bytealg.IndexByteString", "internal/bytealg.IndexString"], unfollowed := true, recurses := true, named := ["unicode/utf8.first", "unicode/utf8.acceptRanges", "strconv.ErrSyntax", "strconv.ErrRange", "internal/strconv.uint64pow10", "math/bits.deBruijn32tab", "math/bits.deBruijn64tab", "internal/bytealg.MaxLen"], apart := false, laid := [("math/bits.deBruijn32tab", laid_math_bits_deBruijn32tab), ("math/bits.deBruijn64tab", laid_math_bits_deBruijn64tab), ("internal/strconv.uint64pow10", laid_internal_strconv_uint64pow10), ("unicode/utf8.acceptRanges", laid_unicode_utf8_acceptRanges), ("strconv.ErrRange", laid_strconv_ErrRange), ("strconv.ErrSyntax", laid_strconv_ErrSyntax), ("unicode/utf8.first", laid_unicode_utf8_first)] }
def TicketValueReadsSaid : Prop := ticketValueReadsRow.holds Tryd.pinned (OpenSpec.ofChange ticketValueReadsSpec)

/-- ITS FALSE NEIGHBOUR: 'it returns false'. Refute it at one input. -/
def ticketValueReadsWrong : ChangeSpec := { name := "ticketValueReads", fn := fun _ => fun
  | [d1, d2, d3] => { results := [.lit (.bool false)], args := [d1, d2, d3] }
  | _ => none }
def TicketValueReadsWrongFalsely : Prop := ticketValueReadsRow.holds Tryd.pinned (OpenSpec.ofChange ticketValueReadsWrong)

/- THE SECOND FORM. 'bulk': how many values and letters a reading holds, each counted each time it is reached (what is shared counts as often as it is met; a slice's spare places count too). A statement '..UptoSaid' is the law's where the arguments, and the package variables that the reading takes, are together of bulk at most 1048576: NARROWER than '..Said'. Prove '..Said' where nothing that the law and all that it calls make is longer than what came in: it says more and counts as full. Else prove '..UptoSaid'. A law counts once. -/
mutual
def uptoBulk {H : Type} : DataW H → Nat
  | .lit (.string bytes) => bytes.length + 1
  | .lit _ => 1
  | .nil => 1
  | .ptr d => uptoBulk d + 1
  | .slice elems spare => uptoBulkAll elems + uptoBulkAll spare + 1
  | .agg parts => uptoBulkAll parts + 1
  | .iface _ d => uptoBulk d + 1
  | .map entries => uptoBulkEntries entries + 1
  | .held _ => 1
def uptoBulkAll {H : Type} : List (DataW H) → Nat
  | [] => 0
  | d :: r => uptoBulk d + uptoBulkAll r
def uptoBulkEntries {H : Type} : List (Lit × DataW H) → Nat
  | [] => 0
  | x :: r => uptoBulkEntry x + uptoBulkEntries r
def uptoBulkEntry {H : Type} : Lit × DataW H → Nat
  | (.string bytes, d) => bytes.length + uptoBulk d + 1
  | (_, d) => uptoBulk d + 1
 end
def uptoSmall : (H : Type) → List (DataW H) → Bool := fun _ ds => decide (uptoBulkAll ds ≤ 1048576)
def OpenSpec.upto (s : _root_.Go.ChangeSpec) : _root_.Go.OpenSpec := { _root_.Go.OpenSpec.ofChange s with cond := some uptoSmall }

/-- 'portlaw1.TicketValues', WHERE WHAT IT READS IS OF BULK AT MOST 1048576: true; the input reads as it did. -/
def ticketValuesUptoRow : OpenClaim := { program := "ytijajimooldhiaadoor", sum := "7262b9a1113f8dda9d69ccd9e2294ef8d386c485720282a7897f8c6a788d0f35", func := "porterslodge/portlaw1.TicketValues", spec := "ticketValues", inPlace := ["internal/abi.NoEscape"], unfollowed := true, recurses := true, named := ["internal/strconv.uint64pow10", "math/bits.deBruijn32tab", "math/bits.deBruijn64tab"], apart := false, laid := [("math/bits.deBruijn32tab", laid_math_bits_deBruijn32tab), ("math/bits.deBruijn64tab", laid_math_bits_deBruijn64tab), ("internal/strconv.uint64pow10", laid_internal_strconv_uint64pow10)], narrowed := true }
def TicketValuesUptoSaid : Prop := ticketValuesUptoRow.holds Tryd.pinned (OpenSpec.upto ticketValuesSpec)

/-- 'portlaw1.TicketLogs', WHERE WHAT IT READS IS OF BULK AT MOST 1048576: true; the input reads as it did. -/
def ticketLogsUptoRow : OpenClaim := { program := "ytijajimooldhiaadoor", sum := "7262b9a1113f8dda9d69ccd9e2294ef8d386c485720282a7897f8c6a788d0f35", func := "porterslodge/portlaw1.TicketLogs", spec := "ticketLogs", inPlace := ["internal/abi.NoEscape", "internal/bytealg.MakeNoZero"], recurses := true, named := ["internal/strconv.uint64pow10", "math/bits.deBruijn32tab", "math/bits.deBruijn64tab", "porterslodge/portref1.eventWords"], apart := false, laid := [("math/bits.deBruijn32tab", laid_math_bits_deBruijn32tab), ("math/bits.deBruijn64tab", laid_math_bits_deBruijn64tab), ("internal/strconv.uint64pow10", laid_internal_strconv_uint64pow10), ("porterslodge/portref1.eventWords", laid_porterslodge_portref1_eventWords)], narrowed := true }
def TicketLogsUptoSaid : Prop := ticketLogsUptoRow.holds Tryd.pinned (OpenSpec.upto ticketLogsSpec)

/-- 'portlaw1.RuleChecks', WHERE WHAT IT READS IS OF BULK AT MOST 1048576: true; the input reads as it did. -/
def ruleChecksUptoRow : OpenClaim := { program := "ytijajimooldhiaadoor", sum := "7262b9a1113f8dda9d69ccd9e2294ef8d386c485720282a7897f8c6a788d0f35", func := "porterslodge/portlaw1.RuleChecks", spec := "ruleChecks", inPlace := ["internal/abi.NoEscape", "internal/bytealg.MakeNoZero"], unfollowed := true, recurses := true, named := ["porterslodge/portref1.whatKinds", "internal/strconv.uint64pow10", "math/bits.deBruijn32tab", "math/bits.deBruijn64tab", "porterslodge/portref1.opWords", "porterslodge/portref1.whatWords", "porterslodge/portref1.statusWords"], loops := true, apart := false, laid := [("math/bits.deBruijn32tab", laid_math_bits_deBruijn32tab), ("math/bits.deBruijn64tab", laid_math_bits_deBruijn64tab), ("internal/strconv.uint64pow10", laid_internal_strconv_uint64pow10), ("porterslodge/portref1.whatKinds", laid_porterslodge_portref1_whatKinds), ("porterslodge/portref1.whatWords", laid_porterslodge_portref1_whatWords), ("porterslodge/portref1.statusWords", laid_porterslodge_portref1_statusWords), ("porterslodge/portref1.opWords", laid_porterslodge_portref1_opWords)], narrowed := true }
def RuleChecksUptoSaid : Prop := ruleChecksUptoRow.holds Tryd.pinned (OpenSpec.upto ruleChecksSpec)

/-- 'portlaw1.RuleTriggers', WHERE WHAT IT READS IS OF BULK AT MOST 1048576: true; the input reads as it did. -/
def ruleTriggersUptoRow : OpenClaim := { program := "ytijajimooldhiaadoor", sum := "7262b9a1113f8dda9d69ccd9e2294ef8d386c485720282a7897f8c6a788d0f35", func := "porterslodge/portlaw1.RuleTriggers", spec := "ruleTriggers", inPlace := ["internal/abi.NoEscape", "internal/bytealg.MakeNoZero"], unfollowed := true, recurses := true, named := ["porterslodge/portref1.whatKinds", "internal/strconv.uint64pow10", "math/bits.deBruijn32tab", "math/bits.deBruijn64tab", "porterslodge/portref1.eventWords", "porterslodge/portref1.statusWords", "porterslodge/portref1.opWords", "porterslodge/portref1.whatWords"], loops := true, apart := false, laid := [("math/bits.deBruijn32tab", laid_math_bits_deBruijn32tab), ("math/bits.deBruijn64tab", laid_math_bits_deBruijn64tab), ("internal/strconv.uint64pow10", laid_internal_strconv_uint64pow10), ("porterslodge/portref1.whatKinds", laid_porterslodge_portref1_whatKinds), ("porterslodge/portref1.whatWords", laid_porterslodge_portref1_whatWords), ("porterslodge/portref1.statusWords", laid_porterslodge_portref1_statusWords), ("porterslodge/portref1.opWords", laid_porterslodge_portref1_opWords), ("porterslodge/portref1.eventWords", laid_porterslodge_portref1_eventWords)], narrowed := true }
def RuleTriggersUptoSaid : Prop := ruleTriggersUptoRow.holds Tryd.pinned (OpenSpec.upto ruleTriggersSpec)

/-- 'portlaw1.RuleHolds', WHERE WHAT IT READS IS OF BULK AT MOST 1048576: true; the input reads as it did. -/
def ruleHoldsUptoRow : OpenClaim := { program := "ytijajimooldhiaadoor", sum := "7262b9a1113f8dda9d69ccd9e2294ef8d386c485720282a7897f8c6a788d0f35", func := "porterslodge/portlaw1.RuleHolds", spec := "ruleHolds", unfollowed := true, recurses := true, named := ["porterslodge/portref1.whatKinds"], loops := true, apart := false, laid := [("porterslodge/portref1.whatKinds", laid_porterslodge_portref1_whatKinds)], narrowed := true }
def RuleHoldsUptoSaid : Prop := ruleHoldsUptoRow.holds Tryd.pinned (OpenSpec.upto ruleHoldsSpec)

/-- 'portlaw1.TicketFormReads', WHERE WHAT IT READS IS OF BULK AT MOST 1048576: true; the input reads as it did. -/
def ticketFormReadsUptoRow : OpenClaim := { program := "ytijajimooldhiaadoor", sum := "7262b9a1113f8dda9d69ccd9e2294ef8d386c485720282a7897f8c6a788d0f35", func := "porterslodge/portlaw1.TicketFormReads", spec := "ticketFormReads", inPlace := ["internal/bytealg.IndexByteString", "internal/bytealg.IndexString", "internal/bytealg.CountString"], unfollowed := true, recurses := true, named := ["internal/bytealg.MaxLen", "unicode/utf8.first", "unicode/utf8.acceptRanges", "strconv.ErrSyntax", "strconv.ErrRange", "internal/strconv.uint64pow10", "math/bits.deBruijn32tab", "math/bits.deBruijn64tab", "porterslodge/portref1.kindWords"], apart := false, laid := [("math/bits.deBruijn32tab", laid_math_bits_deBruijn32tab), ("math/bits.deBruijn64tab", laid_math_bits_deBruijn64tab), ("internal/strconv.uint64pow10", laid_internal_strconv_uint64pow10), ("unicode/utf8.acceptRanges", laid_unicode_utf8_acceptRanges), ("strconv.ErrRange", laid_strconv_ErrRange), ("strconv.ErrSyntax", laid_strconv_ErrSyntax), ("porterslodge/portref1.kindWords", laid_porterslodge_portref1_kindWords), ("unicode/utf8.first", laid_unicode_utf8_first)], narrowed := true }
def TicketFormReadsUptoSaid : Prop := ticketFormReadsUptoRow.holds Tryd.pinned (OpenSpec.upto ticketFormReadsSpec)

/-- 'portlaw1.TicketValueReads', WHERE WHAT IT READS IS OF BULK AT MOST 1048576: true; the input reads as it did. -/
def ticketValueReadsUptoRow : OpenClaim := { program := "ytijajimooldhiaadoor", sum := "7262b9a1113f8dda9d69ccd9e2294ef8d386c485720282a7897f8c6a788d0f35", func := "porterslodge/portlaw1.TicketValueReads", spec := "ticketValueReads", inPlace := ["internal/abi.NoEscape", "internal/bytealg.IndexByteString", "internal/bytealg.IndexString"], unfollowed := true, recurses := true, named := ["unicode/utf8.first", "unicode/utf8.acceptRanges", "strconv.ErrSyntax", "strconv.ErrRange", "internal/strconv.uint64pow10", "math/bits.deBruijn32tab", "math/bits.deBruijn64tab", "internal/bytealg.MaxLen"], apart := false, laid := [("math/bits.deBruijn32tab", laid_math_bits_deBruijn32tab), ("math/bits.deBruijn64tab", laid_math_bits_deBruijn64tab), ("internal/strconv.uint64pow10", laid_internal_strconv_uint64pow10), ("unicode/utf8.acceptRanges", laid_unicode_utf8_acceptRanges), ("strconv.ErrRange", laid_strconv_ErrRange), ("strconv.ErrSyntax", laid_strconv_ErrSyntax), ("unicode/utf8.first", laid_unicode_utf8_first)], narrowed := true }
def TicketValueReadsUptoSaid : Prop := ticketValueReadsUptoRow.holds Tryd.pinned (OpenSpec.upto ticketValueReadsSpec)

end Rows
end Go.Proofs.YtijajimooldhiaaDoor
