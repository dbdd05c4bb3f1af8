/-
  NARROWER THAN 'FOR EVERY INPUT', by the rows' own cells (each row's printed sentence says how): FnExactDateText: laid · FnDateTextLength: laid · FnDateTextOrder: laid · FnExactStampText: laid · FnStampTextParts: laid.
  DERIVED. THE GIVEN ROWS OF THIS SEAT. 5 by the template 'for every input the law returns true; each argument reads behind the call as it read before'; 0 by the template 'total and deterministic' (their statements: YtfailbghnpfcdaaDoorTotals.lean).
  GIVEN WITH THE SEED: the statements are not yours to turn. If you find one false, say at which input.
  Laid BY PROGRAM, IN A SANDBOX (cutbox-rows.mjs): the forced cells as the released guide's own fill.sh prints them over the translation 185ced35f906369b… (all of the seat's roots in one cut). By AI agents, Wed Nov 11 2026. No macro, syntax, notation, axiom, sorry.
-/
import Derived.Test.YtfailbghnpfcdaaDoorChecked
import GoSem.PinnedTables
import GoSem.Claim
import GoSem.ClaimJoined
import GoSem.ClaimMapViews
import Derived.JoinedTies
import Derived.KernelRfl
namespace Go.Proofs.YtfailbghnpfcdaaDoor
/- THE CELL 'sum', in the pinned program and in every row, IS THE sha256 OF THE DUMP (.gsa) THAT YtfailbghnpfcdaaDoorProg.lean LOADS. Nothing in Lean hashes anything: it is a label: what it is worth is what the hold of that sum in a sandbox is worth. -/
noncomputable def Tryd.pinned : Pinned := { name := "ytfailbghnpfcdaadoor", sum := "185ced35f906369b7911b237f07c5413130df94e22cf3b9e0366c418deca3c1f", checked := Tryd.checked }
namespace Rows
def none {H : Type} : Left H := { results := [], args := [] }

/- WHAT THE LISTED PACKAGE-LEVEL VARIABLES READ AS WHEN THE CALL BEGINS. Each datum BY PROGRAM (the guide's laid-datum.mjs) off the statement by which the dump's own 'gosem.cut.vars' lays the variable. In a bare row this is a premise. The card (YtfailbghnpfcdaaDoorCards.lean) ties it to the program's text. -/
def laid_loop_example_datenotation_impl_monthDays {H : Type} : DataW H := .agg [.lit (.int .i64 31), .lit (.int .i64 28), .lit (.int .i64 31), .lit (.int .i64 30), .lit (.int .i64 31), .lit (.int .i64 30), .lit (.int .i64 31), .lit (.int .i64 31), .lit (.int .i64 30), .lit (.int .i64 31), .lit (.int .i64 30), .lit (.int .i64 31)]
def laid_unicode_utf8_acceptRanges {H : Type} : DataW H := .agg [.agg [.lit (.int .u8 128), .lit (.int .u8 191)], .agg [.lit (.int .u8 160), .lit (.int .u8 191)], .agg [.lit (.int .u8 128), .lit (.int .u8 159)], .agg [.lit (.int .u8 144), .lit (.int .u8 191)], .agg [.lit (.int .u8 128), .lit (.int .u8 143)], .agg [.lit (.int .u8 0), .lit (.int .u8 0)], .agg [.lit (.int .u8 0), .lit (.int .u8 0)], .agg [.lit (.int .u8 0), .lit (.int .u8 0)], .agg [.lit (.int .u8 0), .lit (.int .u8 0)], .agg [.lit (.int .u8 0), .lit (.int .u8 0)], .agg [.lit (.int .u8 0), .lit (.int .u8 0)], .agg [.lit (.int .u8 0), .lit (.int .u8 0)], .agg [.lit (.int .u8 0), .lit (.int .u8 0)], .agg [.lit (.int .u8 0), .lit (.int .u8 0)], .agg [.lit (.int .u8 0), .lit (.int .u8 0)], .agg [.lit (.int .u8 0), .lit (.int .u8 0)]]
/-- One of Go's own tables, pinned by name: the form's constant. -/
def laid_unicode_utf8_first : DataW Unit := Go.Pinned.utf8First

/-- 'laws.FnExactDateText': WHATEVER THE INPUT: true; the input reads as it did. -/
def fnExactDateTextSpec : ChangeSpec := { name := "fnExactDateText", vars := ["loop.example/datenotation/impl.monthDays"], fn := fun _ => fun
  | [d1, d2, d3, g1] => { results := [.lit (.bool true)], args := [d1, d2, d3], vars := [g1] }
  | _ => none }
def fnExactDateTextRow : OpenClaim := { program := "ytfailbghnpfcdaadoor", sum := "185ced35f906369b7911b237f07c5413130df94e22cf3b9e0366c418deca3c1f", func := "loop.example/datenotation/laws.FnExactDateText", spec := "fnExactDateText", unfollowed := true, recurses := true, named := ["loop.example/datenotation/impl.monthDays"], apart := false, laid := [("loop.example/datenotation/impl.monthDays", laid_loop_example_datenotation_impl_monthDays)] }
def FnExactDateTextSaid : Prop := fnExactDateTextRow.holds Tryd.pinned (OpenSpec.ofChange fnExactDateTextSpec)

/-- ITS FALSE NEIGHBOUR: 'it returns false'. Refute it at one input. -/
def fnExactDateTextWrong : ChangeSpec := { name := "fnExactDateText", vars := ["loop.example/datenotation/impl.monthDays"], fn := fun _ => fun
  | [d1, d2, d3, g1] => { results := [.lit (.bool false)], args := [d1, d2, d3], vars := [g1] }
  | _ => none }
def FnExactDateTextWrongFalsely : Prop := fnExactDateTextRow.holds Tryd.pinned (OpenSpec.ofChange fnExactDateTextWrong)

/-- 'laws.FnDateTextLength': WHATEVER THE INPUT: true; the input reads as it did. -/
def fnDateTextLengthSpec : ChangeSpec := { name := "fnDateTextLength", vars := ["loop.example/datenotation/impl.monthDays"], fn := fun _ => fun
  | [d, g1] => { results := [.lit (.bool true)], args := [d], vars := [g1] }
  | _ => none }
def fnDateTextLengthRow : OpenClaim := { program := "ytfailbghnpfcdaadoor", sum := "185ced35f906369b7911b237f07c5413130df94e22cf3b9e0366c418deca3c1f", func := "loop.example/datenotation/laws.FnDateTextLength", spec := "fnDateTextLength", unfollowed := true, recurses := true, named := ["loop.example/datenotation/impl.monthDays"], apart := false, laid := [("loop.example/datenotation/impl.monthDays", laid_loop_example_datenotation_impl_monthDays)] }
def FnDateTextLengthSaid : Prop := fnDateTextLengthRow.holds Tryd.pinned (OpenSpec.ofChange fnDateTextLengthSpec)

/-- ITS FALSE NEIGHBOUR: 'it returns false'. Refute it at one input. -/
def fnDateTextLengthWrong : ChangeSpec := { name := "fnDateTextLength", vars := ["loop.example/datenotation/impl.monthDays"], fn := fun _ => fun
  | [d, g1] => { results := [.lit (.bool false)], args := [d], vars := [g1] }
  | _ => none }
def FnDateTextLengthWrongFalsely : Prop := fnDateTextLengthRow.holds Tryd.pinned (OpenSpec.ofChange fnDateTextLengthWrong)

/-- 'laws.FnDateTextOrder': WHATEVER THE INPUT: true; the input reads as it did. -/
def fnDateTextOrderSpec : ChangeSpec := { name := "fnDateTextOrder", vars := ["loop.example/datenotation/impl.monthDays"], fn := fun _ => fun
  | [d, g1] => { results := [.lit (.bool true)], args := [d], vars := [g1] }
  | _ => none }
def fnDateTextOrderRow : OpenClaim := { program := "ytfailbghnpfcdaadoor", sum := "185ced35f906369b7911b237f07c5413130df94e22cf3b9e0366c418deca3c1f", func := "loop.example/datenotation/laws.FnDateTextOrder", spec := "fnDateTextOrder", unfollowed := true, recurses := true, named := ["loop.example/datenotation/impl.monthDays"], apart := false, laid := [("loop.example/datenotation/impl.monthDays", laid_loop_example_datenotation_impl_monthDays)] }
def FnDateTextOrderSaid : Prop := fnDateTextOrderRow.holds Tryd.pinned (OpenSpec.ofChange fnDateTextOrderSpec)

/-- ITS FALSE NEIGHBOUR: 'it returns false'. Refute it at one input. -/
def fnDateTextOrderWrong : ChangeSpec := { name := "fnDateTextOrder", vars := ["loop.example/datenotation/impl.monthDays"], fn := fun _ => fun
  | [d, g1] => { results := [.lit (.bool false)], args := [d], vars := [g1] }
  | _ => none }
def FnDateTextOrderWrongFalsely : Prop := fnDateTextOrderRow.holds Tryd.pinned (OpenSpec.ofChange fnDateTextOrderWrong)

/-- 'laws.FnExactStampText': WHATEVER THE INPUT: true; the input reads as it did. -/
def fnExactStampTextSpec : ChangeSpec := { name := "fnExactStampText", vars := ["loop.example/datenotation/impl.monthDays"], fn := fun _ => fun
  | [d, g1] => { results := [.lit (.bool true)], args := [d], vars := [g1] }
  | _ => none }
def fnExactStampTextRow : OpenClaim := { program := "ytfailbghnpfcdaadoor", sum := "185ced35f906369b7911b237f07c5413130df94e22cf3b9e0366c418deca3c1f", func := "loop.example/datenotation/laws.FnExactStampText", spec := "fnExactStampText", inPlace := ["internal/bytealg.IndexByteString", "internal/bytealg.IndexString"], unfollowed := true, recurses := true, named := ["loop.example/datenotation/impl.monthDays", "unicode/utf8.first", "unicode/utf8.acceptRanges", "internal/bytealg.MaxLen"], apart := false, laid := [("unicode/utf8.acceptRanges", laid_unicode_utf8_acceptRanges), ("loop.example/datenotation/impl.monthDays", laid_loop_example_datenotation_impl_monthDays), ("unicode/utf8.first", laid_unicode_utf8_first)] }
def FnExactStampTextSaid : Prop := fnExactStampTextRow.holds Tryd.pinned (OpenSpec.ofChange fnExactStampTextSpec)

/-- ITS FALSE NEIGHBOUR: 'it returns false'. Refute it at one input. -/
def fnExactStampTextWrong : ChangeSpec := { name := "fnExactStampText", vars := ["loop.example/datenotation/impl.monthDays"], fn := fun _ => fun
  | [d, g1] => { results := [.lit (.bool false)], args := [d], vars := [g1] }
  | _ => none }
def FnExactStampTextWrongFalsely : Prop := fnExactStampTextRow.holds Tryd.pinned (OpenSpec.ofChange fnExactStampTextWrong)

/-- 'laws.FnStampTextParts': WHATEVER THE INPUT: true; the input reads as it did. -/
def fnStampTextPartsSpec : ChangeSpec := { name := "fnStampTextParts", vars := ["loop.example/datenotation/impl.monthDays"], fn := fun _ => fun
  | [d, g1] => { results := [.lit (.bool true)], args := [d], vars := [g1] }
  | _ => none }
def fnStampTextPartsRow : OpenClaim := { program := "ytfailbghnpfcdaadoor", sum := "185ced35f906369b7911b237f07c5413130df94e22cf3b9e0366c418deca3c1f", func := "loop.example/datenotation/laws.FnStampTextParts", spec := "fnStampTextParts", inPlace := ["internal/bytealg.IndexByteString", "internal/bytealg.IndexString"], unfollowed := true, recurses := true, named := ["loop.example/datenotation/impl.monthDays", "unicode/utf8.first", "unicode/utf8.acceptRanges", "internal/bytealg.MaxLen"], apart := false, laid := [("unicode/utf8.acceptRanges", laid_unicode_utf8_acceptRanges), ("loop.example/datenotation/impl.monthDays", laid_loop_example_datenotation_impl_monthDays), ("unicode/utf8.first", laid_unicode_utf8_first)] }
def FnStampTextPartsSaid : Prop := fnStampTextPartsRow.holds Tryd.pinned (OpenSpec.ofChange fnStampTextPartsSpec)

/-- ITS FALSE NEIGHBOUR: 'it returns false'. Refute it at one input. -/
def fnStampTextPartsWrong : ChangeSpec := { name := "fnStampTextParts", vars := ["loop.example/datenotation/impl.monthDays"], fn := fun _ => fun
  | [d, g1] => { results := [.lit (.bool false)], args := [d], vars := [g1] }
  | _ => none }
def FnStampTextPartsWrongFalsely : Prop := fnStampTextPartsRow.holds Tryd.pinned (OpenSpec.ofChange fnStampTextPartsWrong)

/- THE SECOND FORM. 'bulk': how many values and letters a reading holds, each counted each time it is reached (what is shared counts as often as it is met; a slice's spare places count too). A statement '..UptoSaid' is the law's where the arguments, and the package variables that the reading takes, are together of bulk at most 1048576: NARROWER than '..Said'. Prove '..Said' where nothing that the law and all that it calls make is longer than what came in: it says more and counts as full. Else prove '..UptoSaid'. A law counts once. -/
mutual
def uptoBulk {H : Type} : DataW H → Nat
  | .lit (.string bytes) => bytes.length + 1
  | .lit _ => 1
  | .nil => 1
  | .ptr d => uptoBulk d + 1
  | .slice elems spare => uptoBulkAll elems + uptoBulkAll spare + 1
  | .agg parts => uptoBulkAll parts + 1
  | .iface _ d => uptoBulk d + 1
  | .map entries => uptoBulkEntries entries + 1
  | .held _ => 1
def uptoBulkAll {H : Type} : List (DataW H) → Nat
  | [] => 0
  | d :: r => uptoBulk d + uptoBulkAll r
def uptoBulkEntries {H : Type} : List (Lit × DataW H) → Nat
  | [] => 0
  | x :: r => uptoBulkEntry x + uptoBulkEntries r
def uptoBulkEntry {H : Type} : Lit × DataW H → Nat
  | (.string bytes, d) => bytes.length + uptoBulk d + 1
  | (_, d) => uptoBulk d + 1
 end
def uptoSmall : (H : Type) → List (DataW H) → Bool := fun _ ds => decide (uptoBulkAll ds ≤ 1048576)
def OpenSpec.upto (s : _root_.Go.ChangeSpec) : _root_.Go.OpenSpec := { _root_.Go.OpenSpec.ofChange s with cond := some uptoSmall }

/-- 'laws.FnExactDateText', WHERE WHAT IT READS IS OF BULK AT MOST 1048576: true; the input reads as it did. -/
def fnExactDateTextUptoRow : OpenClaim := { program := "ytfailbghnpfcdaadoor", sum := "185ced35f906369b7911b237f07c5413130df94e22cf3b9e0366c418deca3c1f", func := "loop.example/datenotation/laws.FnExactDateText", spec := "fnExactDateText", unfollowed := true, recurses := true, named := ["loop.example/datenotation/impl.monthDays"], apart := false, laid := [("loop.example/datenotation/impl.monthDays", laid_loop_example_datenotation_impl_monthDays)], narrowed := true }
def FnExactDateTextUptoSaid : Prop := fnExactDateTextUptoRow.holds Tryd.pinned (OpenSpec.upto fnExactDateTextSpec)

/-- 'laws.FnDateTextLength', WHERE WHAT IT READS IS OF BULK AT MOST 1048576: true; the input reads as it did. -/
def fnDateTextLengthUptoRow : OpenClaim := { program := "ytfailbghnpfcdaadoor", sum := "185ced35f906369b7911b237f07c5413130df94e22cf3b9e0366c418deca3c1f", func := "loop.example/datenotation/laws.FnDateTextLength", spec := "fnDateTextLength", unfollowed := true, recurses := true, named := ["loop.example/datenotation/impl.monthDays"], apart := false, laid := [("loop.example/datenotation/impl.monthDays", laid_loop_example_datenotation_impl_monthDays)], narrowed := true }
def FnDateTextLengthUptoSaid : Prop := fnDateTextLengthUptoRow.holds Tryd.pinned (OpenSpec.upto fnDateTextLengthSpec)

/-- 'laws.FnDateTextOrder', WHERE WHAT IT READS IS OF BULK AT MOST 1048576: true; the input reads as it did. -/
def fnDateTextOrderUptoRow : OpenClaim := { program := "ytfailbghnpfcdaadoor", sum := "185ced35f906369b7911b237f07c5413130df94e22cf3b9e0366c418deca3c1f", func := "loop.example/datenotation/laws.FnDateTextOrder", spec := "fnDateTextOrder", unfollowed := true, recurses := true, named := ["loop.example/datenotation/impl.monthDays"], apart := false, laid := [("loop.example/datenotation/impl.monthDays", laid_loop_example_datenotation_impl_monthDays)], narrowed := true }
def FnDateTextOrderUptoSaid : Prop := fnDateTextOrderUptoRow.holds Tryd.pinned (OpenSpec.upto fnDateTextOrderSpec)

/-- 'laws.FnExactStampText', WHERE WHAT IT READS IS OF BULK AT MOST 1048576: true; the input reads as it did. -/
def fnExactStampTextUptoRow : OpenClaim := { program := "ytfailbghnpfcdaadoor", sum := "185ced35f906369b7911b237f07c5413130df94e22cf3b9e0366c418deca3c1f", func := "loop.example/datenotation/laws.FnExactStampText", spec := "fnExactStampText", inPlace := ["internal/bytealg.IndexByteString", "internal/bytealg.IndexString"], unfollowed := true, recurses := true, named := ["loop.example/datenotation/impl.monthDays", "unicode/utf8.first", "unicode/utf8.acceptRanges", "internal/bytealg.MaxLen"], apart := false, laid := [("unicode/utf8.acceptRanges", laid_unicode_utf8_acceptRanges), ("loop.example/datenotation/impl.monthDays", laid_loop_example_datenotation_impl_monthDays), ("unicode/utf8.first", laid_unicode_utf8_first)], narrowed := true }
def FnExactStampTextUptoSaid : Prop := fnExactStampTextUptoRow.holds Tryd.pinned (OpenSpec.upto fnExactStampTextSpec)

/-- 'laws.FnStampTextParts', WHERE WHAT IT READS IS OF BULK AT MOST 1048576: true; the input reads as it did. -/
def fnStampTextPartsUptoRow : OpenClaim := { program := "ytfailbghnpfcdaadoor", sum := "185ced35f906369b7911b237f07c5413130df94e22cf3b9e0366c418deca3c1f", func := "loop.example/datenotation/laws.FnStampTextParts", spec := "fnStampTextParts", inPlace := ["internal/bytealg.IndexByteString", "internal/bytealg.IndexString"], unfollowed := true, recurses := true, named := ["loop.example/datenotation/impl.monthDays", "unicode/utf8.first", "unicode/utf8.acceptRanges", "internal/bytealg.MaxLen"], apart := false, laid := [("unicode/utf8.acceptRanges", laid_unicode_utf8_acceptRanges), ("loop.example/datenotation/impl.monthDays", laid_loop_example_datenotation_impl_monthDays), ("unicode/utf8.first", laid_unicode_utf8_first)], narrowed := true }
def FnStampTextPartsUptoSaid : Prop := fnStampTextPartsUptoRow.holds Tryd.pinned (OpenSpec.upto fnStampTextPartsSpec)

end Rows
end Go.Proofs.YtfailbghnpfcdaaDoor
