/-
  NARROWER THAN 'FOR EVERY INPUT', by the rows' own cells (each row's printed sentence says how): FnExactSpanHas: laid · FnSpanHas: laid · FnSpanHasWhen: laid · FnExactSpanLength: laid · FnSpanLength: laid · FnExactStampText: laid · FnStampTextParts: laid · FnExactStampPlus: laid · FnStampPlusParts: laid · FnStampPlus: laid · FnStampPlusTime: laid.
  DERIVED. THE GIVEN ROWS OF THIS SEAT. 11 by the template 'for every input the law returns true; each argument reads behind the call as it read before'; 0 by the template 'total and deterministic' (their statements: YtacglejojkamfaaDoorTotals.lean).
  GIVEN WITH THE SEED: the statements are not yours to turn. If you find one false, say at which input.
  Laid BY PROGRAM, IN A SANDBOX (cutbox-rows.mjs): the forced cells as the released guide's own fill.sh prints them over the translation a9566395543e8fc3… (all of the seat's roots in one cut). By AI agents, Wed Nov 11 2026. No macro, syntax, notation, axiom, sorry.
-/
import Derived.Test.YtacglejojkamfaaDoorChecked
import GoSem.PinnedTables
import GoSem.Claim
import GoSem.ClaimJoined
import GoSem.ClaimMapViews
import Derived.JoinedTies
import Derived.KernelRfl
namespace Go.Proofs.YtacglejojkamfaaDoor
/- THE CELL 'sum', in the pinned program and in every row, IS THE sha256 OF THE DUMP (.gsa) THAT YtacglejojkamfaaDoorProg.lean LOADS. Nothing in Lean hashes anything: it is a label: what it is worth is what the hold of that sum in a sandbox is worth. -/
noncomputable def Tryd.pinned : Pinned := { name := "ytacglejojkamfaadoor", sum := "a9566395543e8fc355d02640303a54ed41f51890e9573e58b5bc2f298020eb76", checked := Tryd.checked }
namespace Rows
def none {H : Type} : Left H := { results := [], args := [] }

/- WHAT THE LISTED PACKAGE-LEVEL VARIABLES READ AS WHEN THE CALL BEGINS. Each datum BY PROGRAM (the guide's laid-datum.mjs) off the statement by which the dump's own 'gosem.cut.vars' lays the variable. In a bare row this is a premise. The card (YtacglejojkamfaaDoorCards.lean) ties it to the program's text. -/
def laid_loop_example_datenotation_impl_monthDays {H : Type} : DataW H := .agg [.lit (.int .i64 31), .lit (.int .i64 28), .lit (.int .i64 31), .lit (.int .i64 30), .lit (.int .i64 31), .lit (.int .i64 30), .lit (.int .i64 31), .lit (.int .i64 31), .lit (.int .i64 30), .lit (.int .i64 31), .lit (.int .i64 30), .lit (.int .i64 31)]
def laid_unicode_utf8_acceptRanges {H : Type} : DataW H := .agg [.agg [.lit (.int .u8 128), .lit (.int .u8 191)], .agg [.lit (.int .u8 160), .lit (.int .u8 191)], .agg [.lit (.int .u8 128), .lit (.int .u8 159)], .agg [.lit (.int .u8 144), .lit (.int .u8 191)], .agg [.lit (.int .u8 128), .lit (.int .u8 143)], .agg [.lit (.int .u8 0), .lit (.int .u8 0)], .agg [.lit (.int .u8 0), .lit (.int .u8 0)], .agg [.lit (.int .u8 0), .lit (.int .u8 0)], .agg [.lit (.int .u8 0), .lit (.int .u8 0)], .agg [.lit (.int .u8 0), .lit (.int .u8 0)], .agg [.lit (.int .u8 0), .lit (.int .u8 0)], .agg [.lit (.int .u8 0), .lit (.int .u8 0)], .agg [.lit (.int .u8 0), .lit (.int .u8 0)], .agg [.lit (.int .u8 0), .lit (.int .u8 0)], .agg [.lit (.int .u8 0), .lit (.int .u8 0)], .agg [.lit (.int .u8 0), .lit (.int .u8 0)]]
/-- One of Go's own tables, pinned by name: the form's constant. -/
def laid_unicode_utf8_first : DataW Unit := Go.Pinned.utf8First

/-- 'laws.FnExactSpanHas': WHATEVER THE INPUT: true; the input reads as it did. -/
def fnExactSpanHasSpec : ChangeSpec := { name := "fnExactSpanHas", vars := ["loop.example/datenotation/impl.monthDays"], fn := fun _ => fun
  | [d1, d2, d3, g1] => { results := [.lit (.bool true)], args := [d1, d2, d3], vars := [g1] }
  | _ => none }
def fnExactSpanHasRow : OpenClaim := { program := "ytacglejojkamfaadoor", sum := "a9566395543e8fc355d02640303a54ed41f51890e9573e58b5bc2f298020eb76", func := "loop.example/datenotation/laws.FnExactSpanHas", spec := "fnExactSpanHas", named := ["loop.example/datenotation/impl.monthDays"], apart := false, laid := [("loop.example/datenotation/impl.monthDays", laid_loop_example_datenotation_impl_monthDays)] }
def FnExactSpanHasSaid : Prop := fnExactSpanHasRow.holds Tryd.pinned (OpenSpec.ofChange fnExactSpanHasSpec)

/-- ITS FALSE NEIGHBOUR: 'it returns false'. Refute it at one input. -/
def fnExactSpanHasWrong : ChangeSpec := { name := "fnExactSpanHas", vars := ["loop.example/datenotation/impl.monthDays"], fn := fun _ => fun
  | [d1, d2, d3, g1] => { results := [.lit (.bool false)], args := [d1, d2, d3], vars := [g1] }
  | _ => none }
def FnExactSpanHasWrongFalsely : Prop := fnExactSpanHasRow.holds Tryd.pinned (OpenSpec.ofChange fnExactSpanHasWrong)

/-- 'laws.FnSpanHas': WHATEVER THE INPUT: true; the input reads as it did. -/
def fnSpanHasSpec : ChangeSpec := { name := "fnSpanHas", vars := ["loop.example/datenotation/impl.monthDays"], fn := fun _ => fun
  | [d, g1] => { results := [.lit (.bool true)], args := [d], vars := [g1] }
  | _ => none }
def fnSpanHasRow : OpenClaim := { program := "ytacglejojkamfaadoor", sum := "a9566395543e8fc355d02640303a54ed41f51890e9573e58b5bc2f298020eb76", func := "loop.example/datenotation/laws.FnSpanHas", spec := "fnSpanHas", named := ["loop.example/datenotation/impl.monthDays"], apart := false, laid := [("loop.example/datenotation/impl.monthDays", laid_loop_example_datenotation_impl_monthDays)] }
def FnSpanHasSaid : Prop := fnSpanHasRow.holds Tryd.pinned (OpenSpec.ofChange fnSpanHasSpec)

/-- ITS FALSE NEIGHBOUR: 'it returns false'. Refute it at one input. -/
def fnSpanHasWrong : ChangeSpec := { name := "fnSpanHas", vars := ["loop.example/datenotation/impl.monthDays"], fn := fun _ => fun
  | [d, g1] => { results := [.lit (.bool false)], args := [d], vars := [g1] }
  | _ => none }
def FnSpanHasWrongFalsely : Prop := fnSpanHasRow.holds Tryd.pinned (OpenSpec.ofChange fnSpanHasWrong)

/-- 'laws.FnSpanHasWhen': WHATEVER THE INPUT: true; the input reads as it did. -/
def fnSpanHasWhenSpec : ChangeSpec := { name := "fnSpanHasWhen", vars := ["loop.example/datenotation/impl.monthDays"], fn := fun _ => fun
  | [d, g1] => { results := [.lit (.bool true)], args := [d], vars := [g1] }
  | _ => none }
def fnSpanHasWhenRow : OpenClaim := { program := "ytacglejojkamfaadoor", sum := "a9566395543e8fc355d02640303a54ed41f51890e9573e58b5bc2f298020eb76", func := "loop.example/datenotation/laws.FnSpanHasWhen", spec := "fnSpanHasWhen", named := ["loop.example/datenotation/impl.monthDays"], apart := false, laid := [("loop.example/datenotation/impl.monthDays", laid_loop_example_datenotation_impl_monthDays)] }
def FnSpanHasWhenSaid : Prop := fnSpanHasWhenRow.holds Tryd.pinned (OpenSpec.ofChange fnSpanHasWhenSpec)

/-- ITS FALSE NEIGHBOUR: 'it returns false'. Refute it at one input. -/
def fnSpanHasWhenWrong : ChangeSpec := { name := "fnSpanHasWhen", vars := ["loop.example/datenotation/impl.monthDays"], fn := fun _ => fun
  | [d, g1] => { results := [.lit (.bool false)], args := [d], vars := [g1] }
  | _ => none }
def FnSpanHasWhenWrongFalsely : Prop := fnSpanHasWhenRow.holds Tryd.pinned (OpenSpec.ofChange fnSpanHasWhenWrong)

/-- 'laws.FnExactSpanLength': WHATEVER THE INPUT: true; the input reads as it did. -/
def fnExactSpanLengthSpec : ChangeSpec := { name := "fnExactSpanLength", vars := ["loop.example/datenotation/impl.monthDays"], fn := fun _ => fun
  | [d1, d2, g1] => { results := [.lit (.bool true)], args := [d1, d2], vars := [g1] }
  | _ => none }
def fnExactSpanLengthRow : OpenClaim := { program := "ytacglejojkamfaadoor", sum := "a9566395543e8fc355d02640303a54ed41f51890e9573e58b5bc2f298020eb76", func := "loop.example/datenotation/laws.FnExactSpanLength", spec := "fnExactSpanLength", unfollowed := true, recurses := true, named := ["loop.example/datenotation/impl.monthDays"], apart := false, laid := [("loop.example/datenotation/impl.monthDays", laid_loop_example_datenotation_impl_monthDays)] }
def FnExactSpanLengthSaid : Prop := fnExactSpanLengthRow.holds Tryd.pinned (OpenSpec.ofChange fnExactSpanLengthSpec)

/-- ITS FALSE NEIGHBOUR: 'it returns false'. Refute it at one input. -/
def fnExactSpanLengthWrong : ChangeSpec := { name := "fnExactSpanLength", vars := ["loop.example/datenotation/impl.monthDays"], fn := fun _ => fun
  | [d1, d2, g1] => { results := [.lit (.bool false)], args := [d1, d2], vars := [g1] }
  | _ => none }
def FnExactSpanLengthWrongFalsely : Prop := fnExactSpanLengthRow.holds Tryd.pinned (OpenSpec.ofChange fnExactSpanLengthWrong)

/-- 'laws.FnSpanLength': WHATEVER THE INPUT: true; the input reads as it did. -/
def fnSpanLengthSpec : ChangeSpec := { name := "fnSpanLength", vars := ["loop.example/datenotation/impl.monthDays"], fn := fun _ => fun
  | [d, g1] => { results := [.lit (.bool true)], args := [d], vars := [g1] }
  | _ => none }
def fnSpanLengthRow : OpenClaim := { program := "ytacglejojkamfaadoor", sum := "a9566395543e8fc355d02640303a54ed41f51890e9573e58b5bc2f298020eb76", func := "loop.example/datenotation/laws.FnSpanLength", spec := "fnSpanLength", unfollowed := true, recurses := true, named := ["loop.example/datenotation/impl.monthDays"], apart := false, laid := [("loop.example/datenotation/impl.monthDays", laid_loop_example_datenotation_impl_monthDays)] }
def FnSpanLengthSaid : Prop := fnSpanLengthRow.holds Tryd.pinned (OpenSpec.ofChange fnSpanLengthSpec)

/-- ITS FALSE NEIGHBOUR: 'it returns false'. Refute it at one input. -/
def fnSpanLengthWrong : ChangeSpec := { name := "fnSpanLength", vars := ["loop.example/datenotation/impl.monthDays"], fn := fun _ => fun
  | [d, g1] => { results := [.lit (.bool false)], args := [d], vars := [g1] }
  | _ => none }
def FnSpanLengthWrongFalsely : Prop := fnSpanLengthRow.holds Tryd.pinned (OpenSpec.ofChange fnSpanLengthWrong)

/-- 'laws.FnExactStampText': WHATEVER THE INPUT: true; the input reads as it did. -/
def fnExactStampTextSpec : ChangeSpec := { name := "fnExactStampText", vars := ["loop.example/datenotation/impl.monthDays"], fn := fun _ => fun
  | [d, g1] => { results := [.lit (.bool true)], args := [d], vars := [g1] }
  | _ => none }
def fnExactStampTextRow : OpenClaim := { program := "ytacglejojkamfaadoor", sum := "a9566395543e8fc355d02640303a54ed41f51890e9573e58b5bc2f298020eb76", func := "loop.example/datenotation/laws.FnExactStampText", spec := "fnExactStampText", inPlace := ["internal/bytealg.IndexByteString", "internal/bytealg.IndexString"], unfollowed := true, recurses := true, named := ["loop.example/datenotation/impl.monthDays", "unicode/utf8.first", "unicode/utf8.acceptRanges", "internal/bytealg.MaxLen"], apart := false, laid := [("unicode/utf8.acceptRanges", laid_unicode_utf8_acceptRanges), ("loop.example/datenotation/impl.monthDays", laid_loop_example_datenotation_impl_monthDays), ("unicode/utf8.first", laid_unicode_utf8_first)] }
def FnExactStampTextSaid : Prop := fnExactStampTextRow.holds Tryd.pinned (OpenSpec.ofChange fnExactStampTextSpec)

/-- ITS FALSE NEIGHBOUR: 'it returns false'. Refute it at one input. -/
def fnExactStampTextWrong : ChangeSpec := { name := "fnExactStampText", vars := ["loop.example/datenotation/impl.monthDays"], fn := fun _ => fun
  | [d, g1] => { results := [.lit (.bool false)], args := [d], vars := [g1] }
  | _ => none }
def FnExactStampTextWrongFalsely : Prop := fnExactStampTextRow.holds Tryd.pinned (OpenSpec.ofChange fnExactStampTextWrong)

/-- 'laws.FnStampTextParts': WHATEVER THE INPUT: true; the input reads as it did. -/
def fnStampTextPartsSpec : ChangeSpec := { name := "fnStampTextParts", vars := ["loop.example/datenotation/impl.monthDays"], fn := fun _ => fun
  | [d, g1] => { results := [.lit (.bool true)], args := [d], vars := [g1] }
  | _ => none }
def fnStampTextPartsRow : OpenClaim := { program := "ytacglejojkamfaadoor", sum := "a9566395543e8fc355d02640303a54ed41f51890e9573e58b5bc2f298020eb76", func := "loop.example/datenotation/laws.FnStampTextParts", spec := "fnStampTextParts", inPlace := ["internal/bytealg.IndexByteString", "internal/bytealg.IndexString"], unfollowed := true, recurses := true, named := ["loop.example/datenotation/impl.monthDays", "unicode/utf8.first", "unicode/utf8.acceptRanges", "internal/bytealg.MaxLen"], apart := false, laid := [("unicode/utf8.acceptRanges", laid_unicode_utf8_acceptRanges), ("loop.example/datenotation/impl.monthDays", laid_loop_example_datenotation_impl_monthDays), ("unicode/utf8.first", laid_unicode_utf8_first)] }
def FnStampTextPartsSaid : Prop := fnStampTextPartsRow.holds Tryd.pinned (OpenSpec.ofChange fnStampTextPartsSpec)

/-- ITS FALSE NEIGHBOUR: 'it returns false'. Refute it at one input. -/
def fnStampTextPartsWrong : ChangeSpec := { name := "fnStampTextParts", vars := ["loop.example/datenotation/impl.monthDays"], fn := fun _ => fun
  | [d, g1] => { results := [.lit (.bool false)], args := [d], vars := [g1] }
  | _ => none }
def FnStampTextPartsWrongFalsely : Prop := fnStampTextPartsRow.holds Tryd.pinned (OpenSpec.ofChange fnStampTextPartsWrong)

/-- 'laws.FnExactStampPlus': WHATEVER THE INPUT: true; the input reads as it did. -/
def fnExactStampPlusSpec : ChangeSpec := { name := "fnExactStampPlus", vars := ["loop.example/datenotation/impl.monthDays"], fn := fun _ => fun
  | [d1, d2, d3, g1] => { results := [.lit (.bool true)], args := [d1, d2, d3], vars := [g1] }
  | _ => none }
def fnExactStampPlusRow : OpenClaim := { program := "ytacglejojkamfaadoor", sum := "a9566395543e8fc355d02640303a54ed41f51890e9573e58b5bc2f298020eb76", func := "loop.example/datenotation/laws.FnExactStampPlus", spec := "fnExactStampPlus", unfollowed := true, recurses := true, named := ["loop.example/datenotation/impl.monthDays"], apart := false, laid := [("loop.example/datenotation/impl.monthDays", laid_loop_example_datenotation_impl_monthDays)] }
def FnExactStampPlusSaid : Prop := fnExactStampPlusRow.holds Tryd.pinned (OpenSpec.ofChange fnExactStampPlusSpec)

/-- ITS FALSE NEIGHBOUR: 'it returns false'. Refute it at one input. -/
def fnExactStampPlusWrong : ChangeSpec := { name := "fnExactStampPlus", vars := ["loop.example/datenotation/impl.monthDays"], fn := fun _ => fun
  | [d1, d2, d3, g1] => { results := [.lit (.bool false)], args := [d1, d2, d3], vars := [g1] }
  | _ => none }
def FnExactStampPlusWrongFalsely : Prop := fnExactStampPlusRow.holds Tryd.pinned (OpenSpec.ofChange fnExactStampPlusWrong)

/-- 'laws.FnStampPlusParts': WHATEVER THE INPUT: true; the input reads as it did. -/
def fnStampPlusPartsSpec : ChangeSpec := { name := "fnStampPlusParts", vars := ["loop.example/datenotation/impl.monthDays"], fn := fun _ => fun
  | [d, g1] => { results := [.lit (.bool true)], args := [d], vars := [g1] }
  | _ => none }
def fnStampPlusPartsRow : OpenClaim := { program := "ytacglejojkamfaadoor", sum := "a9566395543e8fc355d02640303a54ed41f51890e9573e58b5bc2f298020eb76", func := "loop.example/datenotation/laws.FnStampPlusParts", spec := "fnStampPlusParts", unfollowed := true, recurses := true, named := ["loop.example/datenotation/impl.monthDays"], apart := false, laid := [("loop.example/datenotation/impl.monthDays", laid_loop_example_datenotation_impl_monthDays)] }
def FnStampPlusPartsSaid : Prop := fnStampPlusPartsRow.holds Tryd.pinned (OpenSpec.ofChange fnStampPlusPartsSpec)

/-- ITS FALSE NEIGHBOUR: 'it returns false'. Refute it at one input. -/
def fnStampPlusPartsWrong : ChangeSpec := { name := "fnStampPlusParts", vars := ["loop.example/datenotation/impl.monthDays"], fn := fun _ => fun
  | [d, g1] => { results := [.lit (.bool false)], args := [d], vars := [g1] }
  | _ => none }
def FnStampPlusPartsWrongFalsely : Prop := fnStampPlusPartsRow.holds Tryd.pinned (OpenSpec.ofChange fnStampPlusPartsWrong)

/-- 'laws.FnStampPlus': WHATEVER THE INPUT: true; the input reads as it did. -/
def fnStampPlusSpec : ChangeSpec := { name := "fnStampPlus", vars := ["loop.example/datenotation/impl.monthDays"], fn := fun _ => fun
  | [d, g1] => { results := [.lit (.bool true)], args := [d], vars := [g1] }
  | _ => none }
def fnStampPlusRow : OpenClaim := { program := "ytacglejojkamfaadoor", sum := "a9566395543e8fc355d02640303a54ed41f51890e9573e58b5bc2f298020eb76", func := "loop.example/datenotation/laws.FnStampPlus", spec := "fnStampPlus", unfollowed := true, recurses := true, named := ["loop.example/datenotation/impl.monthDays"], apart := false, laid := [("loop.example/datenotation/impl.monthDays", laid_loop_example_datenotation_impl_monthDays)] }
def FnStampPlusSaid : Prop := fnStampPlusRow.holds Tryd.pinned (OpenSpec.ofChange fnStampPlusSpec)

/-- ITS FALSE NEIGHBOUR: 'it returns false'. Refute it at one input. -/
def fnStampPlusWrong : ChangeSpec := { name := "fnStampPlus", vars := ["loop.example/datenotation/impl.monthDays"], fn := fun _ => fun
  | [d, g1] => { results := [.lit (.bool false)], args := [d], vars := [g1] }
  | _ => none }
def FnStampPlusWrongFalsely : Prop := fnStampPlusRow.holds Tryd.pinned (OpenSpec.ofChange fnStampPlusWrong)

/-- 'laws.FnStampPlusTime': WHATEVER THE INPUT: true; the input reads as it did. -/
def fnStampPlusTimeSpec : ChangeSpec := { name := "fnStampPlusTime", vars := ["loop.example/datenotation/impl.monthDays"], fn := fun _ => fun
  | [d, g1] => { results := [.lit (.bool true)], args := [d], vars := [g1] }
  | _ => none }
def fnStampPlusTimeRow : OpenClaim := { program := "ytacglejojkamfaadoor", sum := "a9566395543e8fc355d02640303a54ed41f51890e9573e58b5bc2f298020eb76", func := "loop.example/datenotation/laws.FnStampPlusTime", spec := "fnStampPlusTime", unfollowed := true, recurses := true, named := ["loop.example/datenotation/impl.monthDays"], apart := false, laid := [("loop.example/datenotation/impl.monthDays", laid_loop_example_datenotation_impl_monthDays)] }
def FnStampPlusTimeSaid : Prop := fnStampPlusTimeRow.holds Tryd.pinned (OpenSpec.ofChange fnStampPlusTimeSpec)

/-- ITS FALSE NEIGHBOUR: 'it returns false'. Refute it at one input. -/
def fnStampPlusTimeWrong : ChangeSpec := { name := "fnStampPlusTime", vars := ["loop.example/datenotation/impl.monthDays"], fn := fun _ => fun
  | [d, g1] => { results := [.lit (.bool false)], args := [d], vars := [g1] }
  | _ => none }
def FnStampPlusTimeWrongFalsely : Prop := fnStampPlusTimeRow.holds Tryd.pinned (OpenSpec.ofChange fnStampPlusTimeWrong)

/- THE SECOND FORM. 'bulk': how many values and letters a reading holds, each counted each time it is reached (what is shared counts as often as it is met; a slice's spare places count too). A statement '..UptoSaid' is the law's where the arguments, and the package variables that the reading takes, are together of bulk at most 1048576: NARROWER than '..Said'. Prove '..Said' where nothing that the law and all that it calls make is longer than what came in: it says more and counts as full. Else prove '..UptoSaid'. A law counts once. -/
mutual
def uptoBulk {H : Type} : DataW H → Nat
  | .lit (.string bytes) => bytes.length + 1
  | .lit _ => 1
  | .nil => 1
  | .ptr d => uptoBulk d + 1
  | .slice elems spare => uptoBulkAll elems + uptoBulkAll spare + 1
  | .agg parts => uptoBulkAll parts + 1
  | .iface _ d => uptoBulk d + 1
  | .map entries => uptoBulkEntries entries + 1
  | .held _ => 1
def uptoBulkAll {H : Type} : List (DataW H) → Nat
  | [] => 0
  | d :: r => uptoBulk d + uptoBulkAll r
def uptoBulkEntries {H : Type} : List (Lit × DataW H) → Nat
  | [] => 0
  | x :: r => uptoBulkEntry x + uptoBulkEntries r
def uptoBulkEntry {H : Type} : Lit × DataW H → Nat
  | (.string bytes, d) => bytes.length + uptoBulk d + 1
  | (_, d) => uptoBulk d + 1
 end
def uptoSmall : (H : Type) → List (DataW H) → Bool := fun _ ds => decide (uptoBulkAll ds ≤ 1048576)
def OpenSpec.upto (s : _root_.Go.ChangeSpec) : _root_.Go.OpenSpec := { _root_.Go.OpenSpec.ofChange s with cond := some uptoSmall }

/-- 'laws.FnExactSpanHas', WHERE WHAT IT READS IS OF BULK AT MOST 1048576: true; the input reads as it did. -/
def fnExactSpanHasUptoRow : OpenClaim := { program := "ytacglejojkamfaadoor", sum := "a9566395543e8fc355d02640303a54ed41f51890e9573e58b5bc2f298020eb76", func := "loop.example/datenotation/laws.FnExactSpanHas", spec := "fnExactSpanHas", named := ["loop.example/datenotation/impl.monthDays"], apart := false, laid := [("loop.example/datenotation/impl.monthDays", laid_loop_example_datenotation_impl_monthDays)], narrowed := true }
def FnExactSpanHasUptoSaid : Prop := fnExactSpanHasUptoRow.holds Tryd.pinned (OpenSpec.upto fnExactSpanHasSpec)

/-- 'laws.FnSpanHas', WHERE WHAT IT READS IS OF BULK AT MOST 1048576: true; the input reads as it did. -/
def fnSpanHasUptoRow : OpenClaim := { program := "ytacglejojkamfaadoor", sum := "a9566395543e8fc355d02640303a54ed41f51890e9573e58b5bc2f298020eb76", func := "loop.example/datenotation/laws.FnSpanHas", spec := "fnSpanHas", named := ["loop.example/datenotation/impl.monthDays"], apart := false, laid := [("loop.example/datenotation/impl.monthDays", laid_loop_example_datenotation_impl_monthDays)], narrowed := true }
def FnSpanHasUptoSaid : Prop := fnSpanHasUptoRow.holds Tryd.pinned (OpenSpec.upto fnSpanHasSpec)

/-- 'laws.FnSpanHasWhen', WHERE WHAT IT READS IS OF BULK AT MOST 1048576: true; the input reads as it did. -/
def fnSpanHasWhenUptoRow : OpenClaim := { program := "ytacglejojkamfaadoor", sum := "a9566395543e8fc355d02640303a54ed41f51890e9573e58b5bc2f298020eb76", func := "loop.example/datenotation/laws.FnSpanHasWhen", spec := "fnSpanHasWhen", named := ["loop.example/datenotation/impl.monthDays"], apart := false, laid := [("loop.example/datenotation/impl.monthDays", laid_loop_example_datenotation_impl_monthDays)], narrowed := true }
def FnSpanHasWhenUptoSaid : Prop := fnSpanHasWhenUptoRow.holds Tryd.pinned (OpenSpec.upto fnSpanHasWhenSpec)

/-- 'laws.FnExactSpanLength', WHERE WHAT IT READS IS OF BULK AT MOST 1048576: true; the input reads as it did. -/
def fnExactSpanLengthUptoRow : OpenClaim := { program := "ytacglejojkamfaadoor", sum := "a9566395543e8fc355d02640303a54ed41f51890e9573e58b5bc2f298020eb76", func := "loop.example/datenotation/laws.FnExactSpanLength", spec := "fnExactSpanLength", unfollowed := true, recurses := true, named := ["loop.example/datenotation/impl.monthDays"], apart := false, laid := [("loop.example/datenotation/impl.monthDays", laid_loop_example_datenotation_impl_monthDays)], narrowed := true }
def FnExactSpanLengthUptoSaid : Prop := fnExactSpanLengthUptoRow.holds Tryd.pinned (OpenSpec.upto fnExactSpanLengthSpec)

/-- 'laws.FnSpanLength', WHERE WHAT IT READS IS OF BULK AT MOST 1048576: true; the input reads as it did. -/
def fnSpanLengthUptoRow : OpenClaim := { program := "ytacglejojkamfaadoor", sum := "a9566395543e8fc355d02640303a54ed41f51890e9573e58b5bc2f298020eb76", func := "loop.example/datenotation/laws.FnSpanLength", spec := "fnSpanLength", unfollowed := true, recurses := true, named := ["loop.example/datenotation/impl.monthDays"], apart := false, laid := [("loop.example/datenotation/impl.monthDays", laid_loop_example_datenotation_impl_monthDays)], narrowed := true }
def FnSpanLengthUptoSaid : Prop := fnSpanLengthUptoRow.holds Tryd.pinned (OpenSpec.upto fnSpanLengthSpec)

/-- 'laws.FnExactStampText', WHERE WHAT IT READS IS OF BULK AT MOST 1048576: true; the input reads as it did. -/
def fnExactStampTextUptoRow : OpenClaim := { program := "ytacglejojkamfaadoor", sum := "a9566395543e8fc355d02640303a54ed41f51890e9573e58b5bc2f298020eb76", func := "loop.example/datenotation/laws.FnExactStampText", spec := "fnExactStampText", inPlace := ["internal/bytealg.IndexByteString", "internal/bytealg.IndexString"], unfollowed := true, recurses := true, named := ["loop.example/datenotation/impl.monthDays", "unicode/utf8.first", "unicode/utf8.acceptRanges", "internal/bytealg.MaxLen"], apart := false, laid := [("unicode/utf8.acceptRanges", laid_unicode_utf8_acceptRanges), ("loop.example/datenotation/impl.monthDays", laid_loop_example_datenotation_impl_monthDays), ("unicode/utf8.first", laid_unicode_utf8_first)], narrowed := true }
def FnExactStampTextUptoSaid : Prop := fnExactStampTextUptoRow.holds Tryd.pinned (OpenSpec.upto fnExactStampTextSpec)

/-- 'laws.FnStampTextParts', WHERE WHAT IT READS IS OF BULK AT MOST 1048576: true; the input reads as it did. -/
def fnStampTextPartsUptoRow : OpenClaim := { program := "ytacglejojkamfaadoor", sum := "a9566395543e8fc355d02640303a54ed41f51890e9573e58b5bc2f298020eb76", func := "loop.example/datenotation/laws.FnStampTextParts", spec := "fnStampTextParts", inPlace := ["internal/bytealg.IndexByteString", "internal/bytealg.IndexString"], unfollowed := true, recurses := true, named := ["loop.example/datenotation/impl.monthDays", "unicode/utf8.first", "unicode/utf8.acceptRanges", "internal/bytealg.MaxLen"], apart := false, laid := [("unicode/utf8.acceptRanges", laid_unicode_utf8_acceptRanges), ("loop.example/datenotation/impl.monthDays", laid_loop_example_datenotation_impl_monthDays), ("unicode/utf8.first", laid_unicode_utf8_first)], narrowed := true }
def FnStampTextPartsUptoSaid : Prop := fnStampTextPartsUptoRow.holds Tryd.pinned (OpenSpec.upto fnStampTextPartsSpec)

/-- 'laws.FnExactStampPlus', WHERE WHAT IT READS IS OF BULK AT MOST 1048576: true; the input reads as it did. -/
def fnExactStampPlusUptoRow : OpenClaim := { program := "ytacglejojkamfaadoor", sum := "a9566395543e8fc355d02640303a54ed41f51890e9573e58b5bc2f298020eb76", func := "loop.example/datenotation/laws.FnExactStampPlus", spec := "fnExactStampPlus", unfollowed := true, recurses := true, named := ["loop.example/datenotation/impl.monthDays"], apart := false, laid := [("loop.example/datenotation/impl.monthDays", laid_loop_example_datenotation_impl_monthDays)], narrowed := true }
def FnExactStampPlusUptoSaid : Prop := fnExactStampPlusUptoRow.holds Tryd.pinned (OpenSpec.upto fnExactStampPlusSpec)

/-- 'laws.FnStampPlusParts', WHERE WHAT IT READS IS OF BULK AT MOST 1048576: true; the input reads as it did. -/
def fnStampPlusPartsUptoRow : OpenClaim := { program := "ytacglejojkamfaadoor", sum := "a9566395543e8fc355d02640303a54ed41f51890e9573e58b5bc2f298020eb76", func := "loop.example/datenotation/laws.FnStampPlusParts", spec := "fnStampPlusParts", unfollowed := true, recurses := true, named := ["loop.example/datenotation/impl.monthDays"], apart := false, laid := [("loop.example/datenotation/impl.monthDays", laid_loop_example_datenotation_impl_monthDays)], narrowed := true }
def FnStampPlusPartsUptoSaid : Prop := fnStampPlusPartsUptoRow.holds Tryd.pinned (OpenSpec.upto fnStampPlusPartsSpec)

/-- 'laws.FnStampPlus', WHERE WHAT IT READS IS OF BULK AT MOST 1048576: true; the input reads as it did. -/
def fnStampPlusUptoRow : OpenClaim := { program := "ytacglejojkamfaadoor", sum := "a9566395543e8fc355d02640303a54ed41f51890e9573e58b5bc2f298020eb76", func := "loop.example/datenotation/laws.FnStampPlus", spec := "fnStampPlus", unfollowed := true, recurses := true, named := ["loop.example/datenotation/impl.monthDays"], apart := false, laid := [("loop.example/datenotation/impl.monthDays", laid_loop_example_datenotation_impl_monthDays)], narrowed := true }
def FnStampPlusUptoSaid : Prop := fnStampPlusUptoRow.holds Tryd.pinned (OpenSpec.upto fnStampPlusSpec)

/-- 'laws.FnStampPlusTime', WHERE WHAT IT READS IS OF BULK AT MOST 1048576: true; the input reads as it did. -/
def fnStampPlusTimeUptoRow : OpenClaim := { program := "ytacglejojkamfaadoor", sum := "a9566395543e8fc355d02640303a54ed41f51890e9573e58b5bc2f298020eb76", func := "loop.example/datenotation/laws.FnStampPlusTime", spec := "fnStampPlusTime", unfollowed := true, recurses := true, named := ["loop.example/datenotation/impl.monthDays"], apart := false, laid := [("loop.example/datenotation/impl.monthDays", laid_loop_example_datenotation_impl_monthDays)], narrowed := true }
def FnStampPlusTimeUptoSaid : Prop := fnStampPlusTimeUptoRow.holds Tryd.pinned (OpenSpec.upto fnStampPlusTimeSpec)

end Rows
end Go.Proofs.YtacglejojkamfaaDoor
