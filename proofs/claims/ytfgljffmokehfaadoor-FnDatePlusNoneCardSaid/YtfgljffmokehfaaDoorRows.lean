/-
  NARROWER THAN 'FOR EVERY INPUT', by the rows' own cells (each row's printed sentence says how): FnExactMonthPlus: laid · FnMonthPlus: laid · FnMonthPlusBack: laid · FnMonthPlusYear: laid · FnExactDayPlus: laid · FnDayPlusBack: laid · FnDayPlus: laid · FnExactDateText: laid · FnDateTextLength: laid · FnDateTextOrder: laid · FnExactDatePlus: laid · FnDatePlus: laid · FnDatePlusNone: laid.
  DERIVED. THE GIVEN ROWS OF THIS SEAT. 13 by the template 'for every input the law returns true; each argument reads behind the call as it read before'; 0 by the template 'total and deterministic' (their statements: YtfgljffmokehfaaDoorTotals.lean).
  GIVEN WITH THE SEED: the statements are not yours to turn. If you find one false, say at which input.
  Laid BY PROGRAM, IN A SANDBOX (cutbox-rows.mjs): the forced cells as the released guide's own fill.sh prints them over the translation 11e5af2131538038… (all of the seat's roots in one cut). By AI agents, Wed Nov 11 2026. No macro, syntax, notation, axiom, sorry.
-/
import Derived.Test.YtfgljffmokehfaaDoorChecked
import GoSem.Claim
import GoSem.ClaimJoined
import GoSem.ClaimMapViews
import Derived.JoinedTies
import Derived.KernelRfl
namespace Go.Proofs.YtfgljffmokehfaaDoor
/- THE CELL 'sum', in the pinned program and in every row, IS THE sha256 OF THE DUMP (.gsa) THAT YtfgljffmokehfaaDoorProg.lean LOADS. Nothing in Lean hashes anything: it is a label: what it is worth is what the hold of that sum in a sandbox is worth. -/
noncomputable def Tryd.pinned : Pinned := { name := "ytfgljffmokehfaadoor", sum := "11e5af213153803822e2f0ac42813b8482e4c29444c790a24acc87fe2a69ef9e", checked := Tryd.checked }
namespace Rows
def none {H : Type} : Left H := { results := [], args := [] }

/- WHAT THE LISTED PACKAGE-LEVEL VARIABLES READ AS WHEN THE CALL BEGINS. Each datum BY PROGRAM (the guide's laid-datum.mjs) off the statement by which the dump's own 'gosem.cut.vars' lays the variable. In a bare row this is a premise. The card (YtfgljffmokehfaaDoorCards.lean) ties it to the program's text. -/
def laid_loop_example_datenotation_impl_monthDays {H : Type} : DataW H := .agg [.lit (.int .i64 31), .lit (.int .i64 28), .lit (.int .i64 31), .lit (.int .i64 30), .lit (.int .i64 31), .lit (.int .i64 30), .lit (.int .i64 31), .lit (.int .i64 31), .lit (.int .i64 30), .lit (.int .i64 31), .lit (.int .i64 30), .lit (.int .i64 31)]

/-- 'laws.FnExactMonthPlus': WHATEVER THE INPUT: true; the input reads as it did. -/
def fnExactMonthPlusSpec : ChangeSpec := { name := "fnExactMonthPlus", vars := ["loop.example/datenotation/impl.monthDays"], fn := fun _ => fun
  | [d1, d2, g1] => { results := [.lit (.bool true)], args := [d1, d2], vars := [g1] }
  | _ => none }
def fnExactMonthPlusRow : OpenClaim := { program := "ytfgljffmokehfaadoor", sum := "11e5af213153803822e2f0ac42813b8482e4c29444c790a24acc87fe2a69ef9e", func := "loop.example/datenotation/laws.FnExactMonthPlus", spec := "fnExactMonthPlus", named := ["loop.example/datenotation/impl.monthDays"], apart := false, laid := [("loop.example/datenotation/impl.monthDays", laid_loop_example_datenotation_impl_monthDays)] }
def FnExactMonthPlusSaid : Prop := fnExactMonthPlusRow.holds Tryd.pinned (OpenSpec.ofChange fnExactMonthPlusSpec)

/-- ITS FALSE NEIGHBOUR: 'it returns false'. Refute it at one input. -/
def fnExactMonthPlusWrong : ChangeSpec := { name := "fnExactMonthPlus", vars := ["loop.example/datenotation/impl.monthDays"], fn := fun _ => fun
  | [d1, d2, g1] => { results := [.lit (.bool false)], args := [d1, d2], vars := [g1] }
  | _ => none }
def FnExactMonthPlusWrongFalsely : Prop := fnExactMonthPlusRow.holds Tryd.pinned (OpenSpec.ofChange fnExactMonthPlusWrong)

/-- 'laws.FnMonthPlus': WHATEVER THE INPUT: true; the input reads as it did. -/
def fnMonthPlusSpec : ChangeSpec := { name := "fnMonthPlus", vars := ["loop.example/datenotation/impl.monthDays"], fn := fun _ => fun
  | [d, g1] => { results := [.lit (.bool true)], args := [d], vars := [g1] }
  | _ => none }
def fnMonthPlusRow : OpenClaim := { program := "ytfgljffmokehfaadoor", sum := "11e5af213153803822e2f0ac42813b8482e4c29444c790a24acc87fe2a69ef9e", func := "loop.example/datenotation/laws.FnMonthPlus", spec := "fnMonthPlus", named := ["loop.example/datenotation/impl.monthDays"], apart := false, laid := [("loop.example/datenotation/impl.monthDays", laid_loop_example_datenotation_impl_monthDays)] }
def FnMonthPlusSaid : Prop := fnMonthPlusRow.holds Tryd.pinned (OpenSpec.ofChange fnMonthPlusSpec)

/-- ITS FALSE NEIGHBOUR: 'it returns false'. Refute it at one input. -/
def fnMonthPlusWrong : ChangeSpec := { name := "fnMonthPlus", vars := ["loop.example/datenotation/impl.monthDays"], fn := fun _ => fun
  | [d, g1] => { results := [.lit (.bool false)], args := [d], vars := [g1] }
  | _ => none }
def FnMonthPlusWrongFalsely : Prop := fnMonthPlusRow.holds Tryd.pinned (OpenSpec.ofChange fnMonthPlusWrong)

/-- 'laws.FnMonthPlusBack': WHATEVER THE INPUT: true; the input reads as it did. -/
def fnMonthPlusBackSpec : ChangeSpec := { name := "fnMonthPlusBack", vars := ["loop.example/datenotation/impl.monthDays"], fn := fun _ => fun
  | [d, g1] => { results := [.lit (.bool true)], args := [d], vars := [g1] }
  | _ => none }
def fnMonthPlusBackRow : OpenClaim := { program := "ytfgljffmokehfaadoor", sum := "11e5af213153803822e2f0ac42813b8482e4c29444c790a24acc87fe2a69ef9e", func := "loop.example/datenotation/laws.FnMonthPlusBack", spec := "fnMonthPlusBack", named := ["loop.example/datenotation/impl.monthDays"], apart := false, laid := [("loop.example/datenotation/impl.monthDays", laid_loop_example_datenotation_impl_monthDays)] }
def FnMonthPlusBackSaid : Prop := fnMonthPlusBackRow.holds Tryd.pinned (OpenSpec.ofChange fnMonthPlusBackSpec)

/-- ITS FALSE NEIGHBOUR: 'it returns false'. Refute it at one input. -/
def fnMonthPlusBackWrong : ChangeSpec := { name := "fnMonthPlusBack", vars := ["loop.example/datenotation/impl.monthDays"], fn := fun _ => fun
  | [d, g1] => { results := [.lit (.bool false)], args := [d], vars := [g1] }
  | _ => none }
def FnMonthPlusBackWrongFalsely : Prop := fnMonthPlusBackRow.holds Tryd.pinned (OpenSpec.ofChange fnMonthPlusBackWrong)

/-- 'laws.FnMonthPlusYear': WHATEVER THE INPUT: true; the input reads as it did. -/
def fnMonthPlusYearSpec : ChangeSpec := { name := "fnMonthPlusYear", vars := ["loop.example/datenotation/impl.monthDays"], fn := fun _ => fun
  | [d, g1] => { results := [.lit (.bool true)], args := [d], vars := [g1] }
  | _ => none }
def fnMonthPlusYearRow : OpenClaim := { program := "ytfgljffmokehfaadoor", sum := "11e5af213153803822e2f0ac42813b8482e4c29444c790a24acc87fe2a69ef9e", func := "loop.example/datenotation/laws.FnMonthPlusYear", spec := "fnMonthPlusYear", named := ["loop.example/datenotation/impl.monthDays"], apart := false, laid := [("loop.example/datenotation/impl.monthDays", laid_loop_example_datenotation_impl_monthDays)] }
def FnMonthPlusYearSaid : Prop := fnMonthPlusYearRow.holds Tryd.pinned (OpenSpec.ofChange fnMonthPlusYearSpec)

/-- ITS FALSE NEIGHBOUR: 'it returns false'. Refute it at one input. -/
def fnMonthPlusYearWrong : ChangeSpec := { name := "fnMonthPlusYear", vars := ["loop.example/datenotation/impl.monthDays"], fn := fun _ => fun
  | [d, g1] => { results := [.lit (.bool false)], args := [d], vars := [g1] }
  | _ => none }
def FnMonthPlusYearWrongFalsely : Prop := fnMonthPlusYearRow.holds Tryd.pinned (OpenSpec.ofChange fnMonthPlusYearWrong)

/-- 'laws.FnExactDayPlus': WHATEVER THE INPUT: true; the input reads as it did. -/
def fnExactDayPlusSpec : ChangeSpec := { name := "fnExactDayPlus", vars := ["loop.example/datenotation/impl.monthDays"], fn := fun _ => fun
  | [d1, d2, g1] => { results := [.lit (.bool true)], args := [d1, d2], vars := [g1] }
  | _ => none }
def fnExactDayPlusRow : OpenClaim := { program := "ytfgljffmokehfaadoor", sum := "11e5af213153803822e2f0ac42813b8482e4c29444c790a24acc87fe2a69ef9e", func := "loop.example/datenotation/laws.FnExactDayPlus", spec := "fnExactDayPlus", named := ["loop.example/datenotation/impl.monthDays"], apart := false, laid := [("loop.example/datenotation/impl.monthDays", laid_loop_example_datenotation_impl_monthDays)] }
def FnExactDayPlusSaid : Prop := fnExactDayPlusRow.holds Tryd.pinned (OpenSpec.ofChange fnExactDayPlusSpec)

/-- ITS FALSE NEIGHBOUR: 'it returns false'. Refute it at one input. -/
def fnExactDayPlusWrong : ChangeSpec := { name := "fnExactDayPlus", vars := ["loop.example/datenotation/impl.monthDays"], fn := fun _ => fun
  | [d1, d2, g1] => { results := [.lit (.bool false)], args := [d1, d2], vars := [g1] }
  | _ => none }
def FnExactDayPlusWrongFalsely : Prop := fnExactDayPlusRow.holds Tryd.pinned (OpenSpec.ofChange fnExactDayPlusWrong)

/-- 'laws.FnDayPlusBack': WHATEVER THE INPUT: true; the input reads as it did. -/
def fnDayPlusBackSpec : ChangeSpec := { name := "fnDayPlusBack", vars := ["loop.example/datenotation/impl.monthDays"], fn := fun _ => fun
  | [d, g1] => { results := [.lit (.bool true)], args := [d], vars := [g1] }
  | _ => none }
def fnDayPlusBackRow : OpenClaim := { program := "ytfgljffmokehfaadoor", sum := "11e5af213153803822e2f0ac42813b8482e4c29444c790a24acc87fe2a69ef9e", func := "loop.example/datenotation/laws.FnDayPlusBack", spec := "fnDayPlusBack", named := ["loop.example/datenotation/impl.monthDays"], apart := false, laid := [("loop.example/datenotation/impl.monthDays", laid_loop_example_datenotation_impl_monthDays)] }
def FnDayPlusBackSaid : Prop := fnDayPlusBackRow.holds Tryd.pinned (OpenSpec.ofChange fnDayPlusBackSpec)

/-- ITS FALSE NEIGHBOUR: 'it returns false'. Refute it at one input. -/
def fnDayPlusBackWrong : ChangeSpec := { name := "fnDayPlusBack", vars := ["loop.example/datenotation/impl.monthDays"], fn := fun _ => fun
  | [d, g1] => { results := [.lit (.bool false)], args := [d], vars := [g1] }
  | _ => none }
def FnDayPlusBackWrongFalsely : Prop := fnDayPlusBackRow.holds Tryd.pinned (OpenSpec.ofChange fnDayPlusBackWrong)

/-- 'laws.FnDayPlus': WHATEVER THE INPUT: true; the input reads as it did. -/
def fnDayPlusSpec : ChangeSpec := { name := "fnDayPlus", vars := ["loop.example/datenotation/impl.monthDays"], fn := fun _ => fun
  | [d, g1] => { results := [.lit (.bool true)], args := [d], vars := [g1] }
  | _ => none }
def fnDayPlusRow : OpenClaim := { program := "ytfgljffmokehfaadoor", sum := "11e5af213153803822e2f0ac42813b8482e4c29444c790a24acc87fe2a69ef9e", func := "loop.example/datenotation/laws.FnDayPlus", spec := "fnDayPlus", named := ["loop.example/datenotation/impl.monthDays"], apart := false, laid := [("loop.example/datenotation/impl.monthDays", laid_loop_example_datenotation_impl_monthDays)] }
def FnDayPlusSaid : Prop := fnDayPlusRow.holds Tryd.pinned (OpenSpec.ofChange fnDayPlusSpec)

/-- ITS FALSE NEIGHBOUR: 'it returns false'. Refute it at one input. -/
def fnDayPlusWrong : ChangeSpec := { name := "fnDayPlus", vars := ["loop.example/datenotation/impl.monthDays"], fn := fun _ => fun
  | [d, g1] => { results := [.lit (.bool false)], args := [d], vars := [g1] }
  | _ => none }
def FnDayPlusWrongFalsely : Prop := fnDayPlusRow.holds Tryd.pinned (OpenSpec.ofChange fnDayPlusWrong)

/-- 'laws.FnExactDateText': WHATEVER THE INPUT: true; the input reads as it did. -/
def fnExactDateTextSpec : ChangeSpec := { name := "fnExactDateText", vars := ["loop.example/datenotation/impl.monthDays"], fn := fun _ => fun
  | [d1, d2, d3, g1] => { results := [.lit (.bool true)], args := [d1, d2, d3], vars := [g1] }
  | _ => none }
def fnExactDateTextRow : OpenClaim := { program := "ytfgljffmokehfaadoor", sum := "11e5af213153803822e2f0ac42813b8482e4c29444c790a24acc87fe2a69ef9e", func := "loop.example/datenotation/laws.FnExactDateText", spec := "fnExactDateText", unfollowed := true, recurses := true, named := ["loop.example/datenotation/impl.monthDays"], apart := false, laid := [("loop.example/datenotation/impl.monthDays", laid_loop_example_datenotation_impl_monthDays)] }
def FnExactDateTextSaid : Prop := fnExactDateTextRow.holds Tryd.pinned (OpenSpec.ofChange fnExactDateTextSpec)

/-- ITS FALSE NEIGHBOUR: 'it returns false'. Refute it at one input. -/
def fnExactDateTextWrong : ChangeSpec := { name := "fnExactDateText", vars := ["loop.example/datenotation/impl.monthDays"], fn := fun _ => fun
  | [d1, d2, d3, g1] => { results := [.lit (.bool false)], args := [d1, d2, d3], vars := [g1] }
  | _ => none }
def FnExactDateTextWrongFalsely : Prop := fnExactDateTextRow.holds Tryd.pinned (OpenSpec.ofChange fnExactDateTextWrong)

/-- 'laws.FnDateTextLength': WHATEVER THE INPUT: true; the input reads as it did. -/
def fnDateTextLengthSpec : ChangeSpec := { name := "fnDateTextLength", vars := ["loop.example/datenotation/impl.monthDays"], fn := fun _ => fun
  | [d, g1] => { results := [.lit (.bool true)], args := [d], vars := [g1] }
  | _ => none }
def fnDateTextLengthRow : OpenClaim := { program := "ytfgljffmokehfaadoor", sum := "11e5af213153803822e2f0ac42813b8482e4c29444c790a24acc87fe2a69ef9e", func := "loop.example/datenotation/laws.FnDateTextLength", spec := "fnDateTextLength", unfollowed := true, recurses := true, named := ["loop.example/datenotation/impl.monthDays"], apart := false, laid := [("loop.example/datenotation/impl.monthDays", laid_loop_example_datenotation_impl_monthDays)] }
def FnDateTextLengthSaid : Prop := fnDateTextLengthRow.holds Tryd.pinned (OpenSpec.ofChange fnDateTextLengthSpec)

/-- ITS FALSE NEIGHBOUR: 'it returns false'. Refute it at one input. -/
def fnDateTextLengthWrong : ChangeSpec := { name := "fnDateTextLength", vars := ["loop.example/datenotation/impl.monthDays"], fn := fun _ => fun
  | [d, g1] => { results := [.lit (.bool false)], args := [d], vars := [g1] }
  | _ => none }
def FnDateTextLengthWrongFalsely : Prop := fnDateTextLengthRow.holds Tryd.pinned (OpenSpec.ofChange fnDateTextLengthWrong)

/-- 'laws.FnDateTextOrder': WHATEVER THE INPUT: true; the input reads as it did. -/
def fnDateTextOrderSpec : ChangeSpec := { name := "fnDateTextOrder", vars := ["loop.example/datenotation/impl.monthDays"], fn := fun _ => fun
  | [d, g1] => { results := [.lit (.bool true)], args := [d], vars := [g1] }
  | _ => none }
def fnDateTextOrderRow : OpenClaim := { program := "ytfgljffmokehfaadoor", sum := "11e5af213153803822e2f0ac42813b8482e4c29444c790a24acc87fe2a69ef9e", func := "loop.example/datenotation/laws.FnDateTextOrder", spec := "fnDateTextOrder", unfollowed := true, recurses := true, named := ["loop.example/datenotation/impl.monthDays"], apart := false, laid := [("loop.example/datenotation/impl.monthDays", laid_loop_example_datenotation_impl_monthDays)] }
def FnDateTextOrderSaid : Prop := fnDateTextOrderRow.holds Tryd.pinned (OpenSpec.ofChange fnDateTextOrderSpec)

/-- ITS FALSE NEIGHBOUR: 'it returns false'. Refute it at one input. -/
def fnDateTextOrderWrong : ChangeSpec := { name := "fnDateTextOrder", vars := ["loop.example/datenotation/impl.monthDays"], fn := fun _ => fun
  | [d, g1] => { results := [.lit (.bool false)], args := [d], vars := [g1] }
  | _ => none }
def FnDateTextOrderWrongFalsely : Prop := fnDateTextOrderRow.holds Tryd.pinned (OpenSpec.ofChange fnDateTextOrderWrong)

/-- 'laws.FnExactDatePlus': WHATEVER THE INPUT: true; the input reads as it did. -/
def fnExactDatePlusSpec : ChangeSpec := { name := "fnExactDatePlus", vars := ["loop.example/datenotation/impl.monthDays"], fn := fun _ => fun
  | [d1, d2, d3, g1] => { results := [.lit (.bool true)], args := [d1, d2, d3], vars := [g1] }
  | _ => none }
def fnExactDatePlusRow : OpenClaim := { program := "ytfgljffmokehfaadoor", sum := "11e5af213153803822e2f0ac42813b8482e4c29444c790a24acc87fe2a69ef9e", func := "loop.example/datenotation/laws.FnExactDatePlus", spec := "fnExactDatePlus", unfollowed := true, recurses := true, named := ["loop.example/datenotation/impl.monthDays"], apart := false, laid := [("loop.example/datenotation/impl.monthDays", laid_loop_example_datenotation_impl_monthDays)] }
def FnExactDatePlusSaid : Prop := fnExactDatePlusRow.holds Tryd.pinned (OpenSpec.ofChange fnExactDatePlusSpec)

/-- ITS FALSE NEIGHBOUR: 'it returns false'. Refute it at one input. -/
def fnExactDatePlusWrong : ChangeSpec := { name := "fnExactDatePlus", vars := ["loop.example/datenotation/impl.monthDays"], fn := fun _ => fun
  | [d1, d2, d3, g1] => { results := [.lit (.bool false)], args := [d1, d2, d3], vars := [g1] }
  | _ => none }
def FnExactDatePlusWrongFalsely : Prop := fnExactDatePlusRow.holds Tryd.pinned (OpenSpec.ofChange fnExactDatePlusWrong)

/-- 'laws.FnDatePlus': WHATEVER THE INPUT: true; the input reads as it did. -/
def fnDatePlusSpec : ChangeSpec := { name := "fnDatePlus", vars := ["loop.example/datenotation/impl.monthDays"], fn := fun _ => fun
  | [d, g1] => { results := [.lit (.bool true)], args := [d], vars := [g1] }
  | _ => none }
def fnDatePlusRow : OpenClaim := { program := "ytfgljffmokehfaadoor", sum := "11e5af213153803822e2f0ac42813b8482e4c29444c790a24acc87fe2a69ef9e", func := "loop.example/datenotation/laws.FnDatePlus", spec := "fnDatePlus", unfollowed := true, recurses := true, named := ["loop.example/datenotation/impl.monthDays"], apart := false, laid := [("loop.example/datenotation/impl.monthDays", laid_loop_example_datenotation_impl_monthDays)] }
def FnDatePlusSaid : Prop := fnDatePlusRow.holds Tryd.pinned (OpenSpec.ofChange fnDatePlusSpec)

/-- ITS FALSE NEIGHBOUR: 'it returns false'. Refute it at one input. -/
def fnDatePlusWrong : ChangeSpec := { name := "fnDatePlus", vars := ["loop.example/datenotation/impl.monthDays"], fn := fun _ => fun
  | [d, g1] => { results := [.lit (.bool false)], args := [d], vars := [g1] }
  | _ => none }
def FnDatePlusWrongFalsely : Prop := fnDatePlusRow.holds Tryd.pinned (OpenSpec.ofChange fnDatePlusWrong)

/-- 'laws.FnDatePlusNone': WHATEVER THE INPUT: true; the input reads as it did. -/
def fnDatePlusNoneSpec : ChangeSpec := { name := "fnDatePlusNone", vars := ["loop.example/datenotation/impl.monthDays"], fn := fun _ => fun
  | [d, g1] => { results := [.lit (.bool true)], args := [d], vars := [g1] }
  | _ => none }
def fnDatePlusNoneRow : OpenClaim := { program := "ytfgljffmokehfaadoor", sum := "11e5af213153803822e2f0ac42813b8482e4c29444c790a24acc87fe2a69ef9e", func := "loop.example/datenotation/laws.FnDatePlusNone", spec := "fnDatePlusNone", unfollowed := true, recurses := true, named := ["loop.example/datenotation/impl.monthDays"], apart := false, laid := [("loop.example/datenotation/impl.monthDays", laid_loop_example_datenotation_impl_monthDays)] }
def FnDatePlusNoneSaid : Prop := fnDatePlusNoneRow.holds Tryd.pinned (OpenSpec.ofChange fnDatePlusNoneSpec)

/-- ITS FALSE NEIGHBOUR: 'it returns false'. Refute it at one input. -/
def fnDatePlusNoneWrong : ChangeSpec := { name := "fnDatePlusNone", vars := ["loop.example/datenotation/impl.monthDays"], fn := fun _ => fun
  | [d, g1] => { results := [.lit (.bool false)], args := [d], vars := [g1] }
  | _ => none }
def FnDatePlusNoneWrongFalsely : Prop := fnDatePlusNoneRow.holds Tryd.pinned (OpenSpec.ofChange fnDatePlusNoneWrong)

/- THE SECOND FORM. 'bulk': how many values and letters a reading holds, each counted each time it is reached (what is shared counts as often as it is met; a slice's spare places count too). A statement '..UptoSaid' is the law's where the arguments, and the package variables that the reading takes, are together of bulk at most 1048576: NARROWER than '..Said'. Prove '..Said' where nothing that the law and all that it calls make is longer than what came in: it says more and counts as full. Else prove '..UptoSaid'. A law counts once. -/
mutual
def uptoBulk {H : Type} : DataW H → Nat
  | .lit (.string bytes) => bytes.length + 1
  | .lit _ => 1
  | .nil => 1
  | .ptr d => uptoBulk d + 1
  | .slice elems spare => uptoBulkAll elems + uptoBulkAll spare + 1
  | .agg parts => uptoBulkAll parts + 1
  | .iface _ d => uptoBulk d + 1
  | .map entries => uptoBulkEntries entries + 1
  | .held _ => 1
def uptoBulkAll {H : Type} : List (DataW H) → Nat
  | [] => 0
  | d :: r => uptoBulk d + uptoBulkAll r
def uptoBulkEntries {H : Type} : List (Lit × DataW H) → Nat
  | [] => 0
  | x :: r => uptoBulkEntry x + uptoBulkEntries r
def uptoBulkEntry {H : Type} : Lit × DataW H → Nat
  | (.string bytes, d) => bytes.length + uptoBulk d + 1
  | (_, d) => uptoBulk d + 1
 end
def uptoSmall : (H : Type) → List (DataW H) → Bool := fun _ ds => decide (uptoBulkAll ds ≤ 1048576)
def OpenSpec.upto (s : _root_.Go.ChangeSpec) : _root_.Go.OpenSpec := { _root_.Go.OpenSpec.ofChange s with cond := some uptoSmall }

/-- 'laws.FnExactMonthPlus', WHERE WHAT IT READS IS OF BULK AT MOST 1048576: true; the input reads as it did. -/
def fnExactMonthPlusUptoRow : OpenClaim := { program := "ytfgljffmokehfaadoor", sum := "11e5af213153803822e2f0ac42813b8482e4c29444c790a24acc87fe2a69ef9e", func := "loop.example/datenotation/laws.FnExactMonthPlus", spec := "fnExactMonthPlus", named := ["loop.example/datenotation/impl.monthDays"], apart := false, laid := [("loop.example/datenotation/impl.monthDays", laid_loop_example_datenotation_impl_monthDays)], narrowed := true }
def FnExactMonthPlusUptoSaid : Prop := fnExactMonthPlusUptoRow.holds Tryd.pinned (OpenSpec.upto fnExactMonthPlusSpec)

/-- 'laws.FnMonthPlus', WHERE WHAT IT READS IS OF BULK AT MOST 1048576: true; the input reads as it did. -/
def fnMonthPlusUptoRow : OpenClaim := { program := "ytfgljffmokehfaadoor", sum := "11e5af213153803822e2f0ac42813b8482e4c29444c790a24acc87fe2a69ef9e", func := "loop.example/datenotation/laws.FnMonthPlus", spec := "fnMonthPlus", named := ["loop.example/datenotation/impl.monthDays"], apart := false, laid := [("loop.example/datenotation/impl.monthDays", laid_loop_example_datenotation_impl_monthDays)], narrowed := true }
def FnMonthPlusUptoSaid : Prop := fnMonthPlusUptoRow.holds Tryd.pinned (OpenSpec.upto fnMonthPlusSpec)

/-- 'laws.FnMonthPlusBack', WHERE WHAT IT READS IS OF BULK AT MOST 1048576: true; the input reads as it did. -/
def fnMonthPlusBackUptoRow : OpenClaim := { program := "ytfgljffmokehfaadoor", sum := "11e5af213153803822e2f0ac42813b8482e4c29444c790a24acc87fe2a69ef9e", func := "loop.example/datenotation/laws.FnMonthPlusBack", spec := "fnMonthPlusBack", named := ["loop.example/datenotation/impl.monthDays"], apart := false, laid := [("loop.example/datenotation/impl.monthDays", laid_loop_example_datenotation_impl_monthDays)], narrowed := true }
def FnMonthPlusBackUptoSaid : Prop := fnMonthPlusBackUptoRow.holds Tryd.pinned (OpenSpec.upto fnMonthPlusBackSpec)

/-- 'laws.FnMonthPlusYear', WHERE WHAT IT READS IS OF BULK AT MOST 1048576: true; the input reads as it did. -/
def fnMonthPlusYearUptoRow : OpenClaim := { program := "ytfgljffmokehfaadoor", sum := "11e5af213153803822e2f0ac42813b8482e4c29444c790a24acc87fe2a69ef9e", func := "loop.example/datenotation/laws.FnMonthPlusYear", spec := "fnMonthPlusYear", named := ["loop.example/datenotation/impl.monthDays"], apart := false, laid := [("loop.example/datenotation/impl.monthDays", laid_loop_example_datenotation_impl_monthDays)], narrowed := true }
def FnMonthPlusYearUptoSaid : Prop := fnMonthPlusYearUptoRow.holds Tryd.pinned (OpenSpec.upto fnMonthPlusYearSpec)

/-- 'laws.FnExactDayPlus', WHERE WHAT IT READS IS OF BULK AT MOST 1048576: true; the input reads as it did. -/
def fnExactDayPlusUptoRow : OpenClaim := { program := "ytfgljffmokehfaadoor", sum := "11e5af213153803822e2f0ac42813b8482e4c29444c790a24acc87fe2a69ef9e", func := "loop.example/datenotation/laws.FnExactDayPlus", spec := "fnExactDayPlus", named := ["loop.example/datenotation/impl.monthDays"], apart := false, laid := [("loop.example/datenotation/impl.monthDays", laid_loop_example_datenotation_impl_monthDays)], narrowed := true }
def FnExactDayPlusUptoSaid : Prop := fnExactDayPlusUptoRow.holds Tryd.pinned (OpenSpec.upto fnExactDayPlusSpec)

/-- 'laws.FnDayPlusBack', WHERE WHAT IT READS IS OF BULK AT MOST 1048576: true; the input reads as it did. -/
def fnDayPlusBackUptoRow : OpenClaim := { program := "ytfgljffmokehfaadoor", sum := "11e5af213153803822e2f0ac42813b8482e4c29444c790a24acc87fe2a69ef9e", func := "loop.example/datenotation/laws.FnDayPlusBack", spec := "fnDayPlusBack", named := ["loop.example/datenotation/impl.monthDays"], apart := false, laid := [("loop.example/datenotation/impl.monthDays", laid_loop_example_datenotation_impl_monthDays)], narrowed := true }
def FnDayPlusBackUptoSaid : Prop := fnDayPlusBackUptoRow.holds Tryd.pinned (OpenSpec.upto fnDayPlusBackSpec)

/-- 'laws.FnDayPlus', WHERE WHAT IT READS IS OF BULK AT MOST 1048576: true; the input reads as it did. -/
def fnDayPlusUptoRow : OpenClaim := { program := "ytfgljffmokehfaadoor", sum := "11e5af213153803822e2f0ac42813b8482e4c29444c790a24acc87fe2a69ef9e", func := "loop.example/datenotation/laws.FnDayPlus", spec := "fnDayPlus", named := ["loop.example/datenotation/impl.monthDays"], apart := false, laid := [("loop.example/datenotation/impl.monthDays", laid_loop_example_datenotation_impl_monthDays)], narrowed := true }
def FnDayPlusUptoSaid : Prop := fnDayPlusUptoRow.holds Tryd.pinned (OpenSpec.upto fnDayPlusSpec)

/-- 'laws.FnExactDateText', WHERE WHAT IT READS IS OF BULK AT MOST 1048576: true; the input reads as it did. -/
def fnExactDateTextUptoRow : OpenClaim := { program := "ytfgljffmokehfaadoor", sum := "11e5af213153803822e2f0ac42813b8482e4c29444c790a24acc87fe2a69ef9e", func := "loop.example/datenotation/laws.FnExactDateText", spec := "fnExactDateText", unfollowed := true, recurses := true, named := ["loop.example/datenotation/impl.monthDays"], apart := false, laid := [("loop.example/datenotation/impl.monthDays", laid_loop_example_datenotation_impl_monthDays)], narrowed := true }
def FnExactDateTextUptoSaid : Prop := fnExactDateTextUptoRow.holds Tryd.pinned (OpenSpec.upto fnExactDateTextSpec)

/-- 'laws.FnDateTextLength', WHERE WHAT IT READS IS OF BULK AT MOST 1048576: true; the input reads as it did. -/
def fnDateTextLengthUptoRow : OpenClaim := { program := "ytfgljffmokehfaadoor", sum := "11e5af213153803822e2f0ac42813b8482e4c29444c790a24acc87fe2a69ef9e", func := "loop.example/datenotation/laws.FnDateTextLength", spec := "fnDateTextLength", unfollowed := true, recurses := true, named := ["loop.example/datenotation/impl.monthDays"], apart := false, laid := [("loop.example/datenotation/impl.monthDays", laid_loop_example_datenotation_impl_monthDays)], narrowed := true }
def FnDateTextLengthUptoSaid : Prop := fnDateTextLengthUptoRow.holds Tryd.pinned (OpenSpec.upto fnDateTextLengthSpec)

/-- 'laws.FnDateTextOrder', WHERE WHAT IT READS IS OF BULK AT MOST 1048576: true; the input reads as it did. -/
def fnDateTextOrderUptoRow : OpenClaim := { program := "ytfgljffmokehfaadoor", sum := "11e5af213153803822e2f0ac42813b8482e4c29444c790a24acc87fe2a69ef9e", func := "loop.example/datenotation/laws.FnDateTextOrder", spec := "fnDateTextOrder", unfollowed := true, recurses := true, named := ["loop.example/datenotation/impl.monthDays"], apart := false, laid := [("loop.example/datenotation/impl.monthDays", laid_loop_example_datenotation_impl_monthDays)], narrowed := true }
def FnDateTextOrderUptoSaid : Prop := fnDateTextOrderUptoRow.holds Tryd.pinned (OpenSpec.upto fnDateTextOrderSpec)

/-- 'laws.FnExactDatePlus', WHERE WHAT IT READS IS OF BULK AT MOST 1048576: true; the input reads as it did. -/
def fnExactDatePlusUptoRow : OpenClaim := { program := "ytfgljffmokehfaadoor", sum := "11e5af213153803822e2f0ac42813b8482e4c29444c790a24acc87fe2a69ef9e", func := "loop.example/datenotation/laws.FnExactDatePlus", spec := "fnExactDatePlus", unfollowed := true, recurses := true, named := ["loop.example/datenotation/impl.monthDays"], apart := false, laid := [("loop.example/datenotation/impl.monthDays", laid_loop_example_datenotation_impl_monthDays)], narrowed := true }
def FnExactDatePlusUptoSaid : Prop := fnExactDatePlusUptoRow.holds Tryd.pinned (OpenSpec.upto fnExactDatePlusSpec)

/-- 'laws.FnDatePlus', WHERE WHAT IT READS IS OF BULK AT MOST 1048576: true; the input reads as it did. -/
def fnDatePlusUptoRow : OpenClaim := { program := "ytfgljffmokehfaadoor", sum := "11e5af213153803822e2f0ac42813b8482e4c29444c790a24acc87fe2a69ef9e", func := "loop.example/datenotation/laws.FnDatePlus", spec := "fnDatePlus", unfollowed := true, recurses := true, named := ["loop.example/datenotation/impl.monthDays"], apart := false, laid := [("loop.example/datenotation/impl.monthDays", laid_loop_example_datenotation_impl_monthDays)], narrowed := true }
def FnDatePlusUptoSaid : Prop := fnDatePlusUptoRow.holds Tryd.pinned (OpenSpec.upto fnDatePlusSpec)

/-- 'laws.FnDatePlusNone', WHERE WHAT IT READS IS OF BULK AT MOST 1048576: true; the input reads as it did. -/
def fnDatePlusNoneUptoRow : OpenClaim := { program := "ytfgljffmokehfaadoor", sum := "11e5af213153803822e2f0ac42813b8482e4c29444c790a24acc87fe2a69ef9e", func := "loop.example/datenotation/laws.FnDatePlusNone", spec := "fnDatePlusNone", unfollowed := true, recurses := true, named := ["loop.example/datenotation/impl.monthDays"], apart := false, laid := [("loop.example/datenotation/impl.monthDays", laid_loop_example_datenotation_impl_monthDays)], narrowed := true }
def FnDatePlusNoneUptoSaid : Prop := fnDatePlusNoneUptoRow.holds Tryd.pinned (OpenSpec.upto fnDatePlusNoneSpec)

end Rows
end Go.Proofs.YtfgljffmokehfaaDoor
