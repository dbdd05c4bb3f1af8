/-
  NARROWER THAN 'FOR EVERY INPUT', by the rows' own cells (each row's printed sentence says how): FnExactStampValid: laid · FnStampPart: laid · FnExactStampLess: laid · FnStampLess: laid · FnStampLessOne: laid · FnExactInstant: laid · FnInstant: laid · FnInstantEnd: laid · FnInstantOffset: laid · FnExactStampAt: laid · FnStampAt: laid · FnExactStampTurn: laid · FnTurn: laid · FnTurnBack: laid.
  DERIVED. THE GIVEN ROWS OF THIS SEAT. 14 by the template 'for every input the law returns true; each argument reads behind the call as it read before'; 0 by the template 'total and deterministic' (their statements: YtbfkdocbmpmohaaDoorTotals.lean).
  GIVEN WITH THE SEED: the statements are not yours to turn. If you find one false, say at which input.
  Laid BY PROGRAM, IN A SANDBOX (cutbox-rows.mjs): the forced cells as the released guide's own fill.sh prints them over the translation d295b006f246dd59… (all of the seat's roots in one cut). By AI agents, Wed Nov 11 2026. No macro, syntax, notation, axiom, sorry.
-/
import Derived.Test.YtbfkdocbmpmohaaDoorChecked
import GoSem.Claim
import GoSem.ClaimJoined
import GoSem.ClaimMapViews
import Derived.JoinedTies
import Derived.KernelRfl
namespace Go.Proofs.YtbfkdocbmpmohaaDoor
/- THE CELL 'sum', in the pinned program and in every row, IS THE sha256 OF THE DUMP (.gsa) THAT YtbfkdocbmpmohaaDoorProg.lean LOADS. Nothing in Lean hashes anything: it is a label: what it is worth is what the hold of that sum in a sandbox is worth. -/
noncomputable def Tryd.pinned : Pinned := { name := "ytbfkdocbmpmohaadoor", sum := "d295b006f246dd59ba0255488e5810bd6e832988bc6b47e43e01e477c696135f", checked := Tryd.checked }
namespace Rows
def none {H : Type} : Left H := { results := [], args := [] }

/- WHAT THE LISTED PACKAGE-LEVEL VARIABLES READ AS WHEN THE CALL BEGINS. Each datum BY PROGRAM (the guide's laid-datum.mjs) off the statement by which the dump's own 'gosem.cut.vars' lays the variable. In a bare row this is a premise. The card (YtbfkdocbmpmohaaDoorCards.lean) ties it to the program's text. -/
def laid_loop_example_datenotation_impl_monthDays {H : Type} : DataW H := .agg [.lit (.int .i64 31), .lit (.int .i64 28), .lit (.int .i64 31), .lit (.int .i64 30), .lit (.int .i64 31), .lit (.int .i64 30), .lit (.int .i64 31), .lit (.int .i64 31), .lit (.int .i64 30), .lit (.int .i64 31), .lit (.int .i64 30), .lit (.int .i64 31)]

/-- 'laws.FnExactStampValid': WHATEVER THE INPUT: true; the input reads as it did. -/
def fnExactStampValidSpec : ChangeSpec := { name := "fnExactStampValid", vars := ["loop.example/datenotation/impl.monthDays"], fn := fun _ => fun
  | [d, g1] => { results := [.lit (.bool true)], args := [d], vars := [g1] }
  | _ => none }
def fnExactStampValidRow : OpenClaim := { program := "ytbfkdocbmpmohaadoor", sum := "d295b006f246dd59ba0255488e5810bd6e832988bc6b47e43e01e477c696135f", func := "loop.example/datenotation/laws.FnExactStampValid", spec := "fnExactStampValid", named := ["loop.example/datenotation/impl.monthDays"], apart := false, laid := [("loop.example/datenotation/impl.monthDays", laid_loop_example_datenotation_impl_monthDays)] }
def FnExactStampValidSaid : Prop := fnExactStampValidRow.holds Tryd.pinned (OpenSpec.ofChange fnExactStampValidSpec)

/-- ITS FALSE NEIGHBOUR: 'it returns false'. Refute it at one input. -/
def fnExactStampValidWrong : ChangeSpec := { name := "fnExactStampValid", vars := ["loop.example/datenotation/impl.monthDays"], fn := fun _ => fun
  | [d, g1] => { results := [.lit (.bool false)], args := [d], vars := [g1] }
  | _ => none }
def FnExactStampValidWrongFalsely : Prop := fnExactStampValidRow.holds Tryd.pinned (OpenSpec.ofChange fnExactStampValidWrong)

/-- 'laws.FnStampPart': WHATEVER THE INPUT: true; the input reads as it did. -/
def fnStampPartSpec : ChangeSpec := { name := "fnStampPart", vars := ["loop.example/datenotation/impl.monthDays"], fn := fun _ => fun
  | [d, g1] => { results := [.lit (.bool true)], args := [d], vars := [g1] }
  | _ => none }
def fnStampPartRow : OpenClaim := { program := "ytbfkdocbmpmohaadoor", sum := "d295b006f246dd59ba0255488e5810bd6e832988bc6b47e43e01e477c696135f", func := "loop.example/datenotation/laws.FnStampPart", spec := "fnStampPart", named := ["loop.example/datenotation/impl.monthDays"], apart := false, laid := [("loop.example/datenotation/impl.monthDays", laid_loop_example_datenotation_impl_monthDays)] }
def FnStampPartSaid : Prop := fnStampPartRow.holds Tryd.pinned (OpenSpec.ofChange fnStampPartSpec)

/-- ITS FALSE NEIGHBOUR: 'it returns false'. Refute it at one input. -/
def fnStampPartWrong : ChangeSpec := { name := "fnStampPart", vars := ["loop.example/datenotation/impl.monthDays"], fn := fun _ => fun
  | [d, g1] => { results := [.lit (.bool false)], args := [d], vars := [g1] }
  | _ => none }
def FnStampPartWrongFalsely : Prop := fnStampPartRow.holds Tryd.pinned (OpenSpec.ofChange fnStampPartWrong)

/-- 'laws.FnExactStampLess': WHATEVER THE INPUT: true; the input reads as it did. -/
def fnExactStampLessSpec : ChangeSpec := { name := "fnExactStampLess", vars := ["loop.example/datenotation/impl.monthDays"], fn := fun _ => fun
  | [d1, d2, g1] => { results := [.lit (.bool true)], args := [d1, d2], vars := [g1] }
  | _ => none }
def fnExactStampLessRow : OpenClaim := { program := "ytbfkdocbmpmohaadoor", sum := "d295b006f246dd59ba0255488e5810bd6e832988bc6b47e43e01e477c696135f", func := "loop.example/datenotation/laws.FnExactStampLess", spec := "fnExactStampLess", named := ["loop.example/datenotation/impl.monthDays"], apart := false, laid := [("loop.example/datenotation/impl.monthDays", laid_loop_example_datenotation_impl_monthDays)] }
def FnExactStampLessSaid : Prop := fnExactStampLessRow.holds Tryd.pinned (OpenSpec.ofChange fnExactStampLessSpec)

/-- ITS FALSE NEIGHBOUR: 'it returns false'. Refute it at one input. -/
def fnExactStampLessWrong : ChangeSpec := { name := "fnExactStampLess", vars := ["loop.example/datenotation/impl.monthDays"], fn := fun _ => fun
  | [d1, d2, g1] => { results := [.lit (.bool false)], args := [d1, d2], vars := [g1] }
  | _ => none }
def FnExactStampLessWrongFalsely : Prop := fnExactStampLessRow.holds Tryd.pinned (OpenSpec.ofChange fnExactStampLessWrong)

/-- 'laws.FnStampLess': WHATEVER THE INPUT: true; the input reads as it did. -/
def fnStampLessSpec : ChangeSpec := { name := "fnStampLess", vars := ["loop.example/datenotation/impl.monthDays"], fn := fun _ => fun
  | [d, g1] => { results := [.lit (.bool true)], args := [d], vars := [g1] }
  | _ => none }
def fnStampLessRow : OpenClaim := { program := "ytbfkdocbmpmohaadoor", sum := "d295b006f246dd59ba0255488e5810bd6e832988bc6b47e43e01e477c696135f", func := "loop.example/datenotation/laws.FnStampLess", spec := "fnStampLess", named := ["loop.example/datenotation/impl.monthDays"], apart := false, laid := [("loop.example/datenotation/impl.monthDays", laid_loop_example_datenotation_impl_monthDays)] }
def FnStampLessSaid : Prop := fnStampLessRow.holds Tryd.pinned (OpenSpec.ofChange fnStampLessSpec)

/-- ITS FALSE NEIGHBOUR: 'it returns false'. Refute it at one input. -/
def fnStampLessWrong : ChangeSpec := { name := "fnStampLess", vars := ["loop.example/datenotation/impl.monthDays"], fn := fun _ => fun
  | [d, g1] => { results := [.lit (.bool false)], args := [d], vars := [g1] }
  | _ => none }
def FnStampLessWrongFalsely : Prop := fnStampLessRow.holds Tryd.pinned (OpenSpec.ofChange fnStampLessWrong)

/-- 'laws.FnStampLessOne': WHATEVER THE INPUT: true; the input reads as it did. -/
def fnStampLessOneSpec : ChangeSpec := { name := "fnStampLessOne", vars := ["loop.example/datenotation/impl.monthDays"], fn := fun _ => fun
  | [d, g1] => { results := [.lit (.bool true)], args := [d], vars := [g1] }
  | _ => none }
def fnStampLessOneRow : OpenClaim := { program := "ytbfkdocbmpmohaadoor", sum := "d295b006f246dd59ba0255488e5810bd6e832988bc6b47e43e01e477c696135f", func := "loop.example/datenotation/laws.FnStampLessOne", spec := "fnStampLessOne", named := ["loop.example/datenotation/impl.monthDays"], apart := false, laid := [("loop.example/datenotation/impl.monthDays", laid_loop_example_datenotation_impl_monthDays)] }
def FnStampLessOneSaid : Prop := fnStampLessOneRow.holds Tryd.pinned (OpenSpec.ofChange fnStampLessOneSpec)

/-- ITS FALSE NEIGHBOUR: 'it returns false'. Refute it at one input. -/
def fnStampLessOneWrong : ChangeSpec := { name := "fnStampLessOne", vars := ["loop.example/datenotation/impl.monthDays"], fn := fun _ => fun
  | [d, g1] => { results := [.lit (.bool false)], args := [d], vars := [g1] }
  | _ => none }
def FnStampLessOneWrongFalsely : Prop := fnStampLessOneRow.holds Tryd.pinned (OpenSpec.ofChange fnStampLessOneWrong)

/-- 'laws.FnExactInstant': WHATEVER THE INPUT: true; the input reads as it did. -/
def fnExactInstantSpec : ChangeSpec := { name := "fnExactInstant", vars := ["loop.example/datenotation/impl.monthDays"], fn := fun _ => fun
  | [d, g1] => { results := [.lit (.bool true)], args := [d], vars := [g1] }
  | _ => none }
def fnExactInstantRow : OpenClaim := { program := "ytbfkdocbmpmohaadoor", sum := "d295b006f246dd59ba0255488e5810bd6e832988bc6b47e43e01e477c696135f", func := "loop.example/datenotation/laws.FnExactInstant", spec := "fnExactInstant", named := ["loop.example/datenotation/impl.monthDays"], apart := false, laid := [("loop.example/datenotation/impl.monthDays", laid_loop_example_datenotation_impl_monthDays)] }
def FnExactInstantSaid : Prop := fnExactInstantRow.holds Tryd.pinned (OpenSpec.ofChange fnExactInstantSpec)

/-- ITS FALSE NEIGHBOUR: 'it returns false'. Refute it at one input. -/
def fnExactInstantWrong : ChangeSpec := { name := "fnExactInstant", vars := ["loop.example/datenotation/impl.monthDays"], fn := fun _ => fun
  | [d, g1] => { results := [.lit (.bool false)], args := [d], vars := [g1] }
  | _ => none }
def FnExactInstantWrongFalsely : Prop := fnExactInstantRow.holds Tryd.pinned (OpenSpec.ofChange fnExactInstantWrong)

/-- 'laws.FnInstant': WHATEVER THE INPUT: true; the input reads as it did. -/
def fnInstantSpec : ChangeSpec := { name := "fnInstant", vars := ["loop.example/datenotation/impl.monthDays"], fn := fun _ => fun
  | [d, g1] => { results := [.lit (.bool true)], args := [d], vars := [g1] }
  | _ => none }
def fnInstantRow : OpenClaim := { program := "ytbfkdocbmpmohaadoor", sum := "d295b006f246dd59ba0255488e5810bd6e832988bc6b47e43e01e477c696135f", func := "loop.example/datenotation/laws.FnInstant", spec := "fnInstant", named := ["loop.example/datenotation/impl.monthDays"], apart := false, laid := [("loop.example/datenotation/impl.monthDays", laid_loop_example_datenotation_impl_monthDays)] }
def FnInstantSaid : Prop := fnInstantRow.holds Tryd.pinned (OpenSpec.ofChange fnInstantSpec)

/-- ITS FALSE NEIGHBOUR: 'it returns false'. Refute it at one input. -/
def fnInstantWrong : ChangeSpec := { name := "fnInstant", vars := ["loop.example/datenotation/impl.monthDays"], fn := fun _ => fun
  | [d, g1] => { results := [.lit (.bool false)], args := [d], vars := [g1] }
  | _ => none }
def FnInstantWrongFalsely : Prop := fnInstantRow.holds Tryd.pinned (OpenSpec.ofChange fnInstantWrong)

/-- 'laws.FnInstantEnd': WHATEVER THE INPUT: true; the input reads as it did. -/
def fnInstantEndSpec : ChangeSpec := { name := "fnInstantEnd", vars := ["loop.example/datenotation/impl.monthDays"], fn := fun _ => fun
  | [d, g1] => { results := [.lit (.bool true)], args := [d], vars := [g1] }
  | _ => none }
def fnInstantEndRow : OpenClaim := { program := "ytbfkdocbmpmohaadoor", sum := "d295b006f246dd59ba0255488e5810bd6e832988bc6b47e43e01e477c696135f", func := "loop.example/datenotation/laws.FnInstantEnd", spec := "fnInstantEnd", named := ["loop.example/datenotation/impl.monthDays"], apart := false, laid := [("loop.example/datenotation/impl.monthDays", laid_loop_example_datenotation_impl_monthDays)] }
def FnInstantEndSaid : Prop := fnInstantEndRow.holds Tryd.pinned (OpenSpec.ofChange fnInstantEndSpec)

/-- ITS FALSE NEIGHBOUR: 'it returns false'. Refute it at one input. -/
def fnInstantEndWrong : ChangeSpec := { name := "fnInstantEnd", vars := ["loop.example/datenotation/impl.monthDays"], fn := fun _ => fun
  | [d, g1] => { results := [.lit (.bool false)], args := [d], vars := [g1] }
  | _ => none }
def FnInstantEndWrongFalsely : Prop := fnInstantEndRow.holds Tryd.pinned (OpenSpec.ofChange fnInstantEndWrong)

/-- 'laws.FnInstantOffset': WHATEVER THE INPUT: true; the input reads as it did. -/
def fnInstantOffsetSpec : ChangeSpec := { name := "fnInstantOffset", vars := ["loop.example/datenotation/impl.monthDays"], fn := fun _ => fun
  | [d, g1] => { results := [.lit (.bool true)], args := [d], vars := [g1] }
  | _ => none }
def fnInstantOffsetRow : OpenClaim := { program := "ytbfkdocbmpmohaadoor", sum := "d295b006f246dd59ba0255488e5810bd6e832988bc6b47e43e01e477c696135f", func := "loop.example/datenotation/laws.FnInstantOffset", spec := "fnInstantOffset", named := ["loop.example/datenotation/impl.monthDays"], apart := false, laid := [("loop.example/datenotation/impl.monthDays", laid_loop_example_datenotation_impl_monthDays)] }
def FnInstantOffsetSaid : Prop := fnInstantOffsetRow.holds Tryd.pinned (OpenSpec.ofChange fnInstantOffsetSpec)

/-- ITS FALSE NEIGHBOUR: 'it returns false'. Refute it at one input. -/
def fnInstantOffsetWrong : ChangeSpec := { name := "fnInstantOffset", vars := ["loop.example/datenotation/impl.monthDays"], fn := fun _ => fun
  | [d, g1] => { results := [.lit (.bool false)], args := [d], vars := [g1] }
  | _ => none }
def FnInstantOffsetWrongFalsely : Prop := fnInstantOffsetRow.holds Tryd.pinned (OpenSpec.ofChange fnInstantOffsetWrong)

/-- 'laws.FnExactStampAt': WHATEVER THE INPUT: true; the input reads as it did. -/
def fnExactStampAtSpec : ChangeSpec := { name := "fnExactStampAt", vars := ["loop.example/datenotation/impl.monthDays"], fn := fun _ => fun
  | [d1, d2, g1] => { results := [.lit (.bool true)], args := [d1, d2], vars := [g1] }
  | _ => none }
def fnExactStampAtRow : OpenClaim := { program := "ytbfkdocbmpmohaadoor", sum := "d295b006f246dd59ba0255488e5810bd6e832988bc6b47e43e01e477c696135f", func := "loop.example/datenotation/laws.FnExactStampAt", spec := "fnExactStampAt", named := ["loop.example/datenotation/impl.monthDays"], apart := false, laid := [("loop.example/datenotation/impl.monthDays", laid_loop_example_datenotation_impl_monthDays)] }
def FnExactStampAtSaid : Prop := fnExactStampAtRow.holds Tryd.pinned (OpenSpec.ofChange fnExactStampAtSpec)

/-- ITS FALSE NEIGHBOUR: 'it returns false'. Refute it at one input. -/
def fnExactStampAtWrong : ChangeSpec := { name := "fnExactStampAt", vars := ["loop.example/datenotation/impl.monthDays"], fn := fun _ => fun
  | [d1, d2, g1] => { results := [.lit (.bool false)], args := [d1, d2], vars := [g1] }
  | _ => none }
def FnExactStampAtWrongFalsely : Prop := fnExactStampAtRow.holds Tryd.pinned (OpenSpec.ofChange fnExactStampAtWrong)

/-- 'laws.FnStampAt': WHATEVER THE INPUT: true; the input reads as it did. -/
def fnStampAtSpec : ChangeSpec := { name := "fnStampAt", vars := ["loop.example/datenotation/impl.monthDays"], fn := fun _ => fun
  | [d, g1] => { results := [.lit (.bool true)], args := [d], vars := [g1] }
  | _ => none }
def fnStampAtRow : OpenClaim := { program := "ytbfkdocbmpmohaadoor", sum := "d295b006f246dd59ba0255488e5810bd6e832988bc6b47e43e01e477c696135f", func := "loop.example/datenotation/laws.FnStampAt", spec := "fnStampAt", named := ["loop.example/datenotation/impl.monthDays"], apart := false, laid := [("loop.example/datenotation/impl.monthDays", laid_loop_example_datenotation_impl_monthDays)] }
def FnStampAtSaid : Prop := fnStampAtRow.holds Tryd.pinned (OpenSpec.ofChange fnStampAtSpec)

/-- ITS FALSE NEIGHBOUR: 'it returns false'. Refute it at one input. -/
def fnStampAtWrong : ChangeSpec := { name := "fnStampAt", vars := ["loop.example/datenotation/impl.monthDays"], fn := fun _ => fun
  | [d, g1] => { results := [.lit (.bool false)], args := [d], vars := [g1] }
  | _ => none }
def FnStampAtWrongFalsely : Prop := fnStampAtRow.holds Tryd.pinned (OpenSpec.ofChange fnStampAtWrong)

/-- 'laws.FnExactStampTurn': WHATEVER THE INPUT: true; the input reads as it did. -/
def fnExactStampTurnSpec : ChangeSpec := { name := "fnExactStampTurn", vars := ["loop.example/datenotation/impl.monthDays"], fn := fun _ => fun
  | [d1, d2, g1] => { results := [.lit (.bool true)], args := [d1, d2], vars := [g1] }
  | _ => none }
def fnExactStampTurnRow : OpenClaim := { program := "ytbfkdocbmpmohaadoor", sum := "d295b006f246dd59ba0255488e5810bd6e832988bc6b47e43e01e477c696135f", func := "loop.example/datenotation/laws.FnExactStampTurn", spec := "fnExactStampTurn", named := ["loop.example/datenotation/impl.monthDays"], apart := false, laid := [("loop.example/datenotation/impl.monthDays", laid_loop_example_datenotation_impl_monthDays)] }
def FnExactStampTurnSaid : Prop := fnExactStampTurnRow.holds Tryd.pinned (OpenSpec.ofChange fnExactStampTurnSpec)

/-- ITS FALSE NEIGHBOUR: 'it returns false'. Refute it at one input. -/
def fnExactStampTurnWrong : ChangeSpec := { name := "fnExactStampTurn", vars := ["loop.example/datenotation/impl.monthDays"], fn := fun _ => fun
  | [d1, d2, g1] => { results := [.lit (.bool false)], args := [d1, d2], vars := [g1] }
  | _ => none }
def FnExactStampTurnWrongFalsely : Prop := fnExactStampTurnRow.holds Tryd.pinned (OpenSpec.ofChange fnExactStampTurnWrong)

/-- 'laws.FnTurn': WHATEVER THE INPUT: true; the input reads as it did. -/
def fnTurnSpec : ChangeSpec := { name := "fnTurn", vars := ["loop.example/datenotation/impl.monthDays"], fn := fun _ => fun
  | [d, g1] => { results := [.lit (.bool true)], args := [d], vars := [g1] }
  | _ => none }
def fnTurnRow : OpenClaim := { program := "ytbfkdocbmpmohaadoor", sum := "d295b006f246dd59ba0255488e5810bd6e832988bc6b47e43e01e477c696135f", func := "loop.example/datenotation/laws.FnTurn", spec := "fnTurn", named := ["loop.example/datenotation/impl.monthDays"], apart := false, laid := [("loop.example/datenotation/impl.monthDays", laid_loop_example_datenotation_impl_monthDays)] }
def FnTurnSaid : Prop := fnTurnRow.holds Tryd.pinned (OpenSpec.ofChange fnTurnSpec)

/-- ITS FALSE NEIGHBOUR: 'it returns false'. Refute it at one input. -/
def fnTurnWrong : ChangeSpec := { name := "fnTurn", vars := ["loop.example/datenotation/impl.monthDays"], fn := fun _ => fun
  | [d, g1] => { results := [.lit (.bool false)], args := [d], vars := [g1] }
  | _ => none }
def FnTurnWrongFalsely : Prop := fnTurnRow.holds Tryd.pinned (OpenSpec.ofChange fnTurnWrong)

/-- 'laws.FnTurnBack': WHATEVER THE INPUT: true; the input reads as it did. -/
def fnTurnBackSpec : ChangeSpec := { name := "fnTurnBack", vars := ["loop.example/datenotation/impl.monthDays"], fn := fun _ => fun
  | [d, g1] => { results := [.lit (.bool true)], args := [d], vars := [g1] }
  | _ => none }
def fnTurnBackRow : OpenClaim := { program := "ytbfkdocbmpmohaadoor", sum := "d295b006f246dd59ba0255488e5810bd6e832988bc6b47e43e01e477c696135f", func := "loop.example/datenotation/laws.FnTurnBack", spec := "fnTurnBack", named := ["loop.example/datenotation/impl.monthDays"], apart := false, laid := [("loop.example/datenotation/impl.monthDays", laid_loop_example_datenotation_impl_monthDays)] }
def FnTurnBackSaid : Prop := fnTurnBackRow.holds Tryd.pinned (OpenSpec.ofChange fnTurnBackSpec)

/-- ITS FALSE NEIGHBOUR: 'it returns false'. Refute it at one input. -/
def fnTurnBackWrong : ChangeSpec := { name := "fnTurnBack", vars := ["loop.example/datenotation/impl.monthDays"], fn := fun _ => fun
  | [d, g1] => { results := [.lit (.bool false)], args := [d], vars := [g1] }
  | _ => none }
def FnTurnBackWrongFalsely : Prop := fnTurnBackRow.holds Tryd.pinned (OpenSpec.ofChange fnTurnBackWrong)

/- THE SECOND FORM. 'bulk': how many values and letters a reading holds, each counted each time it is reached (what is shared counts as often as it is met; a slice's spare places count too). A statement '..UptoSaid' is the law's where the arguments, and the package variables that the reading takes, are together of bulk at most 1048576: NARROWER than '..Said'. Prove '..Said' where nothing that the law and all that it calls make is longer than what came in: it says more and counts as full. Else prove '..UptoSaid'. A law counts once. -/
mutual
def uptoBulk {H : Type} : DataW H → Nat
  | .lit (.string bytes) => bytes.length + 1
  | .lit _ => 1
  | .nil => 1
  | .ptr d => uptoBulk d + 1
  | .slice elems spare => uptoBulkAll elems + uptoBulkAll spare + 1
  | .agg parts => uptoBulkAll parts + 1
  | .iface _ d => uptoBulk d + 1
  | .map entries => uptoBulkEntries entries + 1
  | .held _ => 1
def uptoBulkAll {H : Type} : List (DataW H) → Nat
  | [] => 0
  | d :: r => uptoBulk d + uptoBulkAll r
def uptoBulkEntries {H : Type} : List (Lit × DataW H) → Nat
  | [] => 0
  | x :: r => uptoBulkEntry x + uptoBulkEntries r
def uptoBulkEntry {H : Type} : Lit × DataW H → Nat
  | (.string bytes, d) => bytes.length + uptoBulk d + 1
  | (_, d) => uptoBulk d + 1
 end
def uptoSmall : (H : Type) → List (DataW H) → Bool := fun _ ds => decide (uptoBulkAll ds ≤ 1048576)
def OpenSpec.upto (s : _root_.Go.ChangeSpec) : _root_.Go.OpenSpec := { _root_.Go.OpenSpec.ofChange s with cond := some uptoSmall }

/-- 'laws.FnExactStampValid', WHERE WHAT IT READS IS OF BULK AT MOST 1048576: true; the input reads as it did. -/
def fnExactStampValidUptoRow : OpenClaim := { program := "ytbfkdocbmpmohaadoor", sum := "d295b006f246dd59ba0255488e5810bd6e832988bc6b47e43e01e477c696135f", func := "loop.example/datenotation/laws.FnExactStampValid", spec := "fnExactStampValid", named := ["loop.example/datenotation/impl.monthDays"], apart := false, laid := [("loop.example/datenotation/impl.monthDays", laid_loop_example_datenotation_impl_monthDays)], narrowed := true }
def FnExactStampValidUptoSaid : Prop := fnExactStampValidUptoRow.holds Tryd.pinned (OpenSpec.upto fnExactStampValidSpec)

/-- 'laws.FnStampPart', WHERE WHAT IT READS IS OF BULK AT MOST 1048576: true; the input reads as it did. -/
def fnStampPartUptoRow : OpenClaim := { program := "ytbfkdocbmpmohaadoor", sum := "d295b006f246dd59ba0255488e5810bd6e832988bc6b47e43e01e477c696135f", func := "loop.example/datenotation/laws.FnStampPart", spec := "fnStampPart", named := ["loop.example/datenotation/impl.monthDays"], apart := false, laid := [("loop.example/datenotation/impl.monthDays", laid_loop_example_datenotation_impl_monthDays)], narrowed := true }
def FnStampPartUptoSaid : Prop := fnStampPartUptoRow.holds Tryd.pinned (OpenSpec.upto fnStampPartSpec)

/-- 'laws.FnExactStampLess', WHERE WHAT IT READS IS OF BULK AT MOST 1048576: true; the input reads as it did. -/
def fnExactStampLessUptoRow : OpenClaim := { program := "ytbfkdocbmpmohaadoor", sum := "d295b006f246dd59ba0255488e5810bd6e832988bc6b47e43e01e477c696135f", func := "loop.example/datenotation/laws.FnExactStampLess", spec := "fnExactStampLess", named := ["loop.example/datenotation/impl.monthDays"], apart := false, laid := [("loop.example/datenotation/impl.monthDays", laid_loop_example_datenotation_impl_monthDays)], narrowed := true }
def FnExactStampLessUptoSaid : Prop := fnExactStampLessUptoRow.holds Tryd.pinned (OpenSpec.upto fnExactStampLessSpec)

/-- 'laws.FnStampLess', WHERE WHAT IT READS IS OF BULK AT MOST 1048576: true; the input reads as it did. -/
def fnStampLessUptoRow : OpenClaim := { program := "ytbfkdocbmpmohaadoor", sum := "d295b006f246dd59ba0255488e5810bd6e832988bc6b47e43e01e477c696135f", func := "loop.example/datenotation/laws.FnStampLess", spec := "fnStampLess", named := ["loop.example/datenotation/impl.monthDays"], apart := false, laid := [("loop.example/datenotation/impl.monthDays", laid_loop_example_datenotation_impl_monthDays)], narrowed := true }
def FnStampLessUptoSaid : Prop := fnStampLessUptoRow.holds Tryd.pinned (OpenSpec.upto fnStampLessSpec)

/-- 'laws.FnStampLessOne', WHERE WHAT IT READS IS OF BULK AT MOST 1048576: true; the input reads as it did. -/
def fnStampLessOneUptoRow : OpenClaim := { program := "ytbfkdocbmpmohaadoor", sum := "d295b006f246dd59ba0255488e5810bd6e832988bc6b47e43e01e477c696135f", func := "loop.example/datenotation/laws.FnStampLessOne", spec := "fnStampLessOne", named := ["loop.example/datenotation/impl.monthDays"], apart := false, laid := [("loop.example/datenotation/impl.monthDays", laid_loop_example_datenotation_impl_monthDays)], narrowed := true }
def FnStampLessOneUptoSaid : Prop := fnStampLessOneUptoRow.holds Tryd.pinned (OpenSpec.upto fnStampLessOneSpec)

/-- 'laws.FnExactInstant', WHERE WHAT IT READS IS OF BULK AT MOST 1048576: true; the input reads as it did. -/
def fnExactInstantUptoRow : OpenClaim := { program := "ytbfkdocbmpmohaadoor", sum := "d295b006f246dd59ba0255488e5810bd6e832988bc6b47e43e01e477c696135f", func := "loop.example/datenotation/laws.FnExactInstant", spec := "fnExactInstant", named := ["loop.example/datenotation/impl.monthDays"], apart := false, laid := [("loop.example/datenotation/impl.monthDays", laid_loop_example_datenotation_impl_monthDays)], narrowed := true }
def FnExactInstantUptoSaid : Prop := fnExactInstantUptoRow.holds Tryd.pinned (OpenSpec.upto fnExactInstantSpec)

/-- 'laws.FnInstant', WHERE WHAT IT READS IS OF BULK AT MOST 1048576: true; the input reads as it did. -/
def fnInstantUptoRow : OpenClaim := { program := "ytbfkdocbmpmohaadoor", sum := "d295b006f246dd59ba0255488e5810bd6e832988bc6b47e43e01e477c696135f", func := "loop.example/datenotation/laws.FnInstant", spec := "fnInstant", named := ["loop.example/datenotation/impl.monthDays"], apart := false, laid := [("loop.example/datenotation/impl.monthDays", laid_loop_example_datenotation_impl_monthDays)], narrowed := true }
def FnInstantUptoSaid : Prop := fnInstantUptoRow.holds Tryd.pinned (OpenSpec.upto fnInstantSpec)

/-- 'laws.FnInstantEnd', WHERE WHAT IT READS IS OF BULK AT MOST 1048576: true; the input reads as it did. -/
def fnInstantEndUptoRow : OpenClaim := { program := "ytbfkdocbmpmohaadoor", sum := "d295b006f246dd59ba0255488e5810bd6e832988bc6b47e43e01e477c696135f", func := "loop.example/datenotation/laws.FnInstantEnd", spec := "fnInstantEnd", named := ["loop.example/datenotation/impl.monthDays"], apart := false, laid := [("loop.example/datenotation/impl.monthDays", laid_loop_example_datenotation_impl_monthDays)], narrowed := true }
def FnInstantEndUptoSaid : Prop := fnInstantEndUptoRow.holds Tryd.pinned (OpenSpec.upto fnInstantEndSpec)

/-- 'laws.FnInstantOffset', WHERE WHAT IT READS IS OF BULK AT MOST 1048576: true; the input reads as it did. -/
def fnInstantOffsetUptoRow : OpenClaim := { program := "ytbfkdocbmpmohaadoor", sum := "d295b006f246dd59ba0255488e5810bd6e832988bc6b47e43e01e477c696135f", func := "loop.example/datenotation/laws.FnInstantOffset", spec := "fnInstantOffset", named := ["loop.example/datenotation/impl.monthDays"], apart := false, laid := [("loop.example/datenotation/impl.monthDays", laid_loop_example_datenotation_impl_monthDays)], narrowed := true }
def FnInstantOffsetUptoSaid : Prop := fnInstantOffsetUptoRow.holds Tryd.pinned (OpenSpec.upto fnInstantOffsetSpec)

/-- 'laws.FnExactStampAt', WHERE WHAT IT READS IS OF BULK AT MOST 1048576: true; the input reads as it did. -/
def fnExactStampAtUptoRow : OpenClaim := { program := "ytbfkdocbmpmohaadoor", sum := "d295b006f246dd59ba0255488e5810bd6e832988bc6b47e43e01e477c696135f", func := "loop.example/datenotation/laws.FnExactStampAt", spec := "fnExactStampAt", named := ["loop.example/datenotation/impl.monthDays"], apart := false, laid := [("loop.example/datenotation/impl.monthDays", laid_loop_example_datenotation_impl_monthDays)], narrowed := true }
def FnExactStampAtUptoSaid : Prop := fnExactStampAtUptoRow.holds Tryd.pinned (OpenSpec.upto fnExactStampAtSpec)

/-- 'laws.FnStampAt', WHERE WHAT IT READS IS OF BULK AT MOST 1048576: true; the input reads as it did. -/
def fnStampAtUptoRow : OpenClaim := { program := "ytbfkdocbmpmohaadoor", sum := "d295b006f246dd59ba0255488e5810bd6e832988bc6b47e43e01e477c696135f", func := "loop.example/datenotation/laws.FnStampAt", spec := "fnStampAt", named := ["loop.example/datenotation/impl.monthDays"], apart := false, laid := [("loop.example/datenotation/impl.monthDays", laid_loop_example_datenotation_impl_monthDays)], narrowed := true }
def FnStampAtUptoSaid : Prop := fnStampAtUptoRow.holds Tryd.pinned (OpenSpec.upto fnStampAtSpec)

/-- 'laws.FnExactStampTurn', WHERE WHAT IT READS IS OF BULK AT MOST 1048576: true; the input reads as it did. -/
def fnExactStampTurnUptoRow : OpenClaim := { program := "ytbfkdocbmpmohaadoor", sum := "d295b006f246dd59ba0255488e5810bd6e832988bc6b47e43e01e477c696135f", func := "loop.example/datenotation/laws.FnExactStampTurn", spec := "fnExactStampTurn", named := ["loop.example/datenotation/impl.monthDays"], apart := false, laid := [("loop.example/datenotation/impl.monthDays", laid_loop_example_datenotation_impl_monthDays)], narrowed := true }
def FnExactStampTurnUptoSaid : Prop := fnExactStampTurnUptoRow.holds Tryd.pinned (OpenSpec.upto fnExactStampTurnSpec)

/-- 'laws.FnTurn', WHERE WHAT IT READS IS OF BULK AT MOST 1048576: true; the input reads as it did. -/
def fnTurnUptoRow : OpenClaim := { program := "ytbfkdocbmpmohaadoor", sum := "d295b006f246dd59ba0255488e5810bd6e832988bc6b47e43e01e477c696135f", func := "loop.example/datenotation/laws.FnTurn", spec := "fnTurn", named := ["loop.example/datenotation/impl.monthDays"], apart := false, laid := [("loop.example/datenotation/impl.monthDays", laid_loop_example_datenotation_impl_monthDays)], narrowed := true }
def FnTurnUptoSaid : Prop := fnTurnUptoRow.holds Tryd.pinned (OpenSpec.upto fnTurnSpec)

/-- 'laws.FnTurnBack', WHERE WHAT IT READS IS OF BULK AT MOST 1048576: true; the input reads as it did. -/
def fnTurnBackUptoRow : OpenClaim := { program := "ytbfkdocbmpmohaadoor", sum := "d295b006f246dd59ba0255488e5810bd6e832988bc6b47e43e01e477c696135f", func := "loop.example/datenotation/laws.FnTurnBack", spec := "fnTurnBack", named := ["loop.example/datenotation/impl.monthDays"], apart := false, laid := [("loop.example/datenotation/impl.monthDays", laid_loop_example_datenotation_impl_monthDays)], narrowed := true }
def FnTurnBackUptoSaid : Prop := fnTurnBackUptoRow.holds Tryd.pinned (OpenSpec.upto fnTurnBackSpec)

end Rows
end Go.Proofs.YtbfkdocbmpmohaaDoor
