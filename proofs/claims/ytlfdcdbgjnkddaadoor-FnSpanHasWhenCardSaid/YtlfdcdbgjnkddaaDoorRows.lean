/-
  NARROWER THAN 'FOR EVERY INPUT', by the rows' own cells (each row's printed sentence says how): FnExactSpanHas: laid · FnExactSpanLength: laid · FnSpanLength: laid · FnSpanHas: laid · FnSpanHasWhen: laid.
  DERIVED. THE GIVEN ROWS OF THIS SEAT. 5 by the template 'for every input the law returns true; each argument reads behind the call as it read before'; 0 by the template 'total and deterministic' (their statements: YtlfdcdbgjnkddaaDoorTotals.lean).
  GIVEN WITH THE SEED: the statements are not yours to turn. If you find one false, say at which input.
  Laid BY PROGRAM, IN A SANDBOX (cutbox-rows.mjs): the forced cells as the released guide's own fill.sh prints them over the translation 503b892f12e4bc52… (all of the seat's roots in one cut). By AI agents, Wed Nov 11 2026. No macro, syntax, notation, axiom, sorry.
-/
import Derived.Test.YtlfdcdbgjnkddaaDoorChecked
import GoSem.Claim
import GoSem.ClaimJoined
import GoSem.ClaimMapViews
import Derived.JoinedTies
import Derived.KernelRfl
namespace Go.Proofs.YtlfdcdbgjnkddaaDoor
/- THE CELL 'sum', in the pinned program and in every row, IS THE sha256 OF THE DUMP (.gsa) THAT YtlfdcdbgjnkddaaDoorProg.lean LOADS. Nothing in Lean hashes anything: it is a label: what it is worth is what the hold of that sum in a sandbox is worth. -/
noncomputable def Tryd.pinned : Pinned := { name := "ytlfdcdbgjnkddaadoor", sum := "503b892f12e4bc52ae157136668e7fa160de26dab7b4f43a5a671a957b6a8c61", checked := Tryd.checked }
namespace Rows
def none {H : Type} : Left H := { results := [], args := [] }

/- WHAT THE LISTED PACKAGE-LEVEL VARIABLES READ AS WHEN THE CALL BEGINS. Each datum BY PROGRAM (the guide's laid-datum.mjs) off the statement by which the dump's own 'gosem.cut.vars' lays the variable. In a bare row this is a premise. The card (YtlfdcdbgjnkddaaDoorCards.lean) ties it to the program's text. -/
def laid_loop_example_datenotation_impl_monthDays {H : Type} : DataW H := .agg [.lit (.int .i64 31), .lit (.int .i64 28), .lit (.int .i64 31), .lit (.int .i64 30), .lit (.int .i64 31), .lit (.int .i64 30), .lit (.int .i64 31), .lit (.int .i64 31), .lit (.int .i64 30), .lit (.int .i64 31), .lit (.int .i64 30), .lit (.int .i64 31)]

/-- 'laws.FnExactSpanHas': WHATEVER THE INPUT: true; the input reads as it did. -/
def fnExactSpanHasSpec : ChangeSpec := { name := "fnExactSpanHas", vars := ["loop.example/datenotation/impl.monthDays"], fn := fun _ => fun
  | [d1, d2, d3, g1] => { results := [.lit (.bool true)], args := [d1, d2, d3], vars := [g1] }
  | _ => none }
def fnExactSpanHasRow : OpenClaim := { program := "ytlfdcdbgjnkddaadoor", sum := "503b892f12e4bc52ae157136668e7fa160de26dab7b4f43a5a671a957b6a8c61", func := "loop.example/datenotation/laws.FnExactSpanHas", spec := "fnExactSpanHas", named := ["loop.example/datenotation/impl.monthDays"], apart := false, laid := [("loop.example/datenotation/impl.monthDays", laid_loop_example_datenotation_impl_monthDays)] }
def FnExactSpanHasSaid : Prop := fnExactSpanHasRow.holds Tryd.pinned (OpenSpec.ofChange fnExactSpanHasSpec)

/-- ITS FALSE NEIGHBOUR: 'it returns false'. Refute it at one input. -/
def fnExactSpanHasWrong : ChangeSpec := { name := "fnExactSpanHas", vars := ["loop.example/datenotation/impl.monthDays"], fn := fun _ => fun
  | [d1, d2, d3, g1] => { results := [.lit (.bool false)], args := [d1, d2, d3], vars := [g1] }
  | _ => none }
def FnExactSpanHasWrongFalsely : Prop := fnExactSpanHasRow.holds Tryd.pinned (OpenSpec.ofChange fnExactSpanHasWrong)

/-- 'laws.FnExactSpanLength': WHATEVER THE INPUT: true; the input reads as it did. -/
def fnExactSpanLengthSpec : ChangeSpec := { name := "fnExactSpanLength", vars := ["loop.example/datenotation/impl.monthDays"], fn := fun _ => fun
  | [d1, d2, g1] => { results := [.lit (.bool true)], args := [d1, d2], vars := [g1] }
  | _ => none }
def fnExactSpanLengthRow : OpenClaim := { program := "ytlfdcdbgjnkddaadoor", sum := "503b892f12e4bc52ae157136668e7fa160de26dab7b4f43a5a671a957b6a8c61", func := "loop.example/datenotation/laws.FnExactSpanLength", spec := "fnExactSpanLength", unfollowed := true, recurses := true, named := ["loop.example/datenotation/impl.monthDays"], apart := false, laid := [("loop.example/datenotation/impl.monthDays", laid_loop_example_datenotation_impl_monthDays)] }
def FnExactSpanLengthSaid : Prop := fnExactSpanLengthRow.holds Tryd.pinned (OpenSpec.ofChange fnExactSpanLengthSpec)

/-- ITS FALSE NEIGHBOUR: 'it returns false'. Refute it at one input. -/
def fnExactSpanLengthWrong : ChangeSpec := { name := "fnExactSpanLength", vars := ["loop.example/datenotation/impl.monthDays"], fn := fun _ => fun
  | [d1, d2, g1] => { results := [.lit (.bool false)], args := [d1, d2], vars := [g1] }
  | _ => none }
def FnExactSpanLengthWrongFalsely : Prop := fnExactSpanLengthRow.holds Tryd.pinned (OpenSpec.ofChange fnExactSpanLengthWrong)

/-- 'laws.FnSpanLength': WHATEVER THE INPUT: true; the input reads as it did. -/
def fnSpanLengthSpec : ChangeSpec := { name := "fnSpanLength", vars := ["loop.example/datenotation/impl.monthDays"], fn := fun _ => fun
  | [d, g1] => { results := [.lit (.bool true)], args := [d], vars := [g1] }
  | _ => none }
def fnSpanLengthRow : OpenClaim := { program := "ytlfdcdbgjnkddaadoor", sum := "503b892f12e4bc52ae157136668e7fa160de26dab7b4f43a5a671a957b6a8c61", func := "loop.example/datenotation/laws.FnSpanLength", spec := "fnSpanLength", unfollowed := true, recurses := true, named := ["loop.example/datenotation/impl.monthDays"], apart := false, laid := [("loop.example/datenotation/impl.monthDays", laid_loop_example_datenotation_impl_monthDays)] }
def FnSpanLengthSaid : Prop := fnSpanLengthRow.holds Tryd.pinned (OpenSpec.ofChange fnSpanLengthSpec)

/-- ITS FALSE NEIGHBOUR: 'it returns false'. Refute it at one input. -/
def fnSpanLengthWrong : ChangeSpec := { name := "fnSpanLength", vars := ["loop.example/datenotation/impl.monthDays"], fn := fun _ => fun
  | [d, g1] => { results := [.lit (.bool false)], args := [d], vars := [g1] }
  | _ => none }
def FnSpanLengthWrongFalsely : Prop := fnSpanLengthRow.holds Tryd.pinned (OpenSpec.ofChange fnSpanLengthWrong)

/-- 'laws.FnSpanHas': WHATEVER THE INPUT: true; the input reads as it did. -/
def fnSpanHasSpec : ChangeSpec := { name := "fnSpanHas", vars := ["loop.example/datenotation/impl.monthDays"], fn := fun _ => fun
  | [d, g1] => { results := [.lit (.bool true)], args := [d], vars := [g1] }
  | _ => none }
def fnSpanHasRow : OpenClaim := { program := "ytlfdcdbgjnkddaadoor", sum := "503b892f12e4bc52ae157136668e7fa160de26dab7b4f43a5a671a957b6a8c61", func := "loop.example/datenotation/laws.FnSpanHas", spec := "fnSpanHas", named := ["loop.example/datenotation/impl.monthDays"], apart := false, laid := [("loop.example/datenotation/impl.monthDays", laid_loop_example_datenotation_impl_monthDays)] }
def FnSpanHasSaid : Prop := fnSpanHasRow.holds Tryd.pinned (OpenSpec.ofChange fnSpanHasSpec)

/-- ITS FALSE NEIGHBOUR: 'it returns false'. Refute it at one input. -/
def fnSpanHasWrong : ChangeSpec := { name := "fnSpanHas", vars := ["loop.example/datenotation/impl.monthDays"], fn := fun _ => fun
  | [d, g1] => { results := [.lit (.bool false)], args := [d], vars := [g1] }
  | _ => none }
def FnSpanHasWrongFalsely : Prop := fnSpanHasRow.holds Tryd.pinned (OpenSpec.ofChange fnSpanHasWrong)

/-- 'laws.FnSpanHasWhen': WHATEVER THE INPUT: true; the input reads as it did. -/
def fnSpanHasWhenSpec : ChangeSpec := { name := "fnSpanHasWhen", vars := ["loop.example/datenotation/impl.monthDays"], fn := fun _ => fun
  | [d, g1] => { results := [.lit (.bool true)], args := [d], vars := [g1] }
  | _ => none }
def fnSpanHasWhenRow : OpenClaim := { program := "ytlfdcdbgjnkddaadoor", sum := "503b892f12e4bc52ae157136668e7fa160de26dab7b4f43a5a671a957b6a8c61", func := "loop.example/datenotation/laws.FnSpanHasWhen", spec := "fnSpanHasWhen", named := ["loop.example/datenotation/impl.monthDays"], apart := false, laid := [("loop.example/datenotation/impl.monthDays", laid_loop_example_datenotation_impl_monthDays)] }
def FnSpanHasWhenSaid : Prop := fnSpanHasWhenRow.holds Tryd.pinned (OpenSpec.ofChange fnSpanHasWhenSpec)

/-- ITS FALSE NEIGHBOUR: 'it returns false'. Refute it at one input. -/
def fnSpanHasWhenWrong : ChangeSpec := { name := "fnSpanHasWhen", vars := ["loop.example/datenotation/impl.monthDays"], fn := fun _ => fun
  | [d, g1] => { results := [.lit (.bool false)], args := [d], vars := [g1] }
  | _ => none }
def FnSpanHasWhenWrongFalsely : Prop := fnSpanHasWhenRow.holds Tryd.pinned (OpenSpec.ofChange fnSpanHasWhenWrong)

/- THE SECOND FORM. 'bulk': how many values and letters a reading holds, each counted each time it is reached (what is shared counts as often as it is met; a slice's spare places count too). A statement '..UptoSaid' is the law's where the arguments, and the package variables that the reading takes, are together of bulk at most 1048576: NARROWER than '..Said'. Prove '..Said' where nothing that the law and all that it calls make is longer than what came in: it says more and counts as full. Else prove '..UptoSaid'. A law counts once. -/
mutual
def uptoBulk {H : Type} : DataW H → Nat
  | .lit (.string bytes) => bytes.length + 1
  | .lit _ => 1
  | .nil => 1
  | .ptr d => uptoBulk d + 1
  | .slice elems spare => uptoBulkAll elems + uptoBulkAll spare + 1
  | .agg parts => uptoBulkAll parts + 1
  | .iface _ d => uptoBulk d + 1
  | .map entries => uptoBulkEntries entries + 1
  | .held _ => 1
def uptoBulkAll {H : Type} : List (DataW H) → Nat
  | [] => 0
  | d :: r => uptoBulk d + uptoBulkAll r
def uptoBulkEntries {H : Type} : List (Lit × DataW H) → Nat
  | [] => 0
  | x :: r => uptoBulkEntry x + uptoBulkEntries r
def uptoBulkEntry {H : Type} : Lit × DataW H → Nat
  | (.string bytes, d) => bytes.length + uptoBulk d + 1
  | (_, d) => uptoBulk d + 1
 end
def uptoSmall : (H : Type) → List (DataW H) → Bool := fun _ ds => decide (uptoBulkAll ds ≤ 1048576)
def OpenSpec.upto (s : _root_.Go.ChangeSpec) : _root_.Go.OpenSpec := { _root_.Go.OpenSpec.ofChange s with cond := some uptoSmall }

/-- 'laws.FnExactSpanHas', WHERE WHAT IT READS IS OF BULK AT MOST 1048576: true; the input reads as it did. -/
def fnExactSpanHasUptoRow : OpenClaim := { program := "ytlfdcdbgjnkddaadoor", sum := "503b892f12e4bc52ae157136668e7fa160de26dab7b4f43a5a671a957b6a8c61", func := "loop.example/datenotation/laws.FnExactSpanHas", spec := "fnExactSpanHas", named := ["loop.example/datenotation/impl.monthDays"], apart := false, laid := [("loop.example/datenotation/impl.monthDays", laid_loop_example_datenotation_impl_monthDays)], narrowed := true }
def FnExactSpanHasUptoSaid : Prop := fnExactSpanHasUptoRow.holds Tryd.pinned (OpenSpec.upto fnExactSpanHasSpec)

/-- 'laws.FnExactSpanLength', WHERE WHAT IT READS IS OF BULK AT MOST 1048576: true; the input reads as it did. -/
def fnExactSpanLengthUptoRow : OpenClaim := { program := "ytlfdcdbgjnkddaadoor", sum := "503b892f12e4bc52ae157136668e7fa160de26dab7b4f43a5a671a957b6a8c61", func := "loop.example/datenotation/laws.FnExactSpanLength", spec := "fnExactSpanLength", unfollowed := true, recurses := true, named := ["loop.example/datenotation/impl.monthDays"], apart := false, laid := [("loop.example/datenotation/impl.monthDays", laid_loop_example_datenotation_impl_monthDays)], narrowed := true }
def FnExactSpanLengthUptoSaid : Prop := fnExactSpanLengthUptoRow.holds Tryd.pinned (OpenSpec.upto fnExactSpanLengthSpec)

/-- 'laws.FnSpanLength', WHERE WHAT IT READS IS OF BULK AT MOST 1048576: true; the input reads as it did. -/
def fnSpanLengthUptoRow : OpenClaim := { program := "ytlfdcdbgjnkddaadoor", sum := "503b892f12e4bc52ae157136668e7fa160de26dab7b4f43a5a671a957b6a8c61", func := "loop.example/datenotation/laws.FnSpanLength", spec := "fnSpanLength", unfollowed := true, recurses := true, named := ["loop.example/datenotation/impl.monthDays"], apart := false, laid := [("loop.example/datenotation/impl.monthDays", laid_loop_example_datenotation_impl_monthDays)], narrowed := true }
def FnSpanLengthUptoSaid : Prop := fnSpanLengthUptoRow.holds Tryd.pinned (OpenSpec.upto fnSpanLengthSpec)

/-- 'laws.FnSpanHas', WHERE WHAT IT READS IS OF BULK AT MOST 1048576: true; the input reads as it did. -/
def fnSpanHasUptoRow : OpenClaim := { program := "ytlfdcdbgjnkddaadoor", sum := "503b892f12e4bc52ae157136668e7fa160de26dab7b4f43a5a671a957b6a8c61", func := "loop.example/datenotation/laws.FnSpanHas", spec := "fnSpanHas", named := ["loop.example/datenotation/impl.monthDays"], apart := false, laid := [("loop.example/datenotation/impl.monthDays", laid_loop_example_datenotation_impl_monthDays)], narrowed := true }
def FnSpanHasUptoSaid : Prop := fnSpanHasUptoRow.holds Tryd.pinned (OpenSpec.upto fnSpanHasSpec)

/-- 'laws.FnSpanHasWhen', WHERE WHAT IT READS IS OF BULK AT MOST 1048576: true; the input reads as it did. -/
def fnSpanHasWhenUptoRow : OpenClaim := { program := "ytlfdcdbgjnkddaadoor", sum := "503b892f12e4bc52ae157136668e7fa160de26dab7b4f43a5a671a957b6a8c61", func := "loop.example/datenotation/laws.FnSpanHasWhen", spec := "fnSpanHasWhen", named := ["loop.example/datenotation/impl.monthDays"], apart := false, laid := [("loop.example/datenotation/impl.monthDays", laid_loop_example_datenotation_impl_monthDays)], narrowed := true }
def FnSpanHasWhenUptoSaid : Prop := fnSpanHasWhenUptoRow.holds Tryd.pinned (OpenSpec.upto fnSpanHasWhenSpec)

end Rows
end Go.Proofs.YtlfdcdbgjnkddaaDoor
