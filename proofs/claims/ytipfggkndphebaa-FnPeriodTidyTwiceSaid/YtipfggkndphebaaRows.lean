/-
  No cell of these rows narrows 'for every input' (looked for: loops, veiled, ifaces, maps, wideKeys, modest, calm, conditions, laid).
  DERIVED. THE GIVEN ROWS OF THIS SEAT. 8 by the template 'for every input the law returns true; each argument reads behind the call as it read before'; 0 by the template 'total and deterministic' (their statements: YtipfggkndphebaaTotals.lean).
  GIVEN WITH THE SEED: the statements are not yours to turn. If you find one false, say at which input.
  Laid BY PROGRAM, IN A SANDBOX (cutbox-rows.mjs): the forced cells as the released guide's own fill.sh prints them over the translation f0acb5fa848acfc9… (all of the seat's roots in one cut). By AI agents, Wed Nov 11 2026. No macro, syntax, notation, axiom, sorry.
-/
import Derived.Test.YtipfggkndphebaaChecked
import GoSem.Claim
import GoSem.ClaimJoined
import GoSem.ClaimMapViews
import Derived.JoinedTies
import Derived.KernelRfl
namespace Go.Proofs.Ytipfggkndphebaa
/- THE CELL 'sum', in the pinned program and in every row, IS THE sha256 OF THE DUMP (.gsa) THAT YtipfggkndphebaaProg.lean LOADS. Nothing in Lean hashes anything: it is a label: what it is worth is what the hold of that sum in a sandbox is worth. -/
noncomputable def Try.pinned : Pinned := { name := "ytipfggkndphebaa", sum := "f0acb5fa848acfc9bd70ab51500675c0afdc2b25b2c35e165786077ab2c28bf1", checked := Try.checked }
namespace Rows
def none {H : Type} : Left H := { results := [], args := [] }

/-- 'laws.FnExactPeriodValid': WHATEVER THE INPUT: true; the input reads as it did. -/
def fnExactPeriodValidSpec : ChangeSpec := { name := "fnExactPeriodValid", fn := fun _ => fun
  | [d] => { results := [.lit (.bool true)], args := [d] }
  | _ => none }
def fnExactPeriodValidRow : OpenClaim := { program := "ytipfggkndphebaa", sum := "f0acb5fa848acfc9bd70ab51500675c0afdc2b25b2c35e165786077ab2c28bf1", func := "loop.example/datenotation/laws.FnExactPeriodValid", spec := "fnExactPeriodValid", apart := false }
def FnExactPeriodValidSaid : Prop := fnExactPeriodValidRow.holds Try.pinned (OpenSpec.ofChange fnExactPeriodValidSpec)

/-- ITS FALSE NEIGHBOUR: 'it returns false'. Refute it at one input. -/
def fnExactPeriodValidWrong : ChangeSpec := { name := "fnExactPeriodValid", fn := fun _ => fun
  | [d] => { results := [.lit (.bool false)], args := [d] }
  | _ => none }
def FnExactPeriodValidWrongFalsely : Prop := fnExactPeriodValidRow.holds Try.pinned (OpenSpec.ofChange fnExactPeriodValidWrong)

/-- 'laws.FnPeriodPart': WHATEVER THE INPUT: true; the input reads as it did. -/
def fnPeriodPartSpec : ChangeSpec := { name := "fnPeriodPart", fn := fun _ => fun
  | [d] => { results := [.lit (.bool true)], args := [d] }
  | _ => none }
def fnPeriodPartRow : OpenClaim := { program := "ytipfggkndphebaa", sum := "f0acb5fa848acfc9bd70ab51500675c0afdc2b25b2c35e165786077ab2c28bf1", func := "loop.example/datenotation/laws.FnPeriodPart", spec := "fnPeriodPart", apart := false }
def FnPeriodPartSaid : Prop := fnPeriodPartRow.holds Try.pinned (OpenSpec.ofChange fnPeriodPartSpec)

/-- ITS FALSE NEIGHBOUR: 'it returns false'. Refute it at one input. -/
def fnPeriodPartWrong : ChangeSpec := { name := "fnPeriodPart", fn := fun _ => fun
  | [d] => { results := [.lit (.bool false)], args := [d] }
  | _ => none }
def FnPeriodPartWrongFalsely : Prop := fnPeriodPartRow.holds Try.pinned (OpenSpec.ofChange fnPeriodPartWrong)

/-- 'laws.FnExactPeriodTidy': WHATEVER THE INPUT: true; the input reads as it did. -/
def fnExactPeriodTidySpec : ChangeSpec := { name := "fnExactPeriodTidy", fn := fun _ => fun
  | [d] => { results := [.lit (.bool true)], args := [d] }
  | _ => none }
def fnExactPeriodTidyRow : OpenClaim := { program := "ytipfggkndphebaa", sum := "f0acb5fa848acfc9bd70ab51500675c0afdc2b25b2c35e165786077ab2c28bf1", func := "loop.example/datenotation/laws.FnExactPeriodTidy", spec := "fnExactPeriodTidy", apart := false }
def FnExactPeriodTidySaid : Prop := fnExactPeriodTidyRow.holds Try.pinned (OpenSpec.ofChange fnExactPeriodTidySpec)

/-- ITS FALSE NEIGHBOUR: 'it returns false'. Refute it at one input. -/
def fnExactPeriodTidyWrong : ChangeSpec := { name := "fnExactPeriodTidy", fn := fun _ => fun
  | [d] => { results := [.lit (.bool false)], args := [d] }
  | _ => none }
def FnExactPeriodTidyWrongFalsely : Prop := fnExactPeriodTidyRow.holds Try.pinned (OpenSpec.ofChange fnExactPeriodTidyWrong)

/-- 'laws.FnPeriodTidy': WHATEVER THE INPUT: true; the input reads as it did. -/
def fnPeriodTidySpec : ChangeSpec := { name := "fnPeriodTidy", fn := fun _ => fun
  | [d] => { results := [.lit (.bool true)], args := [d] }
  | _ => none }
def fnPeriodTidyRow : OpenClaim := { program := "ytipfggkndphebaa", sum := "f0acb5fa848acfc9bd70ab51500675c0afdc2b25b2c35e165786077ab2c28bf1", func := "loop.example/datenotation/laws.FnPeriodTidy", spec := "fnPeriodTidy", apart := false }
def FnPeriodTidySaid : Prop := fnPeriodTidyRow.holds Try.pinned (OpenSpec.ofChange fnPeriodTidySpec)

/-- ITS FALSE NEIGHBOUR: 'it returns false'. Refute it at one input. -/
def fnPeriodTidyWrong : ChangeSpec := { name := "fnPeriodTidy", fn := fun _ => fun
  | [d] => { results := [.lit (.bool false)], args := [d] }
  | _ => none }
def FnPeriodTidyWrongFalsely : Prop := fnPeriodTidyRow.holds Try.pinned (OpenSpec.ofChange fnPeriodTidyWrong)

/-- 'laws.FnPeriodTidyTwice': WHATEVER THE INPUT: true; the input reads as it did. -/
def fnPeriodTidyTwiceSpec : ChangeSpec := { name := "fnPeriodTidyTwice", fn := fun _ => fun
  | [d] => { results := [.lit (.bool true)], args := [d] }
  | _ => none }
def fnPeriodTidyTwiceRow : OpenClaim := { program := "ytipfggkndphebaa", sum := "f0acb5fa848acfc9bd70ab51500675c0afdc2b25b2c35e165786077ab2c28bf1", func := "loop.example/datenotation/laws.FnPeriodTidyTwice", spec := "fnPeriodTidyTwice", apart := false }
def FnPeriodTidyTwiceSaid : Prop := fnPeriodTidyTwiceRow.holds Try.pinned (OpenSpec.ofChange fnPeriodTidyTwiceSpec)

/-- ITS FALSE NEIGHBOUR: 'it returns false'. Refute it at one input. -/
def fnPeriodTidyTwiceWrong : ChangeSpec := { name := "fnPeriodTidyTwice", fn := fun _ => fun
  | [d] => { results := [.lit (.bool false)], args := [d] }
  | _ => none }
def FnPeriodTidyTwiceWrongFalsely : Prop := fnPeriodTidyTwiceRow.holds Try.pinned (OpenSpec.ofChange fnPeriodTidyTwiceWrong)

/-- 'laws.FnExactPeriodFrom': WHATEVER THE INPUT: true; the input reads as it did. -/
def fnExactPeriodFromSpec : ChangeSpec := { name := "fnExactPeriodFrom", fn := fun _ => fun
  | [d] => { results := [.lit (.bool true)], args := [d] }
  | _ => none }
def fnExactPeriodFromRow : OpenClaim := { program := "ytipfggkndphebaa", sum := "f0acb5fa848acfc9bd70ab51500675c0afdc2b25b2c35e165786077ab2c28bf1", func := "loop.example/datenotation/laws.FnExactPeriodFrom", spec := "fnExactPeriodFrom", apart := false }
def FnExactPeriodFromSaid : Prop := fnExactPeriodFromRow.holds Try.pinned (OpenSpec.ofChange fnExactPeriodFromSpec)

/-- ITS FALSE NEIGHBOUR: 'it returns false'. Refute it at one input. -/
def fnExactPeriodFromWrong : ChangeSpec := { name := "fnExactPeriodFrom", fn := fun _ => fun
  | [d] => { results := [.lit (.bool false)], args := [d] }
  | _ => none }
def FnExactPeriodFromWrongFalsely : Prop := fnExactPeriodFromRow.holds Try.pinned (OpenSpec.ofChange fnExactPeriodFromWrong)

/-- 'laws.FnPeriodTorn': WHATEVER THE INPUT: true; the input reads as it did. -/
def fnPeriodTornSpec : ChangeSpec := { name := "fnPeriodTorn", fn := fun _ => fun
  | [d] => { results := [.lit (.bool true)], args := [d] }
  | _ => none }
def fnPeriodTornRow : OpenClaim := { program := "ytipfggkndphebaa", sum := "f0acb5fa848acfc9bd70ab51500675c0afdc2b25b2c35e165786077ab2c28bf1", func := "loop.example/datenotation/laws.FnPeriodTorn", spec := "fnPeriodTorn", recurses := true, apart := false }
def FnPeriodTornSaid : Prop := fnPeriodTornRow.holds Try.pinned (OpenSpec.ofChange fnPeriodTornSpec)

/-- ITS FALSE NEIGHBOUR: 'it returns false'. Refute it at one input. -/
def fnPeriodTornWrong : ChangeSpec := { name := "fnPeriodTorn", fn := fun _ => fun
  | [d] => { results := [.lit (.bool false)], args := [d] }
  | _ => none }
def FnPeriodTornWrongFalsely : Prop := fnPeriodTornRow.holds Try.pinned (OpenSpec.ofChange fnPeriodTornWrong)

/-- 'laws.FnPeriodWeeks': WHATEVER THE INPUT: true; the input reads as it did. -/
def fnPeriodWeeksSpec : ChangeSpec := { name := "fnPeriodWeeks", fn := fun _ => fun
  | [d1, d2] => { results := [.lit (.bool true)], args := [d1, d2] }
  | _ => none }
def fnPeriodWeeksRow : OpenClaim := { program := "ytipfggkndphebaa", sum := "f0acb5fa848acfc9bd70ab51500675c0afdc2b25b2c35e165786077ab2c28bf1", func := "loop.example/datenotation/laws.FnPeriodWeeks", spec := "fnPeriodWeeks", recurses := true, apart := false }
def FnPeriodWeeksSaid : Prop := fnPeriodWeeksRow.holds Try.pinned (OpenSpec.ofChange fnPeriodWeeksSpec)

/-- ITS FALSE NEIGHBOUR: 'it returns false'. Refute it at one input. -/
def fnPeriodWeeksWrong : ChangeSpec := { name := "fnPeriodWeeks", fn := fun _ => fun
  | [d1, d2] => { results := [.lit (.bool false)], args := [d1, d2] }
  | _ => none }
def FnPeriodWeeksWrongFalsely : Prop := fnPeriodWeeksRow.holds Try.pinned (OpenSpec.ofChange fnPeriodWeeksWrong)

/- THE SECOND FORM. 'bulk': how many values and letters a reading holds, each counted each time it is reached (what is shared counts as often as it is met; a slice's spare places count too). A statement '..UptoSaid' is the law's where the arguments, and the package variables that the reading takes, are together of bulk at most 1048576: NARROWER than '..Said'. Prove '..Said' where nothing that the law and all that it calls make is longer than what came in: it says more and counts as full. Else prove '..UptoSaid'. A law counts once. -/
mutual
def uptoBulk {H : Type} : DataW H → Nat
  | .lit (.string bytes) => bytes.length + 1
  | .lit _ => 1
  | .nil => 1
  | .ptr d => uptoBulk d + 1
  | .slice elems spare => uptoBulkAll elems + uptoBulkAll spare + 1
  | .agg parts => uptoBulkAll parts + 1
  | .iface _ d => uptoBulk d + 1
  | .map entries => uptoBulkEntries entries + 1
  | .held _ => 1
def uptoBulkAll {H : Type} : List (DataW H) → Nat
  | [] => 0
  | d :: r => uptoBulk d + uptoBulkAll r
def uptoBulkEntries {H : Type} : List (Lit × DataW H) → Nat
  | [] => 0
  | x :: r => uptoBulkEntry x + uptoBulkEntries r
def uptoBulkEntry {H : Type} : Lit × DataW H → Nat
  | (.string bytes, d) => bytes.length + uptoBulk d + 1
  | (_, d) => uptoBulk d + 1
 end
def uptoSmall : (H : Type) → List (DataW H) → Bool := fun _ ds => decide (uptoBulkAll ds ≤ 1048576)
def OpenSpec.upto (s : _root_.Go.ChangeSpec) : _root_.Go.OpenSpec := { _root_.Go.OpenSpec.ofChange s with cond := some uptoSmall }

/-- 'laws.FnExactPeriodValid', WHERE WHAT IT READS IS OF BULK AT MOST 1048576: true; the input reads as it did. -/
def fnExactPeriodValidUptoRow : OpenClaim := { program := "ytipfggkndphebaa", sum := "f0acb5fa848acfc9bd70ab51500675c0afdc2b25b2c35e165786077ab2c28bf1", func := "loop.example/datenotation/laws.FnExactPeriodValid", spec := "fnExactPeriodValid", apart := false, narrowed := true }
def FnExactPeriodValidUptoSaid : Prop := fnExactPeriodValidUptoRow.holds Try.pinned (OpenSpec.upto fnExactPeriodValidSpec)

/-- 'laws.FnPeriodPart', WHERE WHAT IT READS IS OF BULK AT MOST 1048576: true; the input reads as it did. -/
def fnPeriodPartUptoRow : OpenClaim := { program := "ytipfggkndphebaa", sum := "f0acb5fa848acfc9bd70ab51500675c0afdc2b25b2c35e165786077ab2c28bf1", func := "loop.example/datenotation/laws.FnPeriodPart", spec := "fnPeriodPart", apart := false, narrowed := true }
def FnPeriodPartUptoSaid : Prop := fnPeriodPartUptoRow.holds Try.pinned (OpenSpec.upto fnPeriodPartSpec)

/-- 'laws.FnExactPeriodTidy', WHERE WHAT IT READS IS OF BULK AT MOST 1048576: true; the input reads as it did. -/
def fnExactPeriodTidyUptoRow : OpenClaim := { program := "ytipfggkndphebaa", sum := "f0acb5fa848acfc9bd70ab51500675c0afdc2b25b2c35e165786077ab2c28bf1", func := "loop.example/datenotation/laws.FnExactPeriodTidy", spec := "fnExactPeriodTidy", apart := false, narrowed := true }
def FnExactPeriodTidyUptoSaid : Prop := fnExactPeriodTidyUptoRow.holds Try.pinned (OpenSpec.upto fnExactPeriodTidySpec)

/-- 'laws.FnPeriodTidy', WHERE WHAT IT READS IS OF BULK AT MOST 1048576: true; the input reads as it did. -/
def fnPeriodTidyUptoRow : OpenClaim := { program := "ytipfggkndphebaa", sum := "f0acb5fa848acfc9bd70ab51500675c0afdc2b25b2c35e165786077ab2c28bf1", func := "loop.example/datenotation/laws.FnPeriodTidy", spec := "fnPeriodTidy", apart := false, narrowed := true }
def FnPeriodTidyUptoSaid : Prop := fnPeriodTidyUptoRow.holds Try.pinned (OpenSpec.upto fnPeriodTidySpec)

/-- 'laws.FnPeriodTidyTwice', WHERE WHAT IT READS IS OF BULK AT MOST 1048576: true; the input reads as it did. -/
def fnPeriodTidyTwiceUptoRow : OpenClaim := { program := "ytipfggkndphebaa", sum := "f0acb5fa848acfc9bd70ab51500675c0afdc2b25b2c35e165786077ab2c28bf1", func := "loop.example/datenotation/laws.FnPeriodTidyTwice", spec := "fnPeriodTidyTwice", apart := false, narrowed := true }
def FnPeriodTidyTwiceUptoSaid : Prop := fnPeriodTidyTwiceUptoRow.holds Try.pinned (OpenSpec.upto fnPeriodTidyTwiceSpec)

/-- 'laws.FnExactPeriodFrom', WHERE WHAT IT READS IS OF BULK AT MOST 1048576: true; the input reads as it did. -/
def fnExactPeriodFromUptoRow : OpenClaim := { program := "ytipfggkndphebaa", sum := "f0acb5fa848acfc9bd70ab51500675c0afdc2b25b2c35e165786077ab2c28bf1", func := "loop.example/datenotation/laws.FnExactPeriodFrom", spec := "fnExactPeriodFrom", apart := false, narrowed := true }
def FnExactPeriodFromUptoSaid : Prop := fnExactPeriodFromUptoRow.holds Try.pinned (OpenSpec.upto fnExactPeriodFromSpec)

/-- 'laws.FnPeriodTorn', WHERE WHAT IT READS IS OF BULK AT MOST 1048576: true; the input reads as it did. -/
def fnPeriodTornUptoRow : OpenClaim := { program := "ytipfggkndphebaa", sum := "f0acb5fa848acfc9bd70ab51500675c0afdc2b25b2c35e165786077ab2c28bf1", func := "loop.example/datenotation/laws.FnPeriodTorn", spec := "fnPeriodTorn", recurses := true, apart := false, narrowed := true }
def FnPeriodTornUptoSaid : Prop := fnPeriodTornUptoRow.holds Try.pinned (OpenSpec.upto fnPeriodTornSpec)

/-- 'laws.FnPeriodWeeks', WHERE WHAT IT READS IS OF BULK AT MOST 1048576: true; the input reads as it did. -/
def fnPeriodWeeksUptoRow : OpenClaim := { program := "ytipfggkndphebaa", sum := "f0acb5fa848acfc9bd70ab51500675c0afdc2b25b2c35e165786077ab2c28bf1", func := "loop.example/datenotation/laws.FnPeriodWeeks", spec := "fnPeriodWeeks", recurses := true, apart := false, narrowed := true }
def FnPeriodWeeksUptoSaid : Prop := fnPeriodWeeksUptoRow.holds Try.pinned (OpenSpec.upto fnPeriodWeeksSpec)

end Rows
end Go.Proofs.Ytipfggkndphebaa
