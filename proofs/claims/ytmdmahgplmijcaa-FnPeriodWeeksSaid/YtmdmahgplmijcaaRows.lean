/-
  No cell of these rows narrows 'for every input' (looked for: loops, veiled, ifaces, maps, wideKeys, modest, calm, conditions, laid).
  DERIVED. THE GIVEN ROWS OF THIS SEAT. 3 by the template 'for every input the law returns true; each argument reads behind the call as it read before'; 0 by the template 'total and deterministic' (their statements: YtmdmahgplmijcaaTotals.lean).
  GIVEN WITH THE SEED: the statements are not yours to turn. If you find one false, say at which input.
  Laid BY PROGRAM, IN A SANDBOX (cutbox-rows.mjs): the forced cells as the released guide's own fill.sh prints them over the translation ce4538b7abb8a032… (all of the seat's roots in one cut). By AI agents, Wed Nov 11 2026. No macro, syntax, notation, axiom, sorry.
-/
import Derived.Test.YtmdmahgplmijcaaChecked
import GoSem.Claim
import GoSem.ClaimJoined
import GoSem.ClaimMapViews
import Derived.JoinedTies
import Derived.KernelRfl
namespace Go.Proofs.Ytmdmahgplmijcaa
/- THE CELL 'sum', in the pinned program and in every row, IS THE sha256 OF THE DUMP (.gsa) THAT YtmdmahgplmijcaaProg.lean LOADS. Nothing in Lean hashes anything: it is a label: what it is worth is what the hold of that sum in a sandbox is worth. -/
noncomputable def Try.pinned : Pinned := { name := "ytmdmahgplmijcaa", sum := "ce4538b7abb8a0329cdb5f15265d6708860615f6ab88ebc5cef22af801bbcd4c", checked := Try.checked }
namespace Rows
def none {H : Type} : Left H := { results := [], args := [] }

/-- 'laws.FnExactPeriodFrom': WHATEVER THE INPUT: true; the input reads as it did. -/
def fnExactPeriodFromSpec : ChangeSpec := { name := "fnExactPeriodFrom", fn := fun _ => fun
  | [d] => { results := [.lit (.bool true)], args := [d] }
  | _ => none }
def fnExactPeriodFromRow : OpenClaim := { program := "ytmdmahgplmijcaa", sum := "ce4538b7abb8a0329cdb5f15265d6708860615f6ab88ebc5cef22af801bbcd4c", func := "loop.example/datenotation/laws.FnExactPeriodFrom", spec := "fnExactPeriodFrom", apart := false }
def FnExactPeriodFromSaid : Prop := fnExactPeriodFromRow.holds Try.pinned (OpenSpec.ofChange fnExactPeriodFromSpec)

/-- ITS FALSE NEIGHBOUR: 'it returns false'. Refute it at one input. -/
def fnExactPeriodFromWrong : ChangeSpec := { name := "fnExactPeriodFrom", fn := fun _ => fun
  | [d] => { results := [.lit (.bool false)], args := [d] }
  | _ => none }
def FnExactPeriodFromWrongFalsely : Prop := fnExactPeriodFromRow.holds Try.pinned (OpenSpec.ofChange fnExactPeriodFromWrong)

/-- 'laws.FnPeriodTorn': WHATEVER THE INPUT: true; the input reads as it did. -/
def fnPeriodTornSpec : ChangeSpec := { name := "fnPeriodTorn", fn := fun _ => fun
  | [d] => { results := [.lit (.bool true)], args := [d] }
  | _ => none }
def fnPeriodTornRow : OpenClaim := { program := "ytmdmahgplmijcaa", sum := "ce4538b7abb8a0329cdb5f15265d6708860615f6ab88ebc5cef22af801bbcd4c", func := "loop.example/datenotation/laws.FnPeriodTorn", spec := "fnPeriodTorn", recurses := true, apart := false }
def FnPeriodTornSaid : Prop := fnPeriodTornRow.holds Try.pinned (OpenSpec.ofChange fnPeriodTornSpec)

/-- ITS FALSE NEIGHBOUR: 'it returns false'. Refute it at one input. -/
def fnPeriodTornWrong : ChangeSpec := { name := "fnPeriodTorn", fn := fun _ => fun
  | [d] => { results := [.lit (.bool false)], args := [d] }
  | _ => none }
def FnPeriodTornWrongFalsely : Prop := fnPeriodTornRow.holds Try.pinned (OpenSpec.ofChange fnPeriodTornWrong)

/-- 'laws.FnPeriodWeeks': WHATEVER THE INPUT: true; the input reads as it did. -/
def fnPeriodWeeksSpec : ChangeSpec := { name := "fnPeriodWeeks", fn := fun _ => fun
  | [d1, d2] => { results := [.lit (.bool true)], args := [d1, d2] }
  | _ => none }
def fnPeriodWeeksRow : OpenClaim := { program := "ytmdmahgplmijcaa", sum := "ce4538b7abb8a0329cdb5f15265d6708860615f6ab88ebc5cef22af801bbcd4c", func := "loop.example/datenotation/laws.FnPeriodWeeks", spec := "fnPeriodWeeks", recurses := true, apart := false }
def FnPeriodWeeksSaid : Prop := fnPeriodWeeksRow.holds Try.pinned (OpenSpec.ofChange fnPeriodWeeksSpec)

/-- ITS FALSE NEIGHBOUR: 'it returns false'. Refute it at one input. -/
def fnPeriodWeeksWrong : ChangeSpec := { name := "fnPeriodWeeks", fn := fun _ => fun
  | [d1, d2] => { results := [.lit (.bool false)], args := [d1, d2] }
  | _ => none }
def FnPeriodWeeksWrongFalsely : Prop := fnPeriodWeeksRow.holds Try.pinned (OpenSpec.ofChange fnPeriodWeeksWrong)

/- THE SECOND FORM. 'bulk': how many values and letters a reading holds, each counted each time it is reached (what is shared counts as often as it is met; a slice's spare places count too). A statement '..UptoSaid' is the law's where the arguments, and the package variables that the reading takes, are together of bulk at most 1048576: NARROWER than '..Said'. Prove '..Said' where nothing that the law and all that it calls make is longer than what came in: it says more and counts as full. Else prove '..UptoSaid'. A law counts once. -/
mutual
def uptoBulk {H : Type} : DataW H → Nat
  | .lit (.string bytes) => bytes.length + 1
  | .lit _ => 1
  | .nil => 1
  | .ptr d => uptoBulk d + 1
  | .slice elems spare => uptoBulkAll elems + uptoBulkAll spare + 1
  | .agg parts => uptoBulkAll parts + 1
  | .iface _ d => uptoBulk d + 1
  | .map entries => uptoBulkEntries entries + 1
  | .held _ => 1
def uptoBulkAll {H : Type} : List (DataW H) → Nat
  | [] => 0
  | d :: r => uptoBulk d + uptoBulkAll r
def uptoBulkEntries {H : Type} : List (Lit × DataW H) → Nat
  | [] => 0
  | x :: r => uptoBulkEntry x + uptoBulkEntries r
def uptoBulkEntry {H : Type} : Lit × DataW H → Nat
  | (.string bytes, d) => bytes.length + uptoBulk d + 1
  | (_, d) => uptoBulk d + 1
 end
def uptoSmall : (H : Type) → List (DataW H) → Bool := fun _ ds => decide (uptoBulkAll ds ≤ 1048576)
def OpenSpec.upto (s : _root_.Go.ChangeSpec) : _root_.Go.OpenSpec := { _root_.Go.OpenSpec.ofChange s with cond := some uptoSmall }

/-- 'laws.FnExactPeriodFrom', WHERE WHAT IT READS IS OF BULK AT MOST 1048576: true; the input reads as it did. -/
def fnExactPeriodFromUptoRow : OpenClaim := { program := "ytmdmahgplmijcaa", sum := "ce4538b7abb8a0329cdb5f15265d6708860615f6ab88ebc5cef22af801bbcd4c", func := "loop.example/datenotation/laws.FnExactPeriodFrom", spec := "fnExactPeriodFrom", apart := false, narrowed := true }
def FnExactPeriodFromUptoSaid : Prop := fnExactPeriodFromUptoRow.holds Try.pinned (OpenSpec.upto fnExactPeriodFromSpec)

/-- 'laws.FnPeriodTorn', WHERE WHAT IT READS IS OF BULK AT MOST 1048576: true; the input reads as it did. -/
def fnPeriodTornUptoRow : OpenClaim := { program := "ytmdmahgplmijcaa", sum := "ce4538b7abb8a0329cdb5f15265d6708860615f6ab88ebc5cef22af801bbcd4c", func := "loop.example/datenotation/laws.FnPeriodTorn", spec := "fnPeriodTorn", recurses := true, apart := false, narrowed := true }
def FnPeriodTornUptoSaid : Prop := fnPeriodTornUptoRow.holds Try.pinned (OpenSpec.upto fnPeriodTornSpec)

/-- 'laws.FnPeriodWeeks', WHERE WHAT IT READS IS OF BULK AT MOST 1048576: true; the input reads as it did. -/
def fnPeriodWeeksUptoRow : OpenClaim := { program := "ytmdmahgplmijcaa", sum := "ce4538b7abb8a0329cdb5f15265d6708860615f6ab88ebc5cef22af801bbcd4c", func := "loop.example/datenotation/laws.FnPeriodWeeks", spec := "fnPeriodWeeks", recurses := true, apart := false, narrowed := true }
def FnPeriodWeeksUptoSaid : Prop := fnPeriodWeeksUptoRow.holds Try.pinned (OpenSpec.upto fnPeriodWeeksSpec)

end Rows
end Go.Proofs.Ytmdmahgplmijcaa
