/-
  No cell of these rows narrows 'for every input' (looked for: loops, veiled, ifaces, maps, wideKeys, modest, calm, conditions, laid).
  DERIVED. THE GIVEN ROWS OF THIS SEAT. 12 by the template 'for every input the law returns true; each argument reads behind the call as it read before'; 0 by the template 'total and deterministic' (their statements: YtbgpdjceofofoaaTotals.lean).
  GIVEN WITH THE SEED: the statements are not yours to turn. If you find one false, say at which input.
  Laid BY PROGRAM, IN A SANDBOX (cutbox-rows.mjs): the forced cells as the released guide's own fill.sh prints them over the translation 8a2dca671f2f1dbd… (all of the seat's roots in one cut). By AI agents, Wed Nov 11 2026. No macro, syntax, notation, axiom, sorry.
-/
import Derived.Test.YtbgpdjceofofoaaChecked
import GoSem.Claim
import GoSem.ClaimJoined
import GoSem.ClaimMapViews
import Derived.JoinedTies
import Derived.KernelRfl
namespace Go.Proofs.Ytbgpdjceofofoaa
/- THE CELL 'sum', in the pinned program and in every row, IS THE sha256 OF THE DUMP (.gsa) THAT YtbgpdjceofofoaaProg.lean LOADS. Nothing in Lean hashes anything: it is a label: what it is worth is what the hold of that sum in a sandbox is worth. -/
noncomputable def Try.pinned : Pinned := { name := "ytbgpdjceofofoaa", sum := "8a2dca671f2f1dbd0aa2532197091c40071f7aabbf72dfae6d5f382982bf6969", checked := Try.checked }
namespace Rows
def none {H : Type} : Left H := { results := [], args := [] }

/-- 'laws.FnExactTagValid': WHATEVER THE INPUT: true; the input reads as it did. -/
def fnExactTagValidSpec : ChangeSpec := { name := "fnExactTagValid", fn := fun _ => fun
  | [d] => { results := [.lit (.bool true)], args := [d] }
  | _ => none }
def fnExactTagValidRow : OpenClaim := { program := "ytbgpdjceofofoaa", sum := "8a2dca671f2f1dbd0aa2532197091c40071f7aabbf72dfae6d5f382982bf6969", func := "loop.example/datenotation/laws.FnExactTagValid", spec := "fnExactTagValid", unfollowed := true, recurses := true, apart := false }
def FnExactTagValidSaid : Prop := fnExactTagValidRow.holds Try.pinned (OpenSpec.ofChange fnExactTagValidSpec)

/-- ITS FALSE NEIGHBOUR: 'it returns false'. Refute it at one input. -/
def fnExactTagValidWrong : ChangeSpec := { name := "fnExactTagValid", fn := fun _ => fun
  | [d] => { results := [.lit (.bool false)], args := [d] }
  | _ => none }
def FnExactTagValidWrongFalsely : Prop := fnExactTagValidRow.holds Try.pinned (OpenSpec.ofChange fnExactTagValidWrong)

/-- 'laws.FnTagCritical': WHATEVER THE INPUT: true; the input reads as it did. -/
def fnTagCriticalSpec : ChangeSpec := { name := "fnTagCritical", fn := fun _ => fun
  | [d] => { results := [.lit (.bool true)], args := [d] }
  | _ => none }
def fnTagCriticalRow : OpenClaim := { program := "ytbgpdjceofofoaa", sum := "8a2dca671f2f1dbd0aa2532197091c40071f7aabbf72dfae6d5f382982bf6969", func := "loop.example/datenotation/laws.FnTagCritical", spec := "fnTagCritical", unfollowed := true, recurses := true, apart := false }
def FnTagCriticalSaid : Prop := fnTagCriticalRow.holds Try.pinned (OpenSpec.ofChange fnTagCriticalSpec)

/-- ITS FALSE NEIGHBOUR: 'it returns false'. Refute it at one input. -/
def fnTagCriticalWrong : ChangeSpec := { name := "fnTagCritical", fn := fun _ => fun
  | [d] => { results := [.lit (.bool false)], args := [d] }
  | _ => none }
def FnTagCriticalWrongFalsely : Prop := fnTagCriticalRow.holds Try.pinned (OpenSpec.ofChange fnTagCriticalWrong)

/-- 'laws.FnTagsAllowMore': WHATEVER THE INPUT: true; the input reads as it did. -/
def fnTagsAllowMoreSpec : ChangeSpec := { name := "fnTagsAllowMore", fn := fun _ => fun
  | [d] => { results := [.lit (.bool true)], args := [d] }
  | _ => none }
def fnTagsAllowMoreRow : OpenClaim := { program := "ytbgpdjceofofoaa", sum := "8a2dca671f2f1dbd0aa2532197091c40071f7aabbf72dfae6d5f382982bf6969", func := "loop.example/datenotation/laws.FnTagsAllowMore", spec := "fnTagsAllowMore", unfollowed := true, recurses := true, apart := false }
def FnTagsAllowMoreSaid : Prop := fnTagsAllowMoreRow.holds Try.pinned (OpenSpec.ofChange fnTagsAllowMoreSpec)

/-- ITS FALSE NEIGHBOUR: 'it returns false'. Refute it at one input. -/
def fnTagsAllowMoreWrong : ChangeSpec := { name := "fnTagsAllowMore", fn := fun _ => fun
  | [d] => { results := [.lit (.bool false)], args := [d] }
  | _ => none }
def FnTagsAllowMoreWrongFalsely : Prop := fnTagsAllowMoreRow.holds Try.pinned (OpenSpec.ofChange fnTagsAllowMoreWrong)

/-- 'laws.FnTagsKeys': WHATEVER THE INPUT: true; the input reads as it did. -/
def fnTagsKeysSpec : ChangeSpec := { name := "fnTagsKeys", fn := fun _ => fun
  | [d] => { results := [.lit (.bool true)], args := [d] }
  | _ => none }
def fnTagsKeysRow : OpenClaim := { program := "ytbgpdjceofofoaa", sum := "8a2dca671f2f1dbd0aa2532197091c40071f7aabbf72dfae6d5f382982bf6969", func := "loop.example/datenotation/laws.FnTagsKeys", spec := "fnTagsKeys", inPlace := ["internal/abi.NoEscape"], unfollowed := true, recurses := true, apart := false }
def FnTagsKeysSaid : Prop := fnTagsKeysRow.holds Try.pinned (OpenSpec.ofChange fnTagsKeysSpec)

/-- ITS FALSE NEIGHBOUR: 'it returns false'. Refute it at one input. -/
def fnTagsKeysWrong : ChangeSpec := { name := "fnTagsKeys", fn := fun _ => fun
  | [d] => { results := [.lit (.bool false)], args := [d] }
  | _ => none }
def FnTagsKeysWrongFalsely : Prop := fnTagsKeysRow.holds Try.pinned (OpenSpec.ofChange fnTagsKeysWrong)

/-- 'laws.FnTagsPart': WHATEVER THE INPUT: true; the input reads as it did. -/
def fnTagsPartSpec : ChangeSpec := { name := "fnTagsPart", fn := fun _ => fun
  | [d1, d2] => { results := [.lit (.bool true)], args := [d1, d2] }
  | _ => none }
def fnTagsPartRow : OpenClaim := { program := "ytbgpdjceofofoaa", sum := "8a2dca671f2f1dbd0aa2532197091c40071f7aabbf72dfae6d5f382982bf6969", func := "loop.example/datenotation/laws.FnTagsPart", spec := "fnTagsPart", inPlace := ["internal/abi.NoEscape"], unfollowed := true, recurses := true, apart := false }
def FnTagsPartSaid : Prop := fnTagsPartRow.holds Try.pinned (OpenSpec.ofChange fnTagsPartSpec)

/-- ITS FALSE NEIGHBOUR: 'it returns false'. Refute it at one input. -/
def fnTagsPartWrong : ChangeSpec := { name := "fnTagsPart", fn := fun _ => fun
  | [d1, d2] => { results := [.lit (.bool false)], args := [d1, d2] }
  | _ => none }
def FnTagsPartWrongFalsely : Prop := fnTagsPartRow.holds Try.pinned (OpenSpec.ofChange fnTagsPartWrong)

/-- 'laws.FnExactTagsAllow': WHATEVER THE INPUT: true; the input reads as it did. -/
def fnExactTagsAllowSpec : ChangeSpec := { name := "fnExactTagsAllow", fn := fun _ => fun
  | [d1, d2] => { results := [.lit (.bool true)], args := [d1, d2] }
  | _ => none }
def fnExactTagsAllowRow : OpenClaim := { program := "ytbgpdjceofofoaa", sum := "8a2dca671f2f1dbd0aa2532197091c40071f7aabbf72dfae6d5f382982bf6969", func := "loop.example/datenotation/laws.FnExactTagsAllow", spec := "fnExactTagsAllow", unfollowed := true, recurses := true, apart := false }
def FnExactTagsAllowSaid : Prop := fnExactTagsAllowRow.holds Try.pinned (OpenSpec.ofChange fnExactTagsAllowSpec)

/-- ITS FALSE NEIGHBOUR: 'it returns false'. Refute it at one input. -/
def fnExactTagsAllowWrong : ChangeSpec := { name := "fnExactTagsAllow", fn := fun _ => fun
  | [d1, d2] => { results := [.lit (.bool false)], args := [d1, d2] }
  | _ => none }
def FnExactTagsAllowWrongFalsely : Prop := fnExactTagsAllowRow.holds Try.pinned (OpenSpec.ofChange fnExactTagsAllowWrong)

/-- 'laws.FnExactTagsText': WHATEVER THE INPUT: true; the input reads as it did. -/
def fnExactTagsTextSpec : ChangeSpec := { name := "fnExactTagsText", fn := fun _ => fun
  | [d] => { results := [.lit (.bool true)], args := [d] }
  | _ => none }
def fnExactTagsTextRow : OpenClaim := { program := "ytbgpdjceofofoaa", sum := "8a2dca671f2f1dbd0aa2532197091c40071f7aabbf72dfae6d5f382982bf6969", func := "loop.example/datenotation/laws.FnExactTagsText", spec := "fnExactTagsText", inPlace := ["internal/abi.NoEscape"], unfollowed := true, recurses := true, apart := false }
def FnExactTagsTextSaid : Prop := fnExactTagsTextRow.holds Try.pinned (OpenSpec.ofChange fnExactTagsTextSpec)

/-- ITS FALSE NEIGHBOUR: 'it returns false'. Refute it at one input. -/
def fnExactTagsTextWrong : ChangeSpec := { name := "fnExactTagsText", fn := fun _ => fun
  | [d] => { results := [.lit (.bool false)], args := [d] }
  | _ => none }
def FnExactTagsTextWrongFalsely : Prop := fnExactTagsTextRow.holds Try.pinned (OpenSpec.ofChange fnExactTagsTextWrong)

/-- 'laws.FnOffsetFrom': WHATEVER THE INPUT: true; the input reads as it did. -/
def fnOffsetFromSpec : ChangeSpec := { name := "fnOffsetFrom", fn := fun _ => fun
  | [d] => { results := [.lit (.bool true)], args := [d] }
  | _ => none }
def fnOffsetFromRow : OpenClaim := { program := "ytbgpdjceofofoaa", sum := "8a2dca671f2f1dbd0aa2532197091c40071f7aabbf72dfae6d5f382982bf6969", func := "loop.example/datenotation/laws.FnOffsetFrom", spec := "fnOffsetFrom", recurses := true, apart := false }
def FnOffsetFromSaid : Prop := fnOffsetFromRow.holds Try.pinned (OpenSpec.ofChange fnOffsetFromSpec)

/-- ITS FALSE NEIGHBOUR: 'it returns false'. Refute it at one input. -/
def fnOffsetFromWrong : ChangeSpec := { name := "fnOffsetFrom", fn := fun _ => fun
  | [d] => { results := [.lit (.bool false)], args := [d] }
  | _ => none }
def FnOffsetFromWrongFalsely : Prop := fnOffsetFromRow.holds Try.pinned (OpenSpec.ofChange fnOffsetFromWrong)

/-- 'laws.FnTagsAllow': WHATEVER THE INPUT: true; the input reads as it did. -/
def fnTagsAllowSpec : ChangeSpec := { name := "fnTagsAllow", fn := fun _ => fun
  | [d] => { results := [.lit (.bool true)], args := [d] }
  | _ => none }
def fnTagsAllowRow : OpenClaim := { program := "ytbgpdjceofofoaa", sum := "8a2dca671f2f1dbd0aa2532197091c40071f7aabbf72dfae6d5f382982bf6969", func := "loop.example/datenotation/laws.FnTagsAllow", spec := "fnTagsAllow", inPlace := ["internal/abi.NoEscape"], unfollowed := true, recurses := true, apart := false }
def FnTagsAllowSaid : Prop := fnTagsAllowRow.holds Try.pinned (OpenSpec.ofChange fnTagsAllowSpec)

/-- ITS FALSE NEIGHBOUR: 'it returns false'. Refute it at one input. -/
def fnTagsAllowWrong : ChangeSpec := { name := "fnTagsAllow", fn := fun _ => fun
  | [d] => { results := [.lit (.bool false)], args := [d] }
  | _ => none }
def FnTagsAllowWrongFalsely : Prop := fnTagsAllowRow.holds Try.pinned (OpenSpec.ofChange fnTagsAllowWrong)

/-- 'laws.FnExactTagsFrom': WHATEVER THE INPUT: true; the input reads as it did. -/
def fnExactTagsFromSpec : ChangeSpec := { name := "fnExactTagsFrom", fn := fun _ => fun
  | [d] => { results := [.lit (.bool true)], args := [d] }
  | _ => none }
def fnExactTagsFromRow : OpenClaim := { program := "ytbgpdjceofofoaa", sum := "8a2dca671f2f1dbd0aa2532197091c40071f7aabbf72dfae6d5f382982bf6969", func := "loop.example/datenotation/laws.FnExactTagsFrom", spec := "fnExactTagsFrom", inPlace := ["internal/bytealg.IndexByteString", "internal/bytealg.IndexString"], unfollowed := true, recurses := true, named := ["internal/bytealg.MaxLen"], apart := false }
def FnExactTagsFromSaid : Prop := fnExactTagsFromRow.holds Try.pinned (OpenSpec.ofChange fnExactTagsFromSpec)

/-- ITS FALSE NEIGHBOUR: 'it returns false'. Refute it at one input. -/
def fnExactTagsFromWrong : ChangeSpec := { name := "fnExactTagsFrom", fn := fun _ => fun
  | [d] => { results := [.lit (.bool false)], args := [d] }
  | _ => none }
def FnExactTagsFromWrongFalsely : Prop := fnExactTagsFromRow.holds Try.pinned (OpenSpec.ofChange fnExactTagsFromWrong)

/-- 'laws.FnTags': WHATEVER THE INPUT: true; the input reads as it did. -/
def fnTagsSpec : ChangeSpec := { name := "fnTags", fn := fun _ => fun
  | [d] => { results := [.lit (.bool true)], args := [d] }
  | _ => none }
def fnTagsRow : OpenClaim := { program := "ytbgpdjceofofoaa", sum := "8a2dca671f2f1dbd0aa2532197091c40071f7aabbf72dfae6d5f382982bf6969", func := "loop.example/datenotation/laws.FnTags", spec := "fnTags", inPlace := ["internal/abi.NoEscape", "internal/bytealg.IndexByteString", "internal/bytealg.IndexString"], unfollowed := true, recurses := true, named := ["internal/bytealg.MaxLen"], apart := false }
def FnTagsSaid : Prop := fnTagsRow.holds Try.pinned (OpenSpec.ofChange fnTagsSpec)

/-- ITS FALSE NEIGHBOUR: 'it returns false'. Refute it at one input. -/
def fnTagsWrong : ChangeSpec := { name := "fnTags", fn := fun _ => fun
  | [d] => { results := [.lit (.bool false)], args := [d] }
  | _ => none }
def FnTagsWrongFalsely : Prop := fnTagsRow.holds Try.pinned (OpenSpec.ofChange fnTagsWrong)

/-- 'laws.FnTagsFrom': WHATEVER THE INPUT: true; the input reads as it did. -/
def fnTagsFromSpec : ChangeSpec := { name := "fnTagsFrom", fn := fun _ => fun
  | [d] => { results := [.lit (.bool true)], args := [d] }
  | _ => none }
def fnTagsFromRow : OpenClaim := { program := "ytbgpdjceofofoaa", sum := "8a2dca671f2f1dbd0aa2532197091c40071f7aabbf72dfae6d5f382982bf6969", func := "loop.example/datenotation/laws.FnTagsFrom", spec := "fnTagsFrom", inPlace := ["internal/bytealg.IndexByteString", "internal/bytealg.IndexString", "internal/abi.NoEscape"], unfollowed := true, recurses := true, named := ["internal/bytealg.MaxLen"], apart := false }
def FnTagsFromSaid : Prop := fnTagsFromRow.holds Try.pinned (OpenSpec.ofChange fnTagsFromSpec)

/-- ITS FALSE NEIGHBOUR: 'it returns false'. Refute it at one input. -/
def fnTagsFromWrong : ChangeSpec := { name := "fnTagsFrom", fn := fun _ => fun
  | [d] => { results := [.lit (.bool false)], args := [d] }
  | _ => none }
def FnTagsFromWrongFalsely : Prop := fnTagsFromRow.holds Try.pinned (OpenSpec.ofChange fnTagsFromWrong)

/- THE SECOND FORM. 'bulk': how many values and letters a reading holds, each counted each time it is reached (what is shared counts as often as it is met; a slice's spare places count too). A statement '..UptoSaid' is the law's where the arguments, and the package variables that the reading takes, are together of bulk at most 1048576: NARROWER than '..Said'. Prove '..Said' where nothing that the law and all that it calls make is longer than what came in: it says more and counts as full. Else prove '..UptoSaid'. A law counts once. -/
mutual
def uptoBulk {H : Type} : DataW H → Nat
  | .lit (.string bytes) => bytes.length + 1
  | .lit _ => 1
  | .nil => 1
  | .ptr d => uptoBulk d + 1
  | .slice elems spare => uptoBulkAll elems + uptoBulkAll spare + 1
  | .agg parts => uptoBulkAll parts + 1
  | .iface _ d => uptoBulk d + 1
  | .map entries => uptoBulkEntries entries + 1
  | .held _ => 1
def uptoBulkAll {H : Type} : List (DataW H) → Nat
  | [] => 0
  | d :: r => uptoBulk d + uptoBulkAll r
def uptoBulkEntries {H : Type} : List (Lit × DataW H) → Nat
  | [] => 0
  | x :: r => uptoBulkEntry x + uptoBulkEntries r
def uptoBulkEntry {H : Type} : Lit × DataW H → Nat
  | (.string bytes, d) => bytes.length + uptoBulk d + 1
  | (_, d) => uptoBulk d + 1
 end
def uptoSmall : (H : Type) → List (DataW H) → Bool := fun _ ds => decide (uptoBulkAll ds ≤ 1048576)
def OpenSpec.upto (s : _root_.Go.ChangeSpec) : _root_.Go.OpenSpec := { _root_.Go.OpenSpec.ofChange s with cond := some uptoSmall }

/-- 'laws.FnExactTagValid', WHERE WHAT IT READS IS OF BULK AT MOST 1048576: true; the input reads as it did. -/
def fnExactTagValidUptoRow : OpenClaim := { program := "ytbgpdjceofofoaa", sum := "8a2dca671f2f1dbd0aa2532197091c40071f7aabbf72dfae6d5f382982bf6969", func := "loop.example/datenotation/laws.FnExactTagValid", spec := "fnExactTagValid", unfollowed := true, recurses := true, apart := false, narrowed := true }
def FnExactTagValidUptoSaid : Prop := fnExactTagValidUptoRow.holds Try.pinned (OpenSpec.upto fnExactTagValidSpec)

/-- 'laws.FnTagCritical', WHERE WHAT IT READS IS OF BULK AT MOST 1048576: true; the input reads as it did. -/
def fnTagCriticalUptoRow : OpenClaim := { program := "ytbgpdjceofofoaa", sum := "8a2dca671f2f1dbd0aa2532197091c40071f7aabbf72dfae6d5f382982bf6969", func := "loop.example/datenotation/laws.FnTagCritical", spec := "fnTagCritical", unfollowed := true, recurses := true, apart := false, narrowed := true }
def FnTagCriticalUptoSaid : Prop := fnTagCriticalUptoRow.holds Try.pinned (OpenSpec.upto fnTagCriticalSpec)

/-- 'laws.FnTagsAllowMore', WHERE WHAT IT READS IS OF BULK AT MOST 1048576: true; the input reads as it did. -/
def fnTagsAllowMoreUptoRow : OpenClaim := { program := "ytbgpdjceofofoaa", sum := "8a2dca671f2f1dbd0aa2532197091c40071f7aabbf72dfae6d5f382982bf6969", func := "loop.example/datenotation/laws.FnTagsAllowMore", spec := "fnTagsAllowMore", unfollowed := true, recurses := true, apart := false, narrowed := true }
def FnTagsAllowMoreUptoSaid : Prop := fnTagsAllowMoreUptoRow.holds Try.pinned (OpenSpec.upto fnTagsAllowMoreSpec)

/-- 'laws.FnTagsKeys', WHERE WHAT IT READS IS OF BULK AT MOST 1048576: true; the input reads as it did. -/
def fnTagsKeysUptoRow : OpenClaim := { program := "ytbgpdjceofofoaa", sum := "8a2dca671f2f1dbd0aa2532197091c40071f7aabbf72dfae6d5f382982bf6969", func := "loop.example/datenotation/laws.FnTagsKeys", spec := "fnTagsKeys", inPlace := ["internal/abi.NoEscape"], unfollowed := true, recurses := true, apart := false, narrowed := true }
def FnTagsKeysUptoSaid : Prop := fnTagsKeysUptoRow.holds Try.pinned (OpenSpec.upto fnTagsKeysSpec)

/-- 'laws.FnTagsPart', WHERE WHAT IT READS IS OF BULK AT MOST 1048576: true; the input reads as it did. -/
def fnTagsPartUptoRow : OpenClaim := { program := "ytbgpdjceofofoaa", sum := "8a2dca671f2f1dbd0aa2532197091c40071f7aabbf72dfae6d5f382982bf6969", func := "loop.example/datenotation/laws.FnTagsPart", spec := "fnTagsPart", inPlace := ["internal/abi.NoEscape"], unfollowed := true, recurses := true, apart := false, narrowed := true }
def FnTagsPartUptoSaid : Prop := fnTagsPartUptoRow.holds Try.pinned (OpenSpec.upto fnTagsPartSpec)

/-- 'laws.FnExactTagsAllow', WHERE WHAT IT READS IS OF BULK AT MOST 1048576: true; the input reads as it did. -/
def fnExactTagsAllowUptoRow : OpenClaim := { program := "ytbgpdjceofofoaa", sum := "8a2dca671f2f1dbd0aa2532197091c40071f7aabbf72dfae6d5f382982bf6969", func := "loop.example/datenotation/laws.FnExactTagsAllow", spec := "fnExactTagsAllow", unfollowed := true, recurses := true, apart := false, narrowed := true }
def FnExactTagsAllowUptoSaid : Prop := fnExactTagsAllowUptoRow.holds Try.pinned (OpenSpec.upto fnExactTagsAllowSpec)

/-- 'laws.FnExactTagsText', WHERE WHAT IT READS IS OF BULK AT MOST 1048576: true; the input reads as it did. -/
def fnExactTagsTextUptoRow : OpenClaim := { program := "ytbgpdjceofofoaa", sum := "8a2dca671f2f1dbd0aa2532197091c40071f7aabbf72dfae6d5f382982bf6969", func := "loop.example/datenotation/laws.FnExactTagsText", spec := "fnExactTagsText", inPlace := ["internal/abi.NoEscape"], unfollowed := true, recurses := true, apart := false, narrowed := true }
def FnExactTagsTextUptoSaid : Prop := fnExactTagsTextUptoRow.holds Try.pinned (OpenSpec.upto fnExactTagsTextSpec)

/-- 'laws.FnOffsetFrom', WHERE WHAT IT READS IS OF BULK AT MOST 1048576: true; the input reads as it did. -/
def fnOffsetFromUptoRow : OpenClaim := { program := "ytbgpdjceofofoaa", sum := "8a2dca671f2f1dbd0aa2532197091c40071f7aabbf72dfae6d5f382982bf6969", func := "loop.example/datenotation/laws.FnOffsetFrom", spec := "fnOffsetFrom", recurses := true, apart := false, narrowed := true }
def FnOffsetFromUptoSaid : Prop := fnOffsetFromUptoRow.holds Try.pinned (OpenSpec.upto fnOffsetFromSpec)

/-- 'laws.FnTagsAllow', WHERE WHAT IT READS IS OF BULK AT MOST 1048576: true; the input reads as it did. -/
def fnTagsAllowUptoRow : OpenClaim := { program := "ytbgpdjceofofoaa", sum := "8a2dca671f2f1dbd0aa2532197091c40071f7aabbf72dfae6d5f382982bf6969", func := "loop.example/datenotation/laws.FnTagsAllow", spec := "fnTagsAllow", inPlace := ["internal/abi.NoEscape"], unfollowed := true, recurses := true, apart := false, narrowed := true }
def FnTagsAllowUptoSaid : Prop := fnTagsAllowUptoRow.holds Try.pinned (OpenSpec.upto fnTagsAllowSpec)

/-- 'laws.FnExactTagsFrom', WHERE WHAT IT READS IS OF BULK AT MOST 1048576: true; the input reads as it did. -/
def fnExactTagsFromUptoRow : OpenClaim := { program := "ytbgpdjceofofoaa", sum := "8a2dca671f2f1dbd0aa2532197091c40071f7aabbf72dfae6d5f382982bf6969", func := "loop.example/datenotation/laws.FnExactTagsFrom", spec := "fnExactTagsFrom", inPlace := ["internal/bytealg.IndexByteString", "internal/bytealg.IndexString"], unfollowed := true, recurses := true, named := ["internal/bytealg.MaxLen"], apart := false, narrowed := true }
def FnExactTagsFromUptoSaid : Prop := fnExactTagsFromUptoRow.holds Try.pinned (OpenSpec.upto fnExactTagsFromSpec)

/-- 'laws.FnTags', WHERE WHAT IT READS IS OF BULK AT MOST 1048576: true; the input reads as it did. -/
def fnTagsUptoRow : OpenClaim := { program := "ytbgpdjceofofoaa", sum := "8a2dca671f2f1dbd0aa2532197091c40071f7aabbf72dfae6d5f382982bf6969", func := "loop.example/datenotation/laws.FnTags", spec := "fnTags", inPlace := ["internal/abi.NoEscape", "internal/bytealg.IndexByteString", "internal/bytealg.IndexString"], unfollowed := true, recurses := true, named := ["internal/bytealg.MaxLen"], apart := false, narrowed := true }
def FnTagsUptoSaid : Prop := fnTagsUptoRow.holds Try.pinned (OpenSpec.upto fnTagsSpec)

/-- 'laws.FnTagsFrom', WHERE WHAT IT READS IS OF BULK AT MOST 1048576: true; the input reads as it did. -/
def fnTagsFromUptoRow : OpenClaim := { program := "ytbgpdjceofofoaa", sum := "8a2dca671f2f1dbd0aa2532197091c40071f7aabbf72dfae6d5f382982bf6969", func := "loop.example/datenotation/laws.FnTagsFrom", spec := "fnTagsFrom", inPlace := ["internal/bytealg.IndexByteString", "internal/bytealg.IndexString", "internal/abi.NoEscape"], unfollowed := true, recurses := true, named := ["internal/bytealg.MaxLen"], apart := false, narrowed := true }
def FnTagsFromUptoSaid : Prop := fnTagsFromUptoRow.holds Try.pinned (OpenSpec.upto fnTagsFromSpec)

end Rows
end Go.Proofs.Ytbgpdjceofofoaa
