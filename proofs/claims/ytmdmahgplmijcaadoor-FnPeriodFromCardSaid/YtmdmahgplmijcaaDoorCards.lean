/-
  DERIVED. GIVEN WITH THE SEED: THE CARDS: each row of YtmdmahgplmijcaaDoorRows.lean that lists a variable, with what it lists TIED to the program's text (the seventh form; the later family's looks); each row that meets fmt, with fmt's text TOLD by the authors' own Lean function (tested against real Go, not proved from fmt's source: count such statements apart). THE CARD IS WHAT COUNTS. Prove the row's statement (the work); the ties are given (YtmdmahgplmijcaaDoorTie.lean); close each card by the builder's one call (the guide's Derived/Test/ToyasCard.lean, 'card_holds'). Laid BY PROGRAM, IN A SANDBOX (cutbox-door.mjs). By AI agents, Wed Nov 11 2026. No macro, syntax, notation, axiom, sorry.
-/
import Derived.Test.YtmdmahgplmijcaaDoorRows
import GoSem.ClaimSeven
namespace Go.Proofs.YtmdmahgplmijcaaDoor
namespace Rows

/-- THE TIED CARD OF 'laws.FnPeriodFrom'. -/
def fnPeriodFromCard : Claim7 := { stood := { row := fnPeriodFromRow, standIns := [], harness := (true, "3e0a72f1dbe274d9a9496046684e5b6e01378915850eaabd18c3f54ee59d2b08"), looks := false }, kinds := [], alts := [], laidByText := true, laidKinds := [.data, .data, .data], laidTests := true, laidLooks := .later }
def FnPeriodFromCardSaid : Prop := Claim7.holds Tryd.pinned (.plain (OpenSpec.ofChange fnPeriodFromSpec)) fnPeriodFromCard

/-- THE TIED CARD OF 'laws.FnExactPeriodText'. -/
def fnExactPeriodTextCard : Claim7 := { stood := { row := fnExactPeriodTextRow, standIns := [], harness := (true, "3e0a72f1dbe274d9a9496046684e5b6e01378915850eaabd18c3f54ee59d2b08"), looks := false }, kinds := [], alts := [], laidByText := true, laidKinds := [.data, .data, .data], laidTests := true, laidLooks := .later }
def FnExactPeriodTextCardSaid : Prop := Claim7.holds Tryd.pinned (.plain (OpenSpec.ofChange fnExactPeriodTextSpec)) fnExactPeriodTextCard

/-- THE TIED CARD OF 'laws.FnPeriodTime'. -/
def fnPeriodTimeCard : Claim7 := { stood := { row := fnPeriodTimeRow, standIns := [], harness := (true, "3e0a72f1dbe274d9a9496046684e5b6e01378915850eaabd18c3f54ee59d2b08"), looks := false }, kinds := [], alts := [], laidByText := true, laidKinds := [.data, .data, .data], laidTests := true, laidLooks := .later }
def FnPeriodTimeCardSaid : Prop := Claim7.holds Tryd.pinned (.plain (OpenSpec.ofChange fnPeriodTimeSpec)) fnPeriodTimeCard

/-- THE TIED CARD OF 'laws.FnPeriodZero'. -/
def fnPeriodZeroCard : Claim7 := { stood := { row := fnPeriodZeroRow, standIns := [], harness := (true, "3e0a72f1dbe274d9a9496046684e5b6e01378915850eaabd18c3f54ee59d2b08"), looks := false }, kinds := [], alts := [], laidByText := true, laidKinds := [.data, .data, .data], laidTests := true, laidLooks := .later }
def FnPeriodZeroCardSaid : Prop := Claim7.holds Tryd.pinned (.plain (OpenSpec.ofChange fnPeriodZeroSpec)) fnPeriodZeroCard

/-- THE TIED CARD OF 'laws.FnPeriodText'. -/
def fnPeriodTextCard : Claim7 := { stood := { row := fnPeriodTextRow, standIns := [], harness := (true, "3e0a72f1dbe274d9a9496046684e5b6e01378915850eaabd18c3f54ee59d2b08"), looks := false }, kinds := [], alts := [], laidByText := true, laidKinds := [.data, .data, .data], laidTests := true, laidLooks := .later }
def FnPeriodTextCardSaid : Prop := Claim7.holds Tryd.pinned (.plain (OpenSpec.ofChange fnPeriodTextSpec)) fnPeriodTextCard

/-- THE SECOND FORM's CARD OF 'laws.FnPeriodFrom'. -/
def fnPeriodFromUptoCard : Claim7 := { stood := { row := fnPeriodFromUptoRow, standIns := [], harness := (true, "3e0a72f1dbe274d9a9496046684e5b6e01378915850eaabd18c3f54ee59d2b08"), looks := false }, kinds := [], alts := [], laidByText := true, laidKinds := [.data, .data, .data], laidTests := true, laidLooks := .later }
def FnPeriodFromUptoCardSaid : Prop := Claim7.holds Tryd.pinned (.plain (OpenSpec.upto fnPeriodFromSpec)) fnPeriodFromUptoCard

/-- THE SECOND FORM's CARD OF 'laws.FnExactPeriodText'. -/
def fnExactPeriodTextUptoCard : Claim7 := { stood := { row := fnExactPeriodTextUptoRow, standIns := [], harness := (true, "3e0a72f1dbe274d9a9496046684e5b6e01378915850eaabd18c3f54ee59d2b08"), looks := false }, kinds := [], alts := [], laidByText := true, laidKinds := [.data, .data, .data], laidTests := true, laidLooks := .later }
def FnExactPeriodTextUptoCardSaid : Prop := Claim7.holds Tryd.pinned (.plain (OpenSpec.upto fnExactPeriodTextSpec)) fnExactPeriodTextUptoCard

/-- THE SECOND FORM's CARD OF 'laws.FnPeriodTime'. -/
def fnPeriodTimeUptoCard : Claim7 := { stood := { row := fnPeriodTimeUptoRow, standIns := [], harness := (true, "3e0a72f1dbe274d9a9496046684e5b6e01378915850eaabd18c3f54ee59d2b08"), looks := false }, kinds := [], alts := [], laidByText := true, laidKinds := [.data, .data, .data], laidTests := true, laidLooks := .later }
def FnPeriodTimeUptoCardSaid : Prop := Claim7.holds Tryd.pinned (.plain (OpenSpec.upto fnPeriodTimeSpec)) fnPeriodTimeUptoCard

/-- THE SECOND FORM's CARD OF 'laws.FnPeriodZero'. -/
def fnPeriodZeroUptoCard : Claim7 := { stood := { row := fnPeriodZeroUptoRow, standIns := [], harness := (true, "3e0a72f1dbe274d9a9496046684e5b6e01378915850eaabd18c3f54ee59d2b08"), looks := false }, kinds := [], alts := [], laidByText := true, laidKinds := [.data, .data, .data], laidTests := true, laidLooks := .later }
def FnPeriodZeroUptoCardSaid : Prop := Claim7.holds Tryd.pinned (.plain (OpenSpec.upto fnPeriodZeroSpec)) fnPeriodZeroUptoCard

/-- THE SECOND FORM's CARD OF 'laws.FnPeriodText'. -/
def fnPeriodTextUptoCard : Claim7 := { stood := { row := fnPeriodTextUptoRow, standIns := [], harness := (true, "3e0a72f1dbe274d9a9496046684e5b6e01378915850eaabd18c3f54ee59d2b08"), looks := false }, kinds := [], alts := [], laidByText := true, laidKinds := [.data, .data, .data], laidTests := true, laidLooks := .later }
def FnPeriodTextUptoCardSaid : Prop := Claim7.holds Tryd.pinned (.plain (OpenSpec.upto fnPeriodTextSpec)) fnPeriodTextUptoCard
end Rows
end Go.Proofs.YtmdmahgplmijcaaDoor
