/-
  DERIVED. GIVEN WITH THE SEED: THE CARDS: each row of YtfailbghnpfcdaaDoorRows.lean that lists a variable, with what it lists TIED to the program's text (the seventh form; the later family's looks); each row that meets fmt, with fmt's text TOLD by the authors' own Lean function (tested against real Go, not proved from fmt's source: count such statements apart). THE CARD IS WHAT COUNTS. Prove the row's statement (the work); the ties are given (YtfailbghnpfcdaaDoorTie.lean); close each card by the builder's one call (the guide's Derived/Test/ToyasCard.lean, 'card_holds'). Laid BY PROGRAM, IN A SANDBOX (cutbox-door.mjs). By AI agents, Wed Nov 11 2026. No macro, syntax, notation, axiom, sorry.
-/
import Derived.Test.YtfailbghnpfcdaaDoorRows
import GoSem.ClaimSeven
namespace Go.Proofs.YtfailbghnpfcdaaDoor
namespace Rows

/-- THE TIED CARD OF 'laws.FnExactDateText'. -/
def fnExactDateTextCard : Claim7 := { stood := { row := fnExactDateTextRow, standIns := [], harness := (true, "35c48203a044ed34d3f289704dd468d42997337898bb215390bdfdfaf5611243"), looks := false }, kinds := [], alts := [], laidByText := true, laidKinds := [.data], laidTests := true, laidLooks := .later }
def FnExactDateTextCardSaid : Prop := Claim7.holds Tryd.pinned (.plain (OpenSpec.ofChange fnExactDateTextSpec)) fnExactDateTextCard

/-- THE TIED CARD OF 'laws.FnDateTextLength'. -/
def fnDateTextLengthCard : Claim7 := { stood := { row := fnDateTextLengthRow, standIns := [], harness := (true, "35c48203a044ed34d3f289704dd468d42997337898bb215390bdfdfaf5611243"), looks := false }, kinds := [], alts := [], laidByText := true, laidKinds := [.data], laidTests := true, laidLooks := .later }
def FnDateTextLengthCardSaid : Prop := Claim7.holds Tryd.pinned (.plain (OpenSpec.ofChange fnDateTextLengthSpec)) fnDateTextLengthCard

/-- THE TIED CARD OF 'laws.FnDateTextOrder'. -/
def fnDateTextOrderCard : Claim7 := { stood := { row := fnDateTextOrderRow, standIns := [], harness := (true, "35c48203a044ed34d3f289704dd468d42997337898bb215390bdfdfaf5611243"), looks := false }, kinds := [], alts := [], laidByText := true, laidKinds := [.data], laidTests := true, laidLooks := .later }
def FnDateTextOrderCardSaid : Prop := Claim7.holds Tryd.pinned (.plain (OpenSpec.ofChange fnDateTextOrderSpec)) fnDateTextOrderCard

/-- THE TIED CARD OF 'laws.FnExactStampText'. -/
def fnExactStampTextCard : Claim7 := { stood := { row := fnExactStampTextRow, standIns := [], harness := (true, "35c48203a044ed34d3f289704dd468d42997337898bb215390bdfdfaf5611243"), looks := false }, kinds := [], alts := [], laidByText := true, laidKinds := [.data, .data, .pinned], laidTests := true, laidLooks := .later }
def FnExactStampTextCardSaid : Prop := Claim7.holds Tryd.pinned (.plain (OpenSpec.ofChange fnExactStampTextSpec)) fnExactStampTextCard

/-- THE TIED CARD OF 'laws.FnStampTextParts'. -/
def fnStampTextPartsCard : Claim7 := { stood := { row := fnStampTextPartsRow, standIns := [], harness := (true, "35c48203a044ed34d3f289704dd468d42997337898bb215390bdfdfaf5611243"), looks := false }, kinds := [], alts := [], laidByText := true, laidKinds := [.data, .data, .pinned], laidTests := true, laidLooks := .later }
def FnStampTextPartsCardSaid : Prop := Claim7.holds Tryd.pinned (.plain (OpenSpec.ofChange fnStampTextPartsSpec)) fnStampTextPartsCard

/-- THE SECOND FORM's CARD OF 'laws.FnExactDateText'. -/
def fnExactDateTextUptoCard : Claim7 := { stood := { row := fnExactDateTextUptoRow, standIns := [], harness := (true, "35c48203a044ed34d3f289704dd468d42997337898bb215390bdfdfaf5611243"), looks := false }, kinds := [], alts := [], laidByText := true, laidKinds := [.data], laidTests := true, laidLooks := .later }
def FnExactDateTextUptoCardSaid : Prop := Claim7.holds Tryd.pinned (.plain (OpenSpec.upto fnExactDateTextSpec)) fnExactDateTextUptoCard

/-- THE SECOND FORM's CARD OF 'laws.FnDateTextLength'. -/
def fnDateTextLengthUptoCard : Claim7 := { stood := { row := fnDateTextLengthUptoRow, standIns := [], harness := (true, "35c48203a044ed34d3f289704dd468d42997337898bb215390bdfdfaf5611243"), looks := false }, kinds := [], alts := [], laidByText := true, laidKinds := [.data], laidTests := true, laidLooks := .later }
def FnDateTextLengthUptoCardSaid : Prop := Claim7.holds Tryd.pinned (.plain (OpenSpec.upto fnDateTextLengthSpec)) fnDateTextLengthUptoCard

/-- THE SECOND FORM's CARD OF 'laws.FnDateTextOrder'. -/
def fnDateTextOrderUptoCard : Claim7 := { stood := { row := fnDateTextOrderUptoRow, standIns := [], harness := (true, "35c48203a044ed34d3f289704dd468d42997337898bb215390bdfdfaf5611243"), looks := false }, kinds := [], alts := [], laidByText := true, laidKinds := [.data], laidTests := true, laidLooks := .later }
def FnDateTextOrderUptoCardSaid : Prop := Claim7.holds Tryd.pinned (.plain (OpenSpec.upto fnDateTextOrderSpec)) fnDateTextOrderUptoCard

/-- THE SECOND FORM's CARD OF 'laws.FnExactStampText'. -/
def fnExactStampTextUptoCard : Claim7 := { stood := { row := fnExactStampTextUptoRow, standIns := [], harness := (true, "35c48203a044ed34d3f289704dd468d42997337898bb215390bdfdfaf5611243"), looks := false }, kinds := [], alts := [], laidByText := true, laidKinds := [.data, .data, .pinned], laidTests := true, laidLooks := .later }
def FnExactStampTextUptoCardSaid : Prop := Claim7.holds Tryd.pinned (.plain (OpenSpec.upto fnExactStampTextSpec)) fnExactStampTextUptoCard

/-- THE SECOND FORM's CARD OF 'laws.FnStampTextParts'. -/
def fnStampTextPartsUptoCard : Claim7 := { stood := { row := fnStampTextPartsUptoRow, standIns := [], harness := (true, "35c48203a044ed34d3f289704dd468d42997337898bb215390bdfdfaf5611243"), looks := false }, kinds := [], alts := [], laidByText := true, laidKinds := [.data, .data, .pinned], laidTests := true, laidLooks := .later }
def FnStampTextPartsUptoCardSaid : Prop := Claim7.holds Tryd.pinned (.plain (OpenSpec.upto fnStampTextPartsSpec)) fnStampTextPartsUptoCard
end Rows
end Go.Proofs.YtfailbghnpfcdaaDoor
