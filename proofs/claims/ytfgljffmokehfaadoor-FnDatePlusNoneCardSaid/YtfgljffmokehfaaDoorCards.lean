/-
  DERIVED. GIVEN WITH THE SEED: THE CARDS: each row of YtfgljffmokehfaaDoorRows.lean that lists a variable, with what it lists TIED to the program's text (the seventh form; the later family's looks); each row that meets fmt, with fmt's text TOLD by the authors' own Lean function (tested against real Go, not proved from fmt's source: count such statements apart). THE CARD IS WHAT COUNTS. Prove the row's statement (the work); the ties are given (YtfgljffmokehfaaDoorTie.lean); close each card by the builder's one call (the guide's Derived/Test/ToyasCard.lean, 'card_holds'). Laid BY PROGRAM, IN A SANDBOX (cutbox-door.mjs). By AI agents, Wed Nov 11 2026. No macro, syntax, notation, axiom, sorry.
-/
import Derived.Test.YtfgljffmokehfaaDoorRows
import GoSem.ClaimSeven
namespace Go.Proofs.YtfgljffmokehfaaDoor
namespace Rows

/-- THE TIED CARD OF 'laws.FnExactMonthPlus'. -/
def fnExactMonthPlusCard : Claim7 := { stood := { row := fnExactMonthPlusRow, standIns := [], harness := (true, "095be29cbb5ae5f1e1aab6da3881e266edd755cad9d75fcc56947741f850d34f"), looks := false }, kinds := [], alts := [], laidByText := true, laidKinds := [.data], laidTests := true, laidLooks := .later }
def FnExactMonthPlusCardSaid : Prop := Claim7.holds Tryd.pinned (.plain (OpenSpec.ofChange fnExactMonthPlusSpec)) fnExactMonthPlusCard

/-- THE TIED CARD OF 'laws.FnMonthPlus'. -/
def fnMonthPlusCard : Claim7 := { stood := { row := fnMonthPlusRow, standIns := [], harness := (true, "095be29cbb5ae5f1e1aab6da3881e266edd755cad9d75fcc56947741f850d34f"), looks := false }, kinds := [], alts := [], laidByText := true, laidKinds := [.data], laidTests := true, laidLooks := .later }
def FnMonthPlusCardSaid : Prop := Claim7.holds Tryd.pinned (.plain (OpenSpec.ofChange fnMonthPlusSpec)) fnMonthPlusCard

/-- THE TIED CARD OF 'laws.FnMonthPlusBack'. -/
def fnMonthPlusBackCard : Claim7 := { stood := { row := fnMonthPlusBackRow, standIns := [], harness := (true, "095be29cbb5ae5f1e1aab6da3881e266edd755cad9d75fcc56947741f850d34f"), looks := false }, kinds := [], alts := [], laidByText := true, laidKinds := [.data], laidTests := true, laidLooks := .later }
def FnMonthPlusBackCardSaid : Prop := Claim7.holds Tryd.pinned (.plain (OpenSpec.ofChange fnMonthPlusBackSpec)) fnMonthPlusBackCard

/-- THE TIED CARD OF 'laws.FnMonthPlusYear'. -/
def fnMonthPlusYearCard : Claim7 := { stood := { row := fnMonthPlusYearRow, standIns := [], harness := (true, "095be29cbb5ae5f1e1aab6da3881e266edd755cad9d75fcc56947741f850d34f"), looks := false }, kinds := [], alts := [], laidByText := true, laidKinds := [.data], laidTests := true, laidLooks := .later }
def FnMonthPlusYearCardSaid : Prop := Claim7.holds Tryd.pinned (.plain (OpenSpec.ofChange fnMonthPlusYearSpec)) fnMonthPlusYearCard

/-- THE TIED CARD OF 'laws.FnExactDayPlus'. -/
def fnExactDayPlusCard : Claim7 := { stood := { row := fnExactDayPlusRow, standIns := [], harness := (true, "095be29cbb5ae5f1e1aab6da3881e266edd755cad9d75fcc56947741f850d34f"), looks := false }, kinds := [], alts := [], laidByText := true, laidKinds := [.data], laidTests := true, laidLooks := .later }
def FnExactDayPlusCardSaid : Prop := Claim7.holds Tryd.pinned (.plain (OpenSpec.ofChange fnExactDayPlusSpec)) fnExactDayPlusCard

/-- THE TIED CARD OF 'laws.FnDayPlusBack'. -/
def fnDayPlusBackCard : Claim7 := { stood := { row := fnDayPlusBackRow, standIns := [], harness := (true, "095be29cbb5ae5f1e1aab6da3881e266edd755cad9d75fcc56947741f850d34f"), looks := false }, kinds := [], alts := [], laidByText := true, laidKinds := [.data], laidTests := true, laidLooks := .later }
def FnDayPlusBackCardSaid : Prop := Claim7.holds Tryd.pinned (.plain (OpenSpec.ofChange fnDayPlusBackSpec)) fnDayPlusBackCard

/-- THE TIED CARD OF 'laws.FnDayPlus'. -/
def fnDayPlusCard : Claim7 := { stood := { row := fnDayPlusRow, standIns := [], harness := (true, "095be29cbb5ae5f1e1aab6da3881e266edd755cad9d75fcc56947741f850d34f"), looks := false }, kinds := [], alts := [], laidByText := true, laidKinds := [.data], laidTests := true, laidLooks := .later }
def FnDayPlusCardSaid : Prop := Claim7.holds Tryd.pinned (.plain (OpenSpec.ofChange fnDayPlusSpec)) fnDayPlusCard

/-- THE TIED CARD OF 'laws.FnExactDateText'. -/
def fnExactDateTextCard : Claim7 := { stood := { row := fnExactDateTextRow, standIns := [], harness := (true, "095be29cbb5ae5f1e1aab6da3881e266edd755cad9d75fcc56947741f850d34f"), looks := false }, kinds := [], alts := [], laidByText := true, laidKinds := [.data], laidTests := true, laidLooks := .later }
def FnExactDateTextCardSaid : Prop := Claim7.holds Tryd.pinned (.plain (OpenSpec.ofChange fnExactDateTextSpec)) fnExactDateTextCard

/-- THE TIED CARD OF 'laws.FnDateTextLength'. -/
def fnDateTextLengthCard : Claim7 := { stood := { row := fnDateTextLengthRow, standIns := [], harness := (true, "095be29cbb5ae5f1e1aab6da3881e266edd755cad9d75fcc56947741f850d34f"), looks := false }, kinds := [], alts := [], laidByText := true, laidKinds := [.data], laidTests := true, laidLooks := .later }
def FnDateTextLengthCardSaid : Prop := Claim7.holds Tryd.pinned (.plain (OpenSpec.ofChange fnDateTextLengthSpec)) fnDateTextLengthCard

/-- THE TIED CARD OF 'laws.FnDateTextOrder'. -/
def fnDateTextOrderCard : Claim7 := { stood := { row := fnDateTextOrderRow, standIns := [], harness := (true, "095be29cbb5ae5f1e1aab6da3881e266edd755cad9d75fcc56947741f850d34f"), looks := false }, kinds := [], alts := [], laidByText := true, laidKinds := [.data], laidTests := true, laidLooks := .later }
def FnDateTextOrderCardSaid : Prop := Claim7.holds Tryd.pinned (.plain (OpenSpec.ofChange fnDateTextOrderSpec)) fnDateTextOrderCard

/-- THE TIED CARD OF 'laws.FnExactDatePlus'. -/
def fnExactDatePlusCard : Claim7 := { stood := { row := fnExactDatePlusRow, standIns := [], harness := (true, "095be29cbb5ae5f1e1aab6da3881e266edd755cad9d75fcc56947741f850d34f"), looks := false }, kinds := [], alts := [], laidByText := true, laidKinds := [.data], laidTests := true, laidLooks := .later }
def FnExactDatePlusCardSaid : Prop := Claim7.holds Tryd.pinned (.plain (OpenSpec.ofChange fnExactDatePlusSpec)) fnExactDatePlusCard

/-- THE TIED CARD OF 'laws.FnDatePlus'. -/
def fnDatePlusCard : Claim7 := { stood := { row := fnDatePlusRow, standIns := [], harness := (true, "095be29cbb5ae5f1e1aab6da3881e266edd755cad9d75fcc56947741f850d34f"), looks := false }, kinds := [], alts := [], laidByText := true, laidKinds := [.data], laidTests := true, laidLooks := .later }
def FnDatePlusCardSaid : Prop := Claim7.holds Tryd.pinned (.plain (OpenSpec.ofChange fnDatePlusSpec)) fnDatePlusCard

/-- THE TIED CARD OF 'laws.FnDatePlusNone'. -/
def fnDatePlusNoneCard : Claim7 := { stood := { row := fnDatePlusNoneRow, standIns := [], harness := (true, "095be29cbb5ae5f1e1aab6da3881e266edd755cad9d75fcc56947741f850d34f"), looks := false }, kinds := [], alts := [], laidByText := true, laidKinds := [.data], laidTests := true, laidLooks := .later }
def FnDatePlusNoneCardSaid : Prop := Claim7.holds Tryd.pinned (.plain (OpenSpec.ofChange fnDatePlusNoneSpec)) fnDatePlusNoneCard

/-- THE SECOND FORM's CARD OF 'laws.FnExactMonthPlus'. -/
def fnExactMonthPlusUptoCard : Claim7 := { stood := { row := fnExactMonthPlusUptoRow, standIns := [], harness := (true, "095be29cbb5ae5f1e1aab6da3881e266edd755cad9d75fcc56947741f850d34f"), looks := false }, kinds := [], alts := [], laidByText := true, laidKinds := [.data], laidTests := true, laidLooks := .later }
def FnExactMonthPlusUptoCardSaid : Prop := Claim7.holds Tryd.pinned (.plain (OpenSpec.upto fnExactMonthPlusSpec)) fnExactMonthPlusUptoCard

/-- THE SECOND FORM's CARD OF 'laws.FnMonthPlus'. -/
def fnMonthPlusUptoCard : Claim7 := { stood := { row := fnMonthPlusUptoRow, standIns := [], harness := (true, "095be29cbb5ae5f1e1aab6da3881e266edd755cad9d75fcc56947741f850d34f"), looks := false }, kinds := [], alts := [], laidByText := true, laidKinds := [.data], laidTests := true, laidLooks := .later }
def FnMonthPlusUptoCardSaid : Prop := Claim7.holds Tryd.pinned (.plain (OpenSpec.upto fnMonthPlusSpec)) fnMonthPlusUptoCard

/-- THE SECOND FORM's CARD OF 'laws.FnMonthPlusBack'. -/
def fnMonthPlusBackUptoCard : Claim7 := { stood := { row := fnMonthPlusBackUptoRow, standIns := [], harness := (true, "095be29cbb5ae5f1e1aab6da3881e266edd755cad9d75fcc56947741f850d34f"), looks := false }, kinds := [], alts := [], laidByText := true, laidKinds := [.data], laidTests := true, laidLooks := .later }
def FnMonthPlusBackUptoCardSaid : Prop := Claim7.holds Tryd.pinned (.plain (OpenSpec.upto fnMonthPlusBackSpec)) fnMonthPlusBackUptoCard

/-- THE SECOND FORM's CARD OF 'laws.FnMonthPlusYear'. -/
def fnMonthPlusYearUptoCard : Claim7 := { stood := { row := fnMonthPlusYearUptoRow, standIns := [], harness := (true, "095be29cbb5ae5f1e1aab6da3881e266edd755cad9d75fcc56947741f850d34f"), looks := false }, kinds := [], alts := [], laidByText := true, laidKinds := [.data], laidTests := true, laidLooks := .later }
def FnMonthPlusYearUptoCardSaid : Prop := Claim7.holds Tryd.pinned (.plain (OpenSpec.upto fnMonthPlusYearSpec)) fnMonthPlusYearUptoCard

/-- THE SECOND FORM's CARD OF 'laws.FnExactDayPlus'. -/
def fnExactDayPlusUptoCard : Claim7 := { stood := { row := fnExactDayPlusUptoRow, standIns := [], harness := (true, "095be29cbb5ae5f1e1aab6da3881e266edd755cad9d75fcc56947741f850d34f"), looks := false }, kinds := [], alts := [], laidByText := true, laidKinds := [.data], laidTests := true, laidLooks := .later }
def FnExactDayPlusUptoCardSaid : Prop := Claim7.holds Tryd.pinned (.plain (OpenSpec.upto fnExactDayPlusSpec)) fnExactDayPlusUptoCard

/-- THE SECOND FORM's CARD OF 'laws.FnDayPlusBack'. -/
def fnDayPlusBackUptoCard : Claim7 := { stood := { row := fnDayPlusBackUptoRow, standIns := [], harness := (true, "095be29cbb5ae5f1e1aab6da3881e266edd755cad9d75fcc56947741f850d34f"), looks := false }, kinds := [], alts := [], laidByText := true, laidKinds := [.data], laidTests := true, laidLooks := .later }
def FnDayPlusBackUptoCardSaid : Prop := Claim7.holds Tryd.pinned (.plain (OpenSpec.upto fnDayPlusBackSpec)) fnDayPlusBackUptoCard

/-- THE SECOND FORM's CARD OF 'laws.FnDayPlus'. -/
def fnDayPlusUptoCard : Claim7 := { stood := { row := fnDayPlusUptoRow, standIns := [], harness := (true, "095be29cbb5ae5f1e1aab6da3881e266edd755cad9d75fcc56947741f850d34f"), looks := false }, kinds := [], alts := [], laidByText := true, laidKinds := [.data], laidTests := true, laidLooks := .later }
def FnDayPlusUptoCardSaid : Prop := Claim7.holds Tryd.pinned (.plain (OpenSpec.upto fnDayPlusSpec)) fnDayPlusUptoCard

/-- THE SECOND FORM's CARD OF 'laws.FnExactDateText'. -/
def fnExactDateTextUptoCard : Claim7 := { stood := { row := fnExactDateTextUptoRow, standIns := [], harness := (true, "095be29cbb5ae5f1e1aab6da3881e266edd755cad9d75fcc56947741f850d34f"), looks := false }, kinds := [], alts := [], laidByText := true, laidKinds := [.data], laidTests := true, laidLooks := .later }
def FnExactDateTextUptoCardSaid : Prop := Claim7.holds Tryd.pinned (.plain (OpenSpec.upto fnExactDateTextSpec)) fnExactDateTextUptoCard

/-- THE SECOND FORM's CARD OF 'laws.FnDateTextLength'. -/
def fnDateTextLengthUptoCard : Claim7 := { stood := { row := fnDateTextLengthUptoRow, standIns := [], harness := (true, "095be29cbb5ae5f1e1aab6da3881e266edd755cad9d75fcc56947741f850d34f"), looks := false }, kinds := [], alts := [], laidByText := true, laidKinds := [.data], laidTests := true, laidLooks := .later }
def FnDateTextLengthUptoCardSaid : Prop := Claim7.holds Tryd.pinned (.plain (OpenSpec.upto fnDateTextLengthSpec)) fnDateTextLengthUptoCard

/-- THE SECOND FORM's CARD OF 'laws.FnDateTextOrder'. -/
def fnDateTextOrderUptoCard : Claim7 := { stood := { row := fnDateTextOrderUptoRow, standIns := [], harness := (true, "095be29cbb5ae5f1e1aab6da3881e266edd755cad9d75fcc56947741f850d34f"), looks := false }, kinds := [], alts := [], laidByText := true, laidKinds := [.data], laidTests := true, laidLooks := .later }
def FnDateTextOrderUptoCardSaid : Prop := Claim7.holds Tryd.pinned (.plain (OpenSpec.upto fnDateTextOrderSpec)) fnDateTextOrderUptoCard

/-- THE SECOND FORM's CARD OF 'laws.FnExactDatePlus'. -/
def fnExactDatePlusUptoCard : Claim7 := { stood := { row := fnExactDatePlusUptoRow, standIns := [], harness := (true, "095be29cbb5ae5f1e1aab6da3881e266edd755cad9d75fcc56947741f850d34f"), looks := false }, kinds := [], alts := [], laidByText := true, laidKinds := [.data], laidTests := true, laidLooks := .later }
def FnExactDatePlusUptoCardSaid : Prop := Claim7.holds Tryd.pinned (.plain (OpenSpec.upto fnExactDatePlusSpec)) fnExactDatePlusUptoCard

/-- THE SECOND FORM's CARD OF 'laws.FnDatePlus'. -/
def fnDatePlusUptoCard : Claim7 := { stood := { row := fnDatePlusUptoRow, standIns := [], harness := (true, "095be29cbb5ae5f1e1aab6da3881e266edd755cad9d75fcc56947741f850d34f"), looks := false }, kinds := [], alts := [], laidByText := true, laidKinds := [.data], laidTests := true, laidLooks := .later }
def FnDatePlusUptoCardSaid : Prop := Claim7.holds Tryd.pinned (.plain (OpenSpec.upto fnDatePlusSpec)) fnDatePlusUptoCard

/-- THE SECOND FORM's CARD OF 'laws.FnDatePlusNone'. -/
def fnDatePlusNoneUptoCard : Claim7 := { stood := { row := fnDatePlusNoneUptoRow, standIns := [], harness := (true, "095be29cbb5ae5f1e1aab6da3881e266edd755cad9d75fcc56947741f850d34f"), looks := false }, kinds := [], alts := [], laidByText := true, laidKinds := [.data], laidTests := true, laidLooks := .later }
def FnDatePlusNoneUptoCardSaid : Prop := Claim7.holds Tryd.pinned (.plain (OpenSpec.upto fnDatePlusNoneSpec)) fnDatePlusNoneUptoCard
end Rows
end Go.Proofs.YtfgljffmokehfaaDoor
