/-
  DERIVED. GIVEN WITH THE SEED: THE CARDS: each row of YtlfdcdbgjnkddaaDoorRows.lean that lists a variable, with what it lists TIED to the program's text (the seventh form; the later family's looks); each row that meets fmt, with fmt's text TOLD by the authors' own Lean function (tested against real Go, not proved from fmt's source: count such statements apart). THE CARD IS WHAT COUNTS. Prove the row's statement (the work); the ties are given (YtlfdcdbgjnkddaaDoorTie.lean); close each card by the builder's one call (the guide's Derived/Test/ToyasCard.lean, 'card_holds'). Laid BY PROGRAM, IN A SANDBOX (cutbox-door.mjs). By AI agents, Wed Nov 11 2026. No macro, syntax, notation, axiom, sorry.
-/
import Derived.Test.YtlfdcdbgjnkddaaDoorRows
import GoSem.ClaimSeven
namespace Go.Proofs.YtlfdcdbgjnkddaaDoor
namespace Rows

/-- THE TIED CARD OF 'laws.FnExactSpanHas'. -/
def fnExactSpanHasCard : Claim7 := { stood := { row := fnExactSpanHasRow, standIns := [], harness := (true, "a5d93d13301d79cc94e48e9b2e5ec6926e637cc7ba987a0e5edb637d1039efa2"), looks := false }, kinds := [], alts := [], laidByText := true, laidKinds := [.data], laidTests := true, laidLooks := .later }
def FnExactSpanHasCardSaid : Prop := Claim7.holds Tryd.pinned (.plain (OpenSpec.ofChange fnExactSpanHasSpec)) fnExactSpanHasCard

/-- THE TIED CARD OF 'laws.FnExactSpanLength'. -/
def fnExactSpanLengthCard : Claim7 := { stood := { row := fnExactSpanLengthRow, standIns := [], harness := (true, "a5d93d13301d79cc94e48e9b2e5ec6926e637cc7ba987a0e5edb637d1039efa2"), looks := false }, kinds := [], alts := [], laidByText := true, laidKinds := [.data], laidTests := true, laidLooks := .later }
def FnExactSpanLengthCardSaid : Prop := Claim7.holds Tryd.pinned (.plain (OpenSpec.ofChange fnExactSpanLengthSpec)) fnExactSpanLengthCard

/-- THE TIED CARD OF 'laws.FnSpanLength'. -/
def fnSpanLengthCard : Claim7 := { stood := { row := fnSpanLengthRow, standIns := [], harness := (true, "a5d93d13301d79cc94e48e9b2e5ec6926e637cc7ba987a0e5edb637d1039efa2"), looks := false }, kinds := [], alts := [], laidByText := true, laidKinds := [.data], laidTests := true, laidLooks := .later }
def FnSpanLengthCardSaid : Prop := Claim7.holds Tryd.pinned (.plain (OpenSpec.ofChange fnSpanLengthSpec)) fnSpanLengthCard

/-- THE TIED CARD OF 'laws.FnSpanHas'. -/
def fnSpanHasCard : Claim7 := { stood := { row := fnSpanHasRow, standIns := [], harness := (true, "a5d93d13301d79cc94e48e9b2e5ec6926e637cc7ba987a0e5edb637d1039efa2"), looks := false }, kinds := [], alts := [], laidByText := true, laidKinds := [.data], laidTests := true, laidLooks := .later }
def FnSpanHasCardSaid : Prop := Claim7.holds Tryd.pinned (.plain (OpenSpec.ofChange fnSpanHasSpec)) fnSpanHasCard

/-- THE TIED CARD OF 'laws.FnSpanHasWhen'. -/
def fnSpanHasWhenCard : Claim7 := { stood := { row := fnSpanHasWhenRow, standIns := [], harness := (true, "a5d93d13301d79cc94e48e9b2e5ec6926e637cc7ba987a0e5edb637d1039efa2"), looks := false }, kinds := [], alts := [], laidByText := true, laidKinds := [.data], laidTests := true, laidLooks := .later }
def FnSpanHasWhenCardSaid : Prop := Claim7.holds Tryd.pinned (.plain (OpenSpec.ofChange fnSpanHasWhenSpec)) fnSpanHasWhenCard

/-- THE SECOND FORM's CARD OF 'laws.FnExactSpanHas'. -/
def fnExactSpanHasUptoCard : Claim7 := { stood := { row := fnExactSpanHasUptoRow, standIns := [], harness := (true, "a5d93d13301d79cc94e48e9b2e5ec6926e637cc7ba987a0e5edb637d1039efa2"), looks := false }, kinds := [], alts := [], laidByText := true, laidKinds := [.data], laidTests := true, laidLooks := .later }
def FnExactSpanHasUptoCardSaid : Prop := Claim7.holds Tryd.pinned (.plain (OpenSpec.upto fnExactSpanHasSpec)) fnExactSpanHasUptoCard

/-- THE SECOND FORM's CARD OF 'laws.FnExactSpanLength'. -/
def fnExactSpanLengthUptoCard : Claim7 := { stood := { row := fnExactSpanLengthUptoRow, standIns := [], harness := (true, "a5d93d13301d79cc94e48e9b2e5ec6926e637cc7ba987a0e5edb637d1039efa2"), looks := false }, kinds := [], alts := [], laidByText := true, laidKinds := [.data], laidTests := true, laidLooks := .later }
def FnExactSpanLengthUptoCardSaid : Prop := Claim7.holds Tryd.pinned (.plain (OpenSpec.upto fnExactSpanLengthSpec)) fnExactSpanLengthUptoCard

/-- THE SECOND FORM's CARD OF 'laws.FnSpanLength'. -/
def fnSpanLengthUptoCard : Claim7 := { stood := { row := fnSpanLengthUptoRow, standIns := [], harness := (true, "a5d93d13301d79cc94e48e9b2e5ec6926e637cc7ba987a0e5edb637d1039efa2"), looks := false }, kinds := [], alts := [], laidByText := true, laidKinds := [.data], laidTests := true, laidLooks := .later }
def FnSpanLengthUptoCardSaid : Prop := Claim7.holds Tryd.pinned (.plain (OpenSpec.upto fnSpanLengthSpec)) fnSpanLengthUptoCard

/-- THE SECOND FORM's CARD OF 'laws.FnSpanHas'. -/
def fnSpanHasUptoCard : Claim7 := { stood := { row := fnSpanHasUptoRow, standIns := [], harness := (true, "a5d93d13301d79cc94e48e9b2e5ec6926e637cc7ba987a0e5edb637d1039efa2"), looks := false }, kinds := [], alts := [], laidByText := true, laidKinds := [.data], laidTests := true, laidLooks := .later }
def FnSpanHasUptoCardSaid : Prop := Claim7.holds Tryd.pinned (.plain (OpenSpec.upto fnSpanHasSpec)) fnSpanHasUptoCard

/-- THE SECOND FORM's CARD OF 'laws.FnSpanHasWhen'. -/
def fnSpanHasWhenUptoCard : Claim7 := { stood := { row := fnSpanHasWhenUptoRow, standIns := [], harness := (true, "a5d93d13301d79cc94e48e9b2e5ec6926e637cc7ba987a0e5edb637d1039efa2"), looks := false }, kinds := [], alts := [], laidByText := true, laidKinds := [.data], laidTests := true, laidLooks := .later }
def FnSpanHasWhenUptoCardSaid : Prop := Claim7.holds Tryd.pinned (.plain (OpenSpec.upto fnSpanHasWhenSpec)) fnSpanHasWhenUptoCard
end Rows
end Go.Proofs.YtlfdcdbgjnkddaaDoor
