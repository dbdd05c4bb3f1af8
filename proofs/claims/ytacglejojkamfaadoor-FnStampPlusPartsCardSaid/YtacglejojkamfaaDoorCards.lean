/-
  DERIVED. GIVEN WITH THE SEED: THE CARDS: each row of YtacglejojkamfaaDoorRows.lean that lists a variable, with what it lists TIED to the program's text (the seventh form; the later family's looks); each row that meets fmt, with fmt's text TOLD by the authors' own Lean function (tested against real Go, not proved from fmt's source: count such statements apart). THE CARD IS WHAT COUNTS. Prove the row's statement (the work); the ties are given (YtacglejojkamfaaDoorTie.lean); close each card by the builder's one call (the guide's Derived/Test/ToyasCard.lean, 'card_holds'). Laid BY PROGRAM, IN A SANDBOX (cutbox-door.mjs). By AI agents, Wed Nov 11 2026. No macro, syntax, notation, axiom, sorry.
-/
import Derived.Test.YtacglejojkamfaaDoorRows
import GoSem.ClaimSeven
namespace Go.Proofs.YtacglejojkamfaaDoor
namespace Rows

/-- THE TIED CARD OF 'laws.FnExactSpanHas'. -/
def fnExactSpanHasCard : Claim7 := { stood := { row := fnExactSpanHasRow, standIns := [], harness := (true, "506fbb6ab7805ee5785fa4416d716e7cda6cbf758bf058773d43bf27b0c435f1"), looks := false }, kinds := [], alts := [], laidByText := true, laidKinds := [.data], laidTests := true, laidLooks := .later }
def FnExactSpanHasCardSaid : Prop := Claim7.holds Tryd.pinned (.plain (OpenSpec.ofChange fnExactSpanHasSpec)) fnExactSpanHasCard

/-- THE TIED CARD OF 'laws.FnSpanHas'. -/
def fnSpanHasCard : Claim7 := { stood := { row := fnSpanHasRow, standIns := [], harness := (true, "506fbb6ab7805ee5785fa4416d716e7cda6cbf758bf058773d43bf27b0c435f1"), looks := false }, kinds := [], alts := [], laidByText := true, laidKinds := [.data], laidTests := true, laidLooks := .later }
def FnSpanHasCardSaid : Prop := Claim7.holds Tryd.pinned (.plain (OpenSpec.ofChange fnSpanHasSpec)) fnSpanHasCard

/-- THE TIED CARD OF 'laws.FnSpanHasWhen'. -/
def fnSpanHasWhenCard : Claim7 := { stood := { row := fnSpanHasWhenRow, standIns := [], harness := (true, "506fbb6ab7805ee5785fa4416d716e7cda6cbf758bf058773d43bf27b0c435f1"), looks := false }, kinds := [], alts := [], laidByText := true, laidKinds := [.data], laidTests := true, laidLooks := .later }
def FnSpanHasWhenCardSaid : Prop := Claim7.holds Tryd.pinned (.plain (OpenSpec.ofChange fnSpanHasWhenSpec)) fnSpanHasWhenCard

/-- THE TIED CARD OF 'laws.FnExactSpanLength'. -/
def fnExactSpanLengthCard : Claim7 := { stood := { row := fnExactSpanLengthRow, standIns := [], harness := (true, "506fbb6ab7805ee5785fa4416d716e7cda6cbf758bf058773d43bf27b0c435f1"), looks := false }, kinds := [], alts := [], laidByText := true, laidKinds := [.data], laidTests := true, laidLooks := .later }
def FnExactSpanLengthCardSaid : Prop := Claim7.holds Tryd.pinned (.plain (OpenSpec.ofChange fnExactSpanLengthSpec)) fnExactSpanLengthCard

/-- THE TIED CARD OF 'laws.FnSpanLength'. -/
def fnSpanLengthCard : Claim7 := { stood := { row := fnSpanLengthRow, standIns := [], harness := (true, "506fbb6ab7805ee5785fa4416d716e7cda6cbf758bf058773d43bf27b0c435f1"), looks := false }, kinds := [], alts := [], laidByText := true, laidKinds := [.data], laidTests := true, laidLooks := .later }
def FnSpanLengthCardSaid : Prop := Claim7.holds Tryd.pinned (.plain (OpenSpec.ofChange fnSpanLengthSpec)) fnSpanLengthCard

/-- THE TIED CARD OF 'laws.FnExactStampText'. -/
def fnExactStampTextCard : Claim7 := { stood := { row := fnExactStampTextRow, standIns := [], harness := (true, "506fbb6ab7805ee5785fa4416d716e7cda6cbf758bf058773d43bf27b0c435f1"), looks := false }, kinds := [], alts := [], laidByText := true, laidKinds := [.data, .data, .pinned], laidTests := true, laidLooks := .later }
def FnExactStampTextCardSaid : Prop := Claim7.holds Tryd.pinned (.plain (OpenSpec.ofChange fnExactStampTextSpec)) fnExactStampTextCard

/-- THE TIED CARD OF 'laws.FnStampTextParts'. -/
def fnStampTextPartsCard : Claim7 := { stood := { row := fnStampTextPartsRow, standIns := [], harness := (true, "506fbb6ab7805ee5785fa4416d716e7cda6cbf758bf058773d43bf27b0c435f1"), looks := false }, kinds := [], alts := [], laidByText := true, laidKinds := [.data, .data, .pinned], laidTests := true, laidLooks := .later }
def FnStampTextPartsCardSaid : Prop := Claim7.holds Tryd.pinned (.plain (OpenSpec.ofChange fnStampTextPartsSpec)) fnStampTextPartsCard

/-- THE TIED CARD OF 'laws.FnExactStampPlus'. -/
def fnExactStampPlusCard : Claim7 := { stood := { row := fnExactStampPlusRow, standIns := [], harness := (true, "506fbb6ab7805ee5785fa4416d716e7cda6cbf758bf058773d43bf27b0c435f1"), looks := false }, kinds := [], alts := [], laidByText := true, laidKinds := [.data], laidTests := true, laidLooks := .later }
def FnExactStampPlusCardSaid : Prop := Claim7.holds Tryd.pinned (.plain (OpenSpec.ofChange fnExactStampPlusSpec)) fnExactStampPlusCard

/-- THE TIED CARD OF 'laws.FnStampPlusParts'. -/
def fnStampPlusPartsCard : Claim7 := { stood := { row := fnStampPlusPartsRow, standIns := [], harness := (true, "506fbb6ab7805ee5785fa4416d716e7cda6cbf758bf058773d43bf27b0c435f1"), looks := false }, kinds := [], alts := [], laidByText := true, laidKinds := [.data], laidTests := true, laidLooks := .later }
def FnStampPlusPartsCardSaid : Prop := Claim7.holds Tryd.pinned (.plain (OpenSpec.ofChange fnStampPlusPartsSpec)) fnStampPlusPartsCard

/-- THE TIED CARD OF 'laws.FnStampPlus'. -/
def fnStampPlusCard : Claim7 := { stood := { row := fnStampPlusRow, standIns := [], harness := (true, "506fbb6ab7805ee5785fa4416d716e7cda6cbf758bf058773d43bf27b0c435f1"), looks := false }, kinds := [], alts := [], laidByText := true, laidKinds := [.data], laidTests := true, laidLooks := .later }
def FnStampPlusCardSaid : Prop := Claim7.holds Tryd.pinned (.plain (OpenSpec.ofChange fnStampPlusSpec)) fnStampPlusCard

/-- THE TIED CARD OF 'laws.FnStampPlusTime'. -/
def fnStampPlusTimeCard : Claim7 := { stood := { row := fnStampPlusTimeRow, standIns := [], harness := (true, "506fbb6ab7805ee5785fa4416d716e7cda6cbf758bf058773d43bf27b0c435f1"), looks := false }, kinds := [], alts := [], laidByText := true, laidKinds := [.data], laidTests := true, laidLooks := .later }
def FnStampPlusTimeCardSaid : Prop := Claim7.holds Tryd.pinned (.plain (OpenSpec.ofChange fnStampPlusTimeSpec)) fnStampPlusTimeCard

/-- THE SECOND FORM's CARD OF 'laws.FnExactSpanHas'. -/
def fnExactSpanHasUptoCard : Claim7 := { stood := { row := fnExactSpanHasUptoRow, standIns := [], harness := (true, "506fbb6ab7805ee5785fa4416d716e7cda6cbf758bf058773d43bf27b0c435f1"), looks := false }, kinds := [], alts := [], laidByText := true, laidKinds := [.data], laidTests := true, laidLooks := .later }
def FnExactSpanHasUptoCardSaid : Prop := Claim7.holds Tryd.pinned (.plain (OpenSpec.upto fnExactSpanHasSpec)) fnExactSpanHasUptoCard

/-- THE SECOND FORM's CARD OF 'laws.FnSpanHas'. -/
def fnSpanHasUptoCard : Claim7 := { stood := { row := fnSpanHasUptoRow, standIns := [], harness := (true, "506fbb6ab7805ee5785fa4416d716e7cda6cbf758bf058773d43bf27b0c435f1"), looks := false }, kinds := [], alts := [], laidByText := true, laidKinds := [.data], laidTests := true, laidLooks := .later }
def FnSpanHasUptoCardSaid : Prop := Claim7.holds Tryd.pinned (.plain (OpenSpec.upto fnSpanHasSpec)) fnSpanHasUptoCard

/-- THE SECOND FORM's CARD OF 'laws.FnSpanHasWhen'. -/
def fnSpanHasWhenUptoCard : Claim7 := { stood := { row := fnSpanHasWhenUptoRow, standIns := [], harness := (true, "506fbb6ab7805ee5785fa4416d716e7cda6cbf758bf058773d43bf27b0c435f1"), looks := false }, kinds := [], alts := [], laidByText := true, laidKinds := [.data], laidTests := true, laidLooks := .later }
def FnSpanHasWhenUptoCardSaid : Prop := Claim7.holds Tryd.pinned (.plain (OpenSpec.upto fnSpanHasWhenSpec)) fnSpanHasWhenUptoCard

/-- THE SECOND FORM's CARD OF 'laws.FnExactSpanLength'. -/
def fnExactSpanLengthUptoCard : Claim7 := { stood := { row := fnExactSpanLengthUptoRow, standIns := [], harness := (true, "506fbb6ab7805ee5785fa4416d716e7cda6cbf758bf058773d43bf27b0c435f1"), looks := false }, kinds := [], alts := [], laidByText := true, laidKinds := [.data], laidTests := true, laidLooks := .later }
def FnExactSpanLengthUptoCardSaid : Prop := Claim7.holds Tryd.pinned (.plain (OpenSpec.upto fnExactSpanLengthSpec)) fnExactSpanLengthUptoCard

/-- THE SECOND FORM's CARD OF 'laws.FnSpanLength'. -/
def fnSpanLengthUptoCard : Claim7 := { stood := { row := fnSpanLengthUptoRow, standIns := [], harness := (true, "506fbb6ab7805ee5785fa4416d716e7cda6cbf758bf058773d43bf27b0c435f1"), looks := false }, kinds := [], alts := [], laidByText := true, laidKinds := [.data], laidTests := true, laidLooks := .later }
def FnSpanLengthUptoCardSaid : Prop := Claim7.holds Tryd.pinned (.plain (OpenSpec.upto fnSpanLengthSpec)) fnSpanLengthUptoCard

/-- THE SECOND FORM's CARD OF 'laws.FnExactStampText'. -/
def fnExactStampTextUptoCard : Claim7 := { stood := { row := fnExactStampTextUptoRow, standIns := [], harness := (true, "506fbb6ab7805ee5785fa4416d716e7cda6cbf758bf058773d43bf27b0c435f1"), looks := false }, kinds := [], alts := [], laidByText := true, laidKinds := [.data, .data, .pinned], laidTests := true, laidLooks := .later }
def FnExactStampTextUptoCardSaid : Prop := Claim7.holds Tryd.pinned (.plain (OpenSpec.upto fnExactStampTextSpec)) fnExactStampTextUptoCard

/-- THE SECOND FORM's CARD OF 'laws.FnStampTextParts'. -/
def fnStampTextPartsUptoCard : Claim7 := { stood := { row := fnStampTextPartsUptoRow, standIns := [], harness := (true, "506fbb6ab7805ee5785fa4416d716e7cda6cbf758bf058773d43bf27b0c435f1"), looks := false }, kinds := [], alts := [], laidByText := true, laidKinds := [.data, .data, .pinned], laidTests := true, laidLooks := .later }
def FnStampTextPartsUptoCardSaid : Prop := Claim7.holds Tryd.pinned (.plain (OpenSpec.upto fnStampTextPartsSpec)) fnStampTextPartsUptoCard

/-- THE SECOND FORM's CARD OF 'laws.FnExactStampPlus'. -/
def fnExactStampPlusUptoCard : Claim7 := { stood := { row := fnExactStampPlusUptoRow, standIns := [], harness := (true, "506fbb6ab7805ee5785fa4416d716e7cda6cbf758bf058773d43bf27b0c435f1"), looks := false }, kinds := [], alts := [], laidByText := true, laidKinds := [.data], laidTests := true, laidLooks := .later }
def FnExactStampPlusUptoCardSaid : Prop := Claim7.holds Tryd.pinned (.plain (OpenSpec.upto fnExactStampPlusSpec)) fnExactStampPlusUptoCard

/-- THE SECOND FORM's CARD OF 'laws.FnStampPlusParts'. -/
def fnStampPlusPartsUptoCard : Claim7 := { stood := { row := fnStampPlusPartsUptoRow, standIns := [], harness := (true, "506fbb6ab7805ee5785fa4416d716e7cda6cbf758bf058773d43bf27b0c435f1"), looks := false }, kinds := [], alts := [], laidByText := true, laidKinds := [.data], laidTests := true, laidLooks := .later }
def FnStampPlusPartsUptoCardSaid : Prop := Claim7.holds Tryd.pinned (.plain (OpenSpec.upto fnStampPlusPartsSpec)) fnStampPlusPartsUptoCard

/-- THE SECOND FORM's CARD OF 'laws.FnStampPlus'. -/
def fnStampPlusUptoCard : Claim7 := { stood := { row := fnStampPlusUptoRow, standIns := [], harness := (true, "506fbb6ab7805ee5785fa4416d716e7cda6cbf758bf058773d43bf27b0c435f1"), looks := false }, kinds := [], alts := [], laidByText := true, laidKinds := [.data], laidTests := true, laidLooks := .later }
def FnStampPlusUptoCardSaid : Prop := Claim7.holds Tryd.pinned (.plain (OpenSpec.upto fnStampPlusSpec)) fnStampPlusUptoCard

/-- THE SECOND FORM's CARD OF 'laws.FnStampPlusTime'. -/
def fnStampPlusTimeUptoCard : Claim7 := { stood := { row := fnStampPlusTimeUptoRow, standIns := [], harness := (true, "506fbb6ab7805ee5785fa4416d716e7cda6cbf758bf058773d43bf27b0c435f1"), looks := false }, kinds := [], alts := [], laidByText := true, laidKinds := [.data], laidTests := true, laidLooks := .later }
def FnStampPlusTimeUptoCardSaid : Prop := Claim7.holds Tryd.pinned (.plain (OpenSpec.upto fnStampPlusTimeSpec)) fnStampPlusTimeUptoCard
end Rows
end Go.Proofs.YtacglejojkamfaaDoor
