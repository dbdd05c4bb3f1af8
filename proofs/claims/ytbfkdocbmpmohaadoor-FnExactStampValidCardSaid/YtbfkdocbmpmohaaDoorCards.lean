/-
  DERIVED. GIVEN WITH THE SEED: THE CARDS: each row of YtbfkdocbmpmohaaDoorRows.lean that lists a variable, with what it lists TIED to the program's text (the seventh form; the later family's looks); each row that meets fmt, with fmt's text TOLD by the authors' own Lean function (tested against real Go, not proved from fmt's source: count such statements apart). THE CARD IS WHAT COUNTS. Prove the row's statement (the work); the ties are given (YtbfkdocbmpmohaaDoorTie.lean); close each card by the builder's one call (the guide's Derived/Test/ToyasCard.lean, 'card_holds'). Laid BY PROGRAM, IN A SANDBOX (cutbox-door.mjs). By AI agents, Wed Nov 11 2026. No macro, syntax, notation, axiom, sorry.
-/
import Derived.Test.YtbfkdocbmpmohaaDoorRows
import GoSem.ClaimSeven
namespace Go.Proofs.YtbfkdocbmpmohaaDoor
namespace Rows

/-- THE TIED CARD OF 'laws.FnExactStampValid'. -/
def fnExactStampValidCard : Claim7 := { stood := { row := fnExactStampValidRow, standIns := [], harness := (true, "b48c8dc292b8131ca8bc4f05d9e8b85189b73143a26d286f881b48334fb4728a"), looks := false }, kinds := [], alts := [], laidByText := true, laidKinds := [.data], laidTests := true, laidLooks := .later }
def FnExactStampValidCardSaid : Prop := Claim7.holds Tryd.pinned (.plain (OpenSpec.ofChange fnExactStampValidSpec)) fnExactStampValidCard

/-- THE TIED CARD OF 'laws.FnStampPart'. -/
def fnStampPartCard : Claim7 := { stood := { row := fnStampPartRow, standIns := [], harness := (true, "b48c8dc292b8131ca8bc4f05d9e8b85189b73143a26d286f881b48334fb4728a"), looks := false }, kinds := [], alts := [], laidByText := true, laidKinds := [.data], laidTests := true, laidLooks := .later }
def FnStampPartCardSaid : Prop := Claim7.holds Tryd.pinned (.plain (OpenSpec.ofChange fnStampPartSpec)) fnStampPartCard

/-- THE TIED CARD OF 'laws.FnExactStampLess'. -/
def fnExactStampLessCard : Claim7 := { stood := { row := fnExactStampLessRow, standIns := [], harness := (true, "b48c8dc292b8131ca8bc4f05d9e8b85189b73143a26d286f881b48334fb4728a"), looks := false }, kinds := [], alts := [], laidByText := true, laidKinds := [.data], laidTests := true, laidLooks := .later }
def FnExactStampLessCardSaid : Prop := Claim7.holds Tryd.pinned (.plain (OpenSpec.ofChange fnExactStampLessSpec)) fnExactStampLessCard

/-- THE TIED CARD OF 'laws.FnStampLess'. -/
def fnStampLessCard : Claim7 := { stood := { row := fnStampLessRow, standIns := [], harness := (true, "b48c8dc292b8131ca8bc4f05d9e8b85189b73143a26d286f881b48334fb4728a"), looks := false }, kinds := [], alts := [], laidByText := true, laidKinds := [.data], laidTests := true, laidLooks := .later }
def FnStampLessCardSaid : Prop := Claim7.holds Tryd.pinned (.plain (OpenSpec.ofChange fnStampLessSpec)) fnStampLessCard

/-- THE TIED CARD OF 'laws.FnStampLessOne'. -/
def fnStampLessOneCard : Claim7 := { stood := { row := fnStampLessOneRow, standIns := [], harness := (true, "b48c8dc292b8131ca8bc4f05d9e8b85189b73143a26d286f881b48334fb4728a"), looks := false }, kinds := [], alts := [], laidByText := true, laidKinds := [.data], laidTests := true, laidLooks := .later }
def FnStampLessOneCardSaid : Prop := Claim7.holds Tryd.pinned (.plain (OpenSpec.ofChange fnStampLessOneSpec)) fnStampLessOneCard

/-- THE TIED CARD OF 'laws.FnExactInstant'. -/
def fnExactInstantCard : Claim7 := { stood := { row := fnExactInstantRow, standIns := [], harness := (true, "b48c8dc292b8131ca8bc4f05d9e8b85189b73143a26d286f881b48334fb4728a"), looks := false }, kinds := [], alts := [], laidByText := true, laidKinds := [.data], laidTests := true, laidLooks := .later }
def FnExactInstantCardSaid : Prop := Claim7.holds Tryd.pinned (.plain (OpenSpec.ofChange fnExactInstantSpec)) fnExactInstantCard

/-- THE TIED CARD OF 'laws.FnInstant'. -/
def fnInstantCard : Claim7 := { stood := { row := fnInstantRow, standIns := [], harness := (true, "b48c8dc292b8131ca8bc4f05d9e8b85189b73143a26d286f881b48334fb4728a"), looks := false }, kinds := [], alts := [], laidByText := true, laidKinds := [.data], laidTests := true, laidLooks := .later }
def FnInstantCardSaid : Prop := Claim7.holds Tryd.pinned (.plain (OpenSpec.ofChange fnInstantSpec)) fnInstantCard

/-- THE TIED CARD OF 'laws.FnInstantEnd'. -/
def fnInstantEndCard : Claim7 := { stood := { row := fnInstantEndRow, standIns := [], harness := (true, "b48c8dc292b8131ca8bc4f05d9e8b85189b73143a26d286f881b48334fb4728a"), looks := false }, kinds := [], alts := [], laidByText := true, laidKinds := [.data], laidTests := true, laidLooks := .later }
def FnInstantEndCardSaid : Prop := Claim7.holds Tryd.pinned (.plain (OpenSpec.ofChange fnInstantEndSpec)) fnInstantEndCard

/-- THE TIED CARD OF 'laws.FnInstantOffset'. -/
def fnInstantOffsetCard : Claim7 := { stood := { row := fnInstantOffsetRow, standIns := [], harness := (true, "b48c8dc292b8131ca8bc4f05d9e8b85189b73143a26d286f881b48334fb4728a"), looks := false }, kinds := [], alts := [], laidByText := true, laidKinds := [.data], laidTests := true, laidLooks := .later }
def FnInstantOffsetCardSaid : Prop := Claim7.holds Tryd.pinned (.plain (OpenSpec.ofChange fnInstantOffsetSpec)) fnInstantOffsetCard

/-- THE TIED CARD OF 'laws.FnExactStampAt'. -/
def fnExactStampAtCard : Claim7 := { stood := { row := fnExactStampAtRow, standIns := [], harness := (true, "b48c8dc292b8131ca8bc4f05d9e8b85189b73143a26d286f881b48334fb4728a"), looks := false }, kinds := [], alts := [], laidByText := true, laidKinds := [.data], laidTests := true, laidLooks := .later }
def FnExactStampAtCardSaid : Prop := Claim7.holds Tryd.pinned (.plain (OpenSpec.ofChange fnExactStampAtSpec)) fnExactStampAtCard

/-- THE TIED CARD OF 'laws.FnStampAt'. -/
def fnStampAtCard : Claim7 := { stood := { row := fnStampAtRow, standIns := [], harness := (true, "b48c8dc292b8131ca8bc4f05d9e8b85189b73143a26d286f881b48334fb4728a"), looks := false }, kinds := [], alts := [], laidByText := true, laidKinds := [.data], laidTests := true, laidLooks := .later }
def FnStampAtCardSaid : Prop := Claim7.holds Tryd.pinned (.plain (OpenSpec.ofChange fnStampAtSpec)) fnStampAtCard

/-- THE TIED CARD OF 'laws.FnExactStampTurn'. -/
def fnExactStampTurnCard : Claim7 := { stood := { row := fnExactStampTurnRow, standIns := [], harness := (true, "b48c8dc292b8131ca8bc4f05d9e8b85189b73143a26d286f881b48334fb4728a"), looks := false }, kinds := [], alts := [], laidByText := true, laidKinds := [.data], laidTests := true, laidLooks := .later }
def FnExactStampTurnCardSaid : Prop := Claim7.holds Tryd.pinned (.plain (OpenSpec.ofChange fnExactStampTurnSpec)) fnExactStampTurnCard

/-- THE TIED CARD OF 'laws.FnTurn'. -/
def fnTurnCard : Claim7 := { stood := { row := fnTurnRow, standIns := [], harness := (true, "b48c8dc292b8131ca8bc4f05d9e8b85189b73143a26d286f881b48334fb4728a"), looks := false }, kinds := [], alts := [], laidByText := true, laidKinds := [.data], laidTests := true, laidLooks := .later }
def FnTurnCardSaid : Prop := Claim7.holds Tryd.pinned (.plain (OpenSpec.ofChange fnTurnSpec)) fnTurnCard

/-- THE TIED CARD OF 'laws.FnTurnBack'. -/
def fnTurnBackCard : Claim7 := { stood := { row := fnTurnBackRow, standIns := [], harness := (true, "b48c8dc292b8131ca8bc4f05d9e8b85189b73143a26d286f881b48334fb4728a"), looks := false }, kinds := [], alts := [], laidByText := true, laidKinds := [.data], laidTests := true, laidLooks := .later }
def FnTurnBackCardSaid : Prop := Claim7.holds Tryd.pinned (.plain (OpenSpec.ofChange fnTurnBackSpec)) fnTurnBackCard

/-- THE SECOND FORM's CARD OF 'laws.FnExactStampValid'. -/
def fnExactStampValidUptoCard : Claim7 := { stood := { row := fnExactStampValidUptoRow, standIns := [], harness := (true, "b48c8dc292b8131ca8bc4f05d9e8b85189b73143a26d286f881b48334fb4728a"), looks := false }, kinds := [], alts := [], laidByText := true, laidKinds := [.data], laidTests := true, laidLooks := .later }
def FnExactStampValidUptoCardSaid : Prop := Claim7.holds Tryd.pinned (.plain (OpenSpec.upto fnExactStampValidSpec)) fnExactStampValidUptoCard

/-- THE SECOND FORM's CARD OF 'laws.FnStampPart'. -/
def fnStampPartUptoCard : Claim7 := { stood := { row := fnStampPartUptoRow, standIns := [], harness := (true, "b48c8dc292b8131ca8bc4f05d9e8b85189b73143a26d286f881b48334fb4728a"), looks := false }, kinds := [], alts := [], laidByText := true, laidKinds := [.data], laidTests := true, laidLooks := .later }
def FnStampPartUptoCardSaid : Prop := Claim7.holds Tryd.pinned (.plain (OpenSpec.upto fnStampPartSpec)) fnStampPartUptoCard

/-- THE SECOND FORM's CARD OF 'laws.FnExactStampLess'. -/
def fnExactStampLessUptoCard : Claim7 := { stood := { row := fnExactStampLessUptoRow, standIns := [], harness := (true, "b48c8dc292b8131ca8bc4f05d9e8b85189b73143a26d286f881b48334fb4728a"), looks := false }, kinds := [], alts := [], laidByText := true, laidKinds := [.data], laidTests := true, laidLooks := .later }
def FnExactStampLessUptoCardSaid : Prop := Claim7.holds Tryd.pinned (.plain (OpenSpec.upto fnExactStampLessSpec)) fnExactStampLessUptoCard

/-- THE SECOND FORM's CARD OF 'laws.FnStampLess'. -/
def fnStampLessUptoCard : Claim7 := { stood := { row := fnStampLessUptoRow, standIns := [], harness := (true, "b48c8dc292b8131ca8bc4f05d9e8b85189b73143a26d286f881b48334fb4728a"), looks := false }, kinds := [], alts := [], laidByText := true, laidKinds := [.data], laidTests := true, laidLooks := .later }
def FnStampLessUptoCardSaid : Prop := Claim7.holds Tryd.pinned (.plain (OpenSpec.upto fnStampLessSpec)) fnStampLessUptoCard

/-- THE SECOND FORM's CARD OF 'laws.FnStampLessOne'. -/
def fnStampLessOneUptoCard : Claim7 := { stood := { row := fnStampLessOneUptoRow, standIns := [], harness := (true, "b48c8dc292b8131ca8bc4f05d9e8b85189b73143a26d286f881b48334fb4728a"), looks := false }, kinds := [], alts := [], laidByText := true, laidKinds := [.data], laidTests := true, laidLooks := .later }
def FnStampLessOneUptoCardSaid : Prop := Claim7.holds Tryd.pinned (.plain (OpenSpec.upto fnStampLessOneSpec)) fnStampLessOneUptoCard

/-- THE SECOND FORM's CARD OF 'laws.FnExactInstant'. -/
def fnExactInstantUptoCard : Claim7 := { stood := { row := fnExactInstantUptoRow, standIns := [], harness := (true, "b48c8dc292b8131ca8bc4f05d9e8b85189b73143a26d286f881b48334fb4728a"), looks := false }, kinds := [], alts := [], laidByText := true, laidKinds := [.data], laidTests := true, laidLooks := .later }
def FnExactInstantUptoCardSaid : Prop := Claim7.holds Tryd.pinned (.plain (OpenSpec.upto fnExactInstantSpec)) fnExactInstantUptoCard

/-- THE SECOND FORM's CARD OF 'laws.FnInstant'. -/
def fnInstantUptoCard : Claim7 := { stood := { row := fnInstantUptoRow, standIns := [], harness := (true, "b48c8dc292b8131ca8bc4f05d9e8b85189b73143a26d286f881b48334fb4728a"), looks := false }, kinds := [], alts := [], laidByText := true, laidKinds := [.data], laidTests := true, laidLooks := .later }
def FnInstantUptoCardSaid : Prop := Claim7.holds Tryd.pinned (.plain (OpenSpec.upto fnInstantSpec)) fnInstantUptoCard

/-- THE SECOND FORM's CARD OF 'laws.FnInstantEnd'. -/
def fnInstantEndUptoCard : Claim7 := { stood := { row := fnInstantEndUptoRow, standIns := [], harness := (true, "b48c8dc292b8131ca8bc4f05d9e8b85189b73143a26d286f881b48334fb4728a"), looks := false }, kinds := [], alts := [], laidByText := true, laidKinds := [.data], laidTests := true, laidLooks := .later }
def FnInstantEndUptoCardSaid : Prop := Claim7.holds Tryd.pinned (.plain (OpenSpec.upto fnInstantEndSpec)) fnInstantEndUptoCard

/-- THE SECOND FORM's CARD OF 'laws.FnInstantOffset'. -/
def fnInstantOffsetUptoCard : Claim7 := { stood := { row := fnInstantOffsetUptoRow, standIns := [], harness := (true, "b48c8dc292b8131ca8bc4f05d9e8b85189b73143a26d286f881b48334fb4728a"), looks := false }, kinds := [], alts := [], laidByText := true, laidKinds := [.data], laidTests := true, laidLooks := .later }
def FnInstantOffsetUptoCardSaid : Prop := Claim7.holds Tryd.pinned (.plain (OpenSpec.upto fnInstantOffsetSpec)) fnInstantOffsetUptoCard

/-- THE SECOND FORM's CARD OF 'laws.FnExactStampAt'. -/
def fnExactStampAtUptoCard : Claim7 := { stood := { row := fnExactStampAtUptoRow, standIns := [], harness := (true, "b48c8dc292b8131ca8bc4f05d9e8b85189b73143a26d286f881b48334fb4728a"), looks := false }, kinds := [], alts := [], laidByText := true, laidKinds := [.data], laidTests := true, laidLooks := .later }
def FnExactStampAtUptoCardSaid : Prop := Claim7.holds Tryd.pinned (.plain (OpenSpec.upto fnExactStampAtSpec)) fnExactStampAtUptoCard

/-- THE SECOND FORM's CARD OF 'laws.FnStampAt'. -/
def fnStampAtUptoCard : Claim7 := { stood := { row := fnStampAtUptoRow, standIns := [], harness := (true, "b48c8dc292b8131ca8bc4f05d9e8b85189b73143a26d286f881b48334fb4728a"), looks := false }, kinds := [], alts := [], laidByText := true, laidKinds := [.data], laidTests := true, laidLooks := .later }
def FnStampAtUptoCardSaid : Prop := Claim7.holds Tryd.pinned (.plain (OpenSpec.upto fnStampAtSpec)) fnStampAtUptoCard

/-- THE SECOND FORM's CARD OF 'laws.FnExactStampTurn'. -/
def fnExactStampTurnUptoCard : Claim7 := { stood := { row := fnExactStampTurnUptoRow, standIns := [], harness := (true, "b48c8dc292b8131ca8bc4f05d9e8b85189b73143a26d286f881b48334fb4728a"), looks := false }, kinds := [], alts := [], laidByText := true, laidKinds := [.data], laidTests := true, laidLooks := .later }
def FnExactStampTurnUptoCardSaid : Prop := Claim7.holds Tryd.pinned (.plain (OpenSpec.upto fnExactStampTurnSpec)) fnExactStampTurnUptoCard

/-- THE SECOND FORM's CARD OF 'laws.FnTurn'. -/
def fnTurnUptoCard : Claim7 := { stood := { row := fnTurnUptoRow, standIns := [], harness := (true, "b48c8dc292b8131ca8bc4f05d9e8b85189b73143a26d286f881b48334fb4728a"), looks := false }, kinds := [], alts := [], laidByText := true, laidKinds := [.data], laidTests := true, laidLooks := .later }
def FnTurnUptoCardSaid : Prop := Claim7.holds Tryd.pinned (.plain (OpenSpec.upto fnTurnSpec)) fnTurnUptoCard

/-- THE SECOND FORM's CARD OF 'laws.FnTurnBack'. -/
def fnTurnBackUptoCard : Claim7 := { stood := { row := fnTurnBackUptoRow, standIns := [], harness := (true, "b48c8dc292b8131ca8bc4f05d9e8b85189b73143a26d286f881b48334fb4728a"), looks := false }, kinds := [], alts := [], laidByText := true, laidKinds := [.data], laidTests := true, laidLooks := .later }
def FnTurnBackUptoCardSaid : Prop := Claim7.holds Tryd.pinned (.plain (OpenSpec.upto fnTurnBackSpec)) fnTurnBackUptoCard
end Rows
end Go.Proofs.YtbfkdocbmpmohaaDoor
