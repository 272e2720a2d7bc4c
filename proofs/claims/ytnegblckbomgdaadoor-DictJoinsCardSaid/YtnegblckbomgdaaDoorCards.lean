/-
  DERIVED. GIVEN WITH THE SEED: THE CARDS: each row of YtnegblckbomgdaaDoorRows.lean that lists a variable, with what it lists TIED to the program's text (the seventh form; the later family's looks); each row that meets fmt, with fmt's text TOLD by the authors' own Lean function (tested against real Go, not proved from fmt's source: count such statements apart). THE CARD IS WHAT COUNTS. Prove the row's statement (the work); the ties are given (YtnegblckbomgdaaDoorTie.lean); close each card by the builder's one call (the guide's Derived/Test/ToyasCard.lean, 'card_holds'). Laid BY PROGRAM, IN A SANDBOX (cutbox-door.mjs). By AI agents, Wed Nov 11 2026. No macro, syntax, notation, axiom, sorry.
-/
import Derived.Test.YtnegblckbomgdaaDoorRows
import GoSem.ClaimSeven
namespace Go.Proofs.YtnegblckbomgdaaDoor
namespace Rows

/-- THE TIED CARD OF 'placketlaw09.HamtShapes'. -/
def hamtShapesCard : Claim7 := { stood := { row := hamtShapesRow, standIns := [], harness := (true, "7f919eaed42bd486af6feabcf83a79107a90470b9ac0b73919bba15acf7e70dc"), looks := false }, kinds := [], alts := [], laidByText := true, laidKinds := [.data], laidTests := true, laidLooks := .later }
def HamtShapesCardSaid : Prop := Claim7.holds Tryd.pinned (.plain (OpenSpec.ofChange hamtShapesSpec)) hamtShapesCard

/-- THE TIED CARD OF 'placketlaw09.HamtBranches'. -/
def hamtBranchesCard : Claim7 := { stood := { row := hamtBranchesRow, standIns := [], harness := (true, "7f919eaed42bd486af6feabcf83a79107a90470b9ac0b73919bba15acf7e70dc"), looks := false }, kinds := [], alts := [], laidByText := true, laidKinds := [.data], laidTests := true, laidLooks := .later }
def HamtBranchesCardSaid : Prop := Claim7.holds Tryd.pinned (.plain (OpenSpec.ofChange hamtBranchesSpec)) hamtBranchesCard

/-- THE TIED CARD OF 'placketlaw09.HamtOneShape'. -/
def hamtOneShapeCard : Claim7 := { stood := { row := hamtOneShapeRow, standIns := [], harness := (true, "7f919eaed42bd486af6feabcf83a79107a90470b9ac0b73919bba15acf7e70dc"), looks := false }, kinds := [], alts := [], laidByText := true, laidKinds := [.data], laidTests := true, laidLooks := .later }
def HamtOneShapeCardSaid : Prop := Claim7.holds Tryd.pinned (.plain (OpenSpec.ofChange hamtOneShapeSpec)) hamtOneShapeCard

/-- THE TIED CARD OF 'placketlaw09.HamtApart'. -/
def hamtApartCard : Claim7 := { stood := { row := hamtApartRow, standIns := [], harness := (true, "7f919eaed42bd486af6feabcf83a79107a90470b9ac0b73919bba15acf7e70dc"), looks := false }, kinds := [], alts := [], laidByText := true, laidKinds := [.data], laidTests := true, laidLooks := .later }
def HamtApartCardSaid : Prop := Claim7.holds Tryd.pinned (.plain (OpenSpec.ofChange hamtApartSpec)) hamtApartCard

/-- THE TIED CARD OF 'placketlaw09.HamtDoes'. -/
def hamtDoesCard : Claim7 := { stood := { row := hamtDoesRow, standIns := [], harness := (true, "7f919eaed42bd486af6feabcf83a79107a90470b9ac0b73919bba15acf7e70dc"), looks := false }, kinds := [], alts := [], laidByText := true, laidKinds := [.data], laidTests := true, laidLooks := .later }
def HamtDoesCardSaid : Prop := Claim7.holds Tryd.pinned (.plain (OpenSpec.ofChange hamtDoesSpec)) hamtDoesCard

/-- THE TIED CARD OF 'placketlaw09.HamtWalks'. -/
def hamtWalksCard : Claim7 := { stood := { row := hamtWalksRow, standIns := [], harness := (true, "7f919eaed42bd486af6feabcf83a79107a90470b9ac0b73919bba15acf7e70dc"), looks := false }, kinds := [], alts := [], laidByText := true, laidKinds := [.data], laidTests := true, laidLooks := .later }
def HamtWalksCardSaid : Prop := Claim7.holds Tryd.pinned (.plain (OpenSpec.ofChange hamtWalksSpec)) hamtWalksCard

/-- THE TIED CARD OF 'placketlaw10.DictEnds'. -/
def dictEndsCard : Claim7 := { stood := { row := dictEndsRow, standIns := [], harness := (true, "7f919eaed42bd486af6feabcf83a79107a90470b9ac0b73919bba15acf7e70dc"), looks := false }, kinds := [], alts := [], laidByText := true, laidKinds := [.data], laidTests := true, laidLooks := .later }
def DictEndsCardSaid : Prop := Claim7.holds Tryd.pinned (.plain (OpenSpec.ofChange dictEndsSpec)) dictEndsCard

/-- THE TIED CARD OF 'placketlaw10.DictAsks'. -/
def dictAsksCard : Claim7 := { stood := { row := dictAsksRow, standIns := [], harness := (true, "7f919eaed42bd486af6feabcf83a79107a90470b9ac0b73919bba15acf7e70dc"), looks := false }, kinds := [], alts := [], laidByText := true, laidKinds := [.data], laidTests := true, laidLooks := .later }
def DictAsksCardSaid : Prop := Claim7.holds Tryd.pinned (.plain (OpenSpec.ofChange dictAsksSpec)) dictAsksCard

/-- THE TIED CARD OF 'placketlaw10.DictSteps'. -/
def dictStepsCard : Claim7 := { stood := { row := dictStepsRow, standIns := [], harness := (true, "7f919eaed42bd486af6feabcf83a79107a90470b9ac0b73919bba15acf7e70dc"), looks := false }, kinds := [], alts := [], laidByText := true, laidKinds := [.data], laidTests := true, laidLooks := .later }
def DictStepsCardSaid : Prop := Claim7.holds Tryd.pinned (.plain (OpenSpec.ofChange dictStepsSpec)) dictStepsCard

/-- THE TIED CARD OF 'placketlaw10.DictChanges'. -/
def dictChangesCard : Claim7 := { stood := { row := dictChangesRow, standIns := [], harness := (true, "7f919eaed42bd486af6feabcf83a79107a90470b9ac0b73919bba15acf7e70dc"), looks := false }, kinds := [], alts := [], laidByText := true, laidKinds := [.data], laidTests := true, laidLooks := .later }
def DictChangesCardSaid : Prop := Claim7.holds Tryd.pinned (.plain (OpenSpec.ofChange dictChangesSpec)) dictChangesCard

/-- THE TIED CARD OF 'placketlaw10.DictApplies'. -/
def dictAppliesCard : Claim7 := { stood := { row := dictAppliesRow, standIns := [], harness := (true, "7f919eaed42bd486af6feabcf83a79107a90470b9ac0b73919bba15acf7e70dc"), looks := false }, kinds := [], alts := [], laidByText := true, laidKinds := [.data], laidTests := true, laidLooks := .later }
def DictAppliesCardSaid : Prop := Claim7.holds Tryd.pinned (.plain (OpenSpec.ofChange dictAppliesSpec)) dictAppliesCard

/-- THE TIED CARD OF 'placketlaw10.DictParts'. -/
def dictPartsCard : Claim7 := { stood := { row := dictPartsRow, standIns := [], harness := (true, "7f919eaed42bd486af6feabcf83a79107a90470b9ac0b73919bba15acf7e70dc"), looks := false }, kinds := [], alts := [], laidByText := true, laidKinds := [.data], laidTests := true, laidLooks := .later }
def DictPartsCardSaid : Prop := Claim7.holds Tryd.pinned (.plain (OpenSpec.ofChange dictPartsSpec)) dictPartsCard

/-- THE TIED CARD OF 'placketlaw10.DictJoins'. -/
def dictJoinsCard : Claim7 := { stood := { row := dictJoinsRow, standIns := [], harness := (true, "7f919eaed42bd486af6feabcf83a79107a90470b9ac0b73919bba15acf7e70dc"), looks := false }, kinds := [], alts := [], laidByText := true, laidKinds := [.data], laidTests := true, laidLooks := .later }
def DictJoinsCardSaid : Prop := Claim7.holds Tryd.pinned (.plain (OpenSpec.ofChange dictJoinsSpec)) dictJoinsCard

/-- THE TIED CARD OF 'placketlaw10.DictBack'. -/
def dictBackCard : Claim7 := { stood := { row := dictBackRow, standIns := [], harness := (true, "7f919eaed42bd486af6feabcf83a79107a90470b9ac0b73919bba15acf7e70dc"), looks := false }, kinds := [], alts := [], laidByText := true, laidKinds := [.data], laidTests := true, laidLooks := .later }
def DictBackCardSaid : Prop := Claim7.holds Tryd.pinned (.plain (OpenSpec.ofChange dictBackSpec)) dictBackCard

/-- THE SECOND FORM's CARD OF 'placketlaw09.HamtShapes'. -/
def hamtShapesUptoCard : Claim7 := { stood := { row := hamtShapesUptoRow, standIns := [], harness := (true, "7f919eaed42bd486af6feabcf83a79107a90470b9ac0b73919bba15acf7e70dc"), looks := false }, kinds := [], alts := [], laidByText := true, laidKinds := [.data], laidTests := true, laidLooks := .later }
def HamtShapesUptoCardSaid : Prop := Claim7.holds Tryd.pinned (.plain (OpenSpec.upto hamtShapesSpec)) hamtShapesUptoCard

/-- THE SECOND FORM's CARD OF 'placketlaw09.HamtBranches'. -/
def hamtBranchesUptoCard : Claim7 := { stood := { row := hamtBranchesUptoRow, standIns := [], harness := (true, "7f919eaed42bd486af6feabcf83a79107a90470b9ac0b73919bba15acf7e70dc"), looks := false }, kinds := [], alts := [], laidByText := true, laidKinds := [.data], laidTests := true, laidLooks := .later }
def HamtBranchesUptoCardSaid : Prop := Claim7.holds Tryd.pinned (.plain (OpenSpec.upto hamtBranchesSpec)) hamtBranchesUptoCard

/-- THE SECOND FORM's CARD OF 'placketlaw09.HamtOneShape'. -/
def hamtOneShapeUptoCard : Claim7 := { stood := { row := hamtOneShapeUptoRow, standIns := [], harness := (true, "7f919eaed42bd486af6feabcf83a79107a90470b9ac0b73919bba15acf7e70dc"), looks := false }, kinds := [], alts := [], laidByText := true, laidKinds := [.data], laidTests := true, laidLooks := .later }
def HamtOneShapeUptoCardSaid : Prop := Claim7.holds Tryd.pinned (.plain (OpenSpec.upto hamtOneShapeSpec)) hamtOneShapeUptoCard

/-- THE SECOND FORM's CARD OF 'placketlaw09.HamtApart'. -/
def hamtApartUptoCard : Claim7 := { stood := { row := hamtApartUptoRow, standIns := [], harness := (true, "7f919eaed42bd486af6feabcf83a79107a90470b9ac0b73919bba15acf7e70dc"), looks := false }, kinds := [], alts := [], laidByText := true, laidKinds := [.data], laidTests := true, laidLooks := .later }
def HamtApartUptoCardSaid : Prop := Claim7.holds Tryd.pinned (.plain (OpenSpec.upto hamtApartSpec)) hamtApartUptoCard

/-- THE SECOND FORM's CARD OF 'placketlaw09.HamtDoes'. -/
def hamtDoesUptoCard : Claim7 := { stood := { row := hamtDoesUptoRow, standIns := [], harness := (true, "7f919eaed42bd486af6feabcf83a79107a90470b9ac0b73919bba15acf7e70dc"), looks := false }, kinds := [], alts := [], laidByText := true, laidKinds := [.data], laidTests := true, laidLooks := .later }
def HamtDoesUptoCardSaid : Prop := Claim7.holds Tryd.pinned (.plain (OpenSpec.upto hamtDoesSpec)) hamtDoesUptoCard

/-- THE SECOND FORM's CARD OF 'placketlaw09.HamtWalks'. -/
def hamtWalksUptoCard : Claim7 := { stood := { row := hamtWalksUptoRow, standIns := [], harness := (true, "7f919eaed42bd486af6feabcf83a79107a90470b9ac0b73919bba15acf7e70dc"), looks := false }, kinds := [], alts := [], laidByText := true, laidKinds := [.data], laidTests := true, laidLooks := .later }
def HamtWalksUptoCardSaid : Prop := Claim7.holds Tryd.pinned (.plain (OpenSpec.upto hamtWalksSpec)) hamtWalksUptoCard

/-- THE SECOND FORM's CARD OF 'placketlaw10.DictEnds'. -/
def dictEndsUptoCard : Claim7 := { stood := { row := dictEndsUptoRow, standIns := [], harness := (true, "7f919eaed42bd486af6feabcf83a79107a90470b9ac0b73919bba15acf7e70dc"), looks := false }, kinds := [], alts := [], laidByText := true, laidKinds := [.data], laidTests := true, laidLooks := .later }
def DictEndsUptoCardSaid : Prop := Claim7.holds Tryd.pinned (.plain (OpenSpec.upto dictEndsSpec)) dictEndsUptoCard

/-- THE SECOND FORM's CARD OF 'placketlaw10.DictAsks'. -/
def dictAsksUptoCard : Claim7 := { stood := { row := dictAsksUptoRow, standIns := [], harness := (true, "7f919eaed42bd486af6feabcf83a79107a90470b9ac0b73919bba15acf7e70dc"), looks := false }, kinds := [], alts := [], laidByText := true, laidKinds := [.data], laidTests := true, laidLooks := .later }
def DictAsksUptoCardSaid : Prop := Claim7.holds Tryd.pinned (.plain (OpenSpec.upto dictAsksSpec)) dictAsksUptoCard

/-- THE SECOND FORM's CARD OF 'placketlaw10.DictSteps'. -/
def dictStepsUptoCard : Claim7 := { stood := { row := dictStepsUptoRow, standIns := [], harness := (true, "7f919eaed42bd486af6feabcf83a79107a90470b9ac0b73919bba15acf7e70dc"), looks := false }, kinds := [], alts := [], laidByText := true, laidKinds := [.data], laidTests := true, laidLooks := .later }
def DictStepsUptoCardSaid : Prop := Claim7.holds Tryd.pinned (.plain (OpenSpec.upto dictStepsSpec)) dictStepsUptoCard

/-- THE SECOND FORM's CARD OF 'placketlaw10.DictChanges'. -/
def dictChangesUptoCard : Claim7 := { stood := { row := dictChangesUptoRow, standIns := [], harness := (true, "7f919eaed42bd486af6feabcf83a79107a90470b9ac0b73919bba15acf7e70dc"), looks := false }, kinds := [], alts := [], laidByText := true, laidKinds := [.data], laidTests := true, laidLooks := .later }
def DictChangesUptoCardSaid : Prop := Claim7.holds Tryd.pinned (.plain (OpenSpec.upto dictChangesSpec)) dictChangesUptoCard

/-- THE SECOND FORM's CARD OF 'placketlaw10.DictApplies'. -/
def dictAppliesUptoCard : Claim7 := { stood := { row := dictAppliesUptoRow, standIns := [], harness := (true, "7f919eaed42bd486af6feabcf83a79107a90470b9ac0b73919bba15acf7e70dc"), looks := false }, kinds := [], alts := [], laidByText := true, laidKinds := [.data], laidTests := true, laidLooks := .later }
def DictAppliesUptoCardSaid : Prop := Claim7.holds Tryd.pinned (.plain (OpenSpec.upto dictAppliesSpec)) dictAppliesUptoCard

/-- THE SECOND FORM's CARD OF 'placketlaw10.DictParts'. -/
def dictPartsUptoCard : Claim7 := { stood := { row := dictPartsUptoRow, standIns := [], harness := (true, "7f919eaed42bd486af6feabcf83a79107a90470b9ac0b73919bba15acf7e70dc"), looks := false }, kinds := [], alts := [], laidByText := true, laidKinds := [.data], laidTests := true, laidLooks := .later }
def DictPartsUptoCardSaid : Prop := Claim7.holds Tryd.pinned (.plain (OpenSpec.upto dictPartsSpec)) dictPartsUptoCard

/-- THE SECOND FORM's CARD OF 'placketlaw10.DictJoins'. -/
def dictJoinsUptoCard : Claim7 := { stood := { row := dictJoinsUptoRow, standIns := [], harness := (true, "7f919eaed42bd486af6feabcf83a79107a90470b9ac0b73919bba15acf7e70dc"), looks := false }, kinds := [], alts := [], laidByText := true, laidKinds := [.data], laidTests := true, laidLooks := .later }
def DictJoinsUptoCardSaid : Prop := Claim7.holds Tryd.pinned (.plain (OpenSpec.upto dictJoinsSpec)) dictJoinsUptoCard

/-- THE SECOND FORM's CARD OF 'placketlaw10.DictBack'. -/
def dictBackUptoCard : Claim7 := { stood := { row := dictBackUptoRow, standIns := [], harness := (true, "7f919eaed42bd486af6feabcf83a79107a90470b9ac0b73919bba15acf7e70dc"), looks := false }, kinds := [], alts := [], laidByText := true, laidKinds := [.data], laidTests := true, laidLooks := .later }
def DictBackUptoCardSaid : Prop := Claim7.holds Tryd.pinned (.plain (OpenSpec.upto dictBackSpec)) dictBackUptoCard
end Rows
end Go.Proofs.YtnegblckbomgdaaDoor
