/-
  DERIVED. GIVEN WITH THE SEED: THE CARDS: each row of YtehjjpbpdfnnfaaGreatDoorRows.lean that lists a variable, with what it lists TIED to the program's text (the seventh form; the later family's looks); each row that meets fmt, with fmt's text TOLD by the authors' own Lean function (tested against real Go, not proved from fmt's source: count such statements apart). THE CARD IS WHAT COUNTS. Prove the row's statement (the work); the ties are given (YtehjjpbpdfnnfaaGreatDoorTie.lean); close each card by the builder's one call (the guide's Derived/Test/ToyasCard.lean, 'card_holds'). Laid BY PROGRAM, IN A SANDBOX (cutbox-door.mjs). By AI agents, Wed Nov 11 2026. No macro, syntax, notation, axiom, sorry.
-/
import Derived.Test.YtehjjpbpdfnnfaaGreatDoorRows
import GoSem.ClaimSeven
namespace Go.Proofs.YtehjjpbpdfnnfaaGreatDoor
namespace Rows

/-- THE TIED CARD OF 'spoondriftlaw14.StabVectors'. -/
def stabVectorsCard : Claim7 := { stood := { row := stabVectorsRow, standIns := [], harness := (true, "8b097af312537285be51cb7f5f4f0726b8661743bb377639627160fb316d0ecd"), looks := false }, kinds := [], alts := [], laidByText := true, laidKinds := [.data, .data], laidTests := true, laidLooks := .later }
def StabVectorsCardSaid : Prop := Claim7.holds Tryz.pinned (.plain (OpenSpec.ofChange stabVectorsSpec)) stabVectorsCard

/-- THE TIED CARD OF 'spoondriftlaw14.StabChecks'. -/
def stabChecksCard : Claim7 := { stood := { row := stabChecksRow, standIns := [], harness := (true, "8b097af312537285be51cb7f5f4f0726b8661743bb377639627160fb316d0ecd"), looks := false }, kinds := [], alts := [], laidByText := true, laidKinds := [.data, .data], laidTests := true, laidLooks := .later }
def StabChecksCardSaid : Prop := Claim7.holds Tryz.pinned (.plain (OpenSpec.ofChange stabChecksSpec)) stabChecksCard

/-- THE TIED CARD OF 'spoondriftlaw14.StabGates'. -/
def stabGatesCard : Claim7 := { stood := { row := stabGatesRow, standIns := [], harness := (true, "8b097af312537285be51cb7f5f4f0726b8661743bb377639627160fb316d0ecd"), looks := false }, kinds := [], alts := [], laidByText := true, laidKinds := [.data, .data], laidTests := true, laidLooks := .later }
def StabGatesCardSaid : Prop := Claim7.holds Tryz.pinned (.plain (OpenSpec.ofChange stabGatesSpec)) stabGatesCard

/-- THE TIED CARD OF 'spoondriftlaw14.StabMeasures'. -/
def stabMeasuresCard : Claim7 := { stood := { row := stabMeasuresRow, standIns := [], harness := (true, "8b097af312537285be51cb7f5f4f0726b8661743bb377639627160fb316d0ecd"), looks := false }, kinds := [], alts := [], laidByText := true, laidKinds := [.data, .data], laidTests := true, laidLooks := .later }
def StabMeasuresCardSaid : Prop := Claim7.holds Tryz.pinned (.plain (OpenSpec.ofChange stabMeasuresSpec)) stabMeasuresCard

/-- THE TIED CARD OF 'spoondriftlaw14.StabSmall'. -/
def stabSmallCard : Claim7 := { stood := { row := stabSmallRow, standIns := [], harness := (true, "8b097af312537285be51cb7f5f4f0726b8661743bb377639627160fb316d0ecd"), looks := false }, kinds := [], alts := [], laidByText := true, laidKinds := [.data, .data], laidTests := true, laidLooks := .later }
def StabSmallCardSaid : Prop := Claim7.holds Tryz.pinned (.plain (OpenSpec.ofChange stabSmallSpec)) stabSmallCard

/-- THE TIED CARD OF 'spoondriftlaw14.StabLooked'. -/
def stabLookedCard : Claim7 := { stood := { row := stabLookedRow, standIns := [], harness := (true, "8b097af312537285be51cb7f5f4f0726b8661743bb377639627160fb316d0ecd"), looks := false }, kinds := [], alts := [], laidByText := true, laidKinds := [.data, .data, .widerDeep], laidTests := true, laidLooks := .later }
def StabLookedCardSaid : Prop := Claim7.holds Tryz.pinned (.plain (OpenSpec.ofChange stabLookedSpec)) stabLookedCard

/-- THE TIED CARD OF 'spoondriftlaw14.StabEntropy'. -/
def stabEntropyCard : Claim7 := { stood := { row := stabEntropyRow, standIns := [], harness := (true, "8b097af312537285be51cb7f5f4f0726b8661743bb377639627160fb316d0ecd"), looks := false }, kinds := [], alts := [], laidByText := true, laidKinds := [.data, .data, .widerDeep], laidTests := true, laidLooks := .later }
def StabEntropyCardSaid : Prop := Claim7.holds Tryz.pinned (.plain (OpenSpec.ofChange stabEntropySpec)) stabEntropyCard

/-- THE TIED CARD OF 'spoondriftlaw14.StabExpected'. -/
def stabExpectedCard : Claim7 := { stood := { row := stabExpectedRow, standIns := [], harness := (true, "8b097af312537285be51cb7f5f4f0726b8661743bb377639627160fb316d0ecd"), looks := false }, kinds := [], alts := [], laidByText := true, laidKinds := [.data, .data, .widerDeep], laidTests := true, laidLooks := .later }
def StabExpectedCardSaid : Prop := Claim7.holds Tryz.pinned (.plain (OpenSpec.ofChange stabExpectedSpec)) stabExpectedCard

/-- THE TIED CARD OF 'spoondriftlaw14.StabCanon'. -/
def stabCanonCard : Claim7 := { stood := { row := stabCanonRow, standIns := [], harness := (true, "8b097af312537285be51cb7f5f4f0726b8661743bb377639627160fb316d0ecd"), looks := false }, kinds := [], alts := [], laidByText := true, laidKinds := [.data, .data, .widerDeep], laidTests := true, laidLooks := .later }
def StabCanonCardSaid : Prop := Claim7.holds Tryz.pinned (.plain (OpenSpec.ofChange stabCanonSpec)) stabCanonCard

/-- THE TIED CARD OF 'spoondriftlaw14.StabOverlapped'. -/
def stabOverlappedCard : Claim7 := { stood := { row := stabOverlappedRow, standIns := [], harness := (true, "8b097af312537285be51cb7f5f4f0726b8661743bb377639627160fb316d0ecd"), looks := false }, kinds := [], alts := [], laidByText := true, laidKinds := [.data, .data, .widerDeep], laidTests := true, laidLooks := .later }
def StabOverlappedCardSaid : Prop := Claim7.holds Tryz.pinned (.plain (OpenSpec.ofChange stabOverlappedSpec)) stabOverlappedCard

/-- THE TIED CARD OF 'spoondriftlaw14.StabAmplitudes'. -/
def stabAmplitudesCard : Claim7 := { stood := { row := stabAmplitudesRow, standIns := [], harness := (true, "8b097af312537285be51cb7f5f4f0726b8661743bb377639627160fb316d0ecd"), looks := false }, kinds := [], alts := [], laidByText := true, laidKinds := [.data, .data, .widerDeep], laidTests := true, laidLooks := .later }
def StabAmplitudesCardSaid : Prop := Claim7.holds Tryz.pinned (.plain (OpenSpec.ofChange stabAmplitudesSpec)) stabAmplitudesCard

/-- THE TIED CARD OF 'spoondriftlaw14.StabMeant'. -/
def stabMeantCard : Claim7 := { stood := { row := stabMeantRow, standIns := [], harness := (true, "8b097af312537285be51cb7f5f4f0726b8661743bb377639627160fb316d0ecd"), looks := false }, kinds := [], alts := [], laidByText := true, laidKinds := [.data, .data, .widerDeep], laidTests := true, laidLooks := .later }
def StabMeantCardSaid : Prop := Claim7.holds Tryz.pinned (.plain (OpenSpec.ofChange stabMeantSpec)) stabMeantCard

/-- THE SECOND FORM's CARD OF 'spoondriftlaw14.StabVectors'. -/
def stabVectorsUptoCard : Claim7 := { stood := { row := stabVectorsUptoRow, standIns := [], harness := (true, "8b097af312537285be51cb7f5f4f0726b8661743bb377639627160fb316d0ecd"), looks := false }, kinds := [], alts := [], laidByText := true, laidKinds := [.data, .data], laidTests := true, laidLooks := .later }
def StabVectorsUptoCardSaid : Prop := Claim7.holds Tryz.pinned (.plain (OpenSpec.upto stabVectorsSpec)) stabVectorsUptoCard

/-- THE SECOND FORM's CARD OF 'spoondriftlaw14.StabChecks'. -/
def stabChecksUptoCard : Claim7 := { stood := { row := stabChecksUptoRow, standIns := [], harness := (true, "8b097af312537285be51cb7f5f4f0726b8661743bb377639627160fb316d0ecd"), looks := false }, kinds := [], alts := [], laidByText := true, laidKinds := [.data, .data], laidTests := true, laidLooks := .later }
def StabChecksUptoCardSaid : Prop := Claim7.holds Tryz.pinned (.plain (OpenSpec.upto stabChecksSpec)) stabChecksUptoCard

/-- THE SECOND FORM's CARD OF 'spoondriftlaw14.StabGates'. -/
def stabGatesUptoCard : Claim7 := { stood := { row := stabGatesUptoRow, standIns := [], harness := (true, "8b097af312537285be51cb7f5f4f0726b8661743bb377639627160fb316d0ecd"), looks := false }, kinds := [], alts := [], laidByText := true, laidKinds := [.data, .data], laidTests := true, laidLooks := .later }
def StabGatesUptoCardSaid : Prop := Claim7.holds Tryz.pinned (.plain (OpenSpec.upto stabGatesSpec)) stabGatesUptoCard

/-- THE SECOND FORM's CARD OF 'spoondriftlaw14.StabMeasures'. -/
def stabMeasuresUptoCard : Claim7 := { stood := { row := stabMeasuresUptoRow, standIns := [], harness := (true, "8b097af312537285be51cb7f5f4f0726b8661743bb377639627160fb316d0ecd"), looks := false }, kinds := [], alts := [], laidByText := true, laidKinds := [.data, .data], laidTests := true, laidLooks := .later }
def StabMeasuresUptoCardSaid : Prop := Claim7.holds Tryz.pinned (.plain (OpenSpec.upto stabMeasuresSpec)) stabMeasuresUptoCard

/-- THE SECOND FORM's CARD OF 'spoondriftlaw14.StabSmall'. -/
def stabSmallUptoCard : Claim7 := { stood := { row := stabSmallUptoRow, standIns := [], harness := (true, "8b097af312537285be51cb7f5f4f0726b8661743bb377639627160fb316d0ecd"), looks := false }, kinds := [], alts := [], laidByText := true, laidKinds := [.data, .data], laidTests := true, laidLooks := .later }
def StabSmallUptoCardSaid : Prop := Claim7.holds Tryz.pinned (.plain (OpenSpec.upto stabSmallSpec)) stabSmallUptoCard

/-- THE SECOND FORM's CARD OF 'spoondriftlaw14.StabLooked'. -/
def stabLookedUptoCard : Claim7 := { stood := { row := stabLookedUptoRow, standIns := [], harness := (true, "8b097af312537285be51cb7f5f4f0726b8661743bb377639627160fb316d0ecd"), looks := false }, kinds := [], alts := [], laidByText := true, laidKinds := [.data, .data, .widerDeep], laidTests := true, laidLooks := .later }
def StabLookedUptoCardSaid : Prop := Claim7.holds Tryz.pinned (.plain (OpenSpec.upto stabLookedSpec)) stabLookedUptoCard

/-- THE SECOND FORM's CARD OF 'spoondriftlaw14.StabEntropy'. -/
def stabEntropyUptoCard : Claim7 := { stood := { row := stabEntropyUptoRow, standIns := [], harness := (true, "8b097af312537285be51cb7f5f4f0726b8661743bb377639627160fb316d0ecd"), looks := false }, kinds := [], alts := [], laidByText := true, laidKinds := [.data, .data, .widerDeep], laidTests := true, laidLooks := .later }
def StabEntropyUptoCardSaid : Prop := Claim7.holds Tryz.pinned (.plain (OpenSpec.upto stabEntropySpec)) stabEntropyUptoCard

/-- THE SECOND FORM's CARD OF 'spoondriftlaw14.StabExpected'. -/
def stabExpectedUptoCard : Claim7 := { stood := { row := stabExpectedUptoRow, standIns := [], harness := (true, "8b097af312537285be51cb7f5f4f0726b8661743bb377639627160fb316d0ecd"), looks := false }, kinds := [], alts := [], laidByText := true, laidKinds := [.data, .data, .widerDeep], laidTests := true, laidLooks := .later }
def StabExpectedUptoCardSaid : Prop := Claim7.holds Tryz.pinned (.plain (OpenSpec.upto stabExpectedSpec)) stabExpectedUptoCard

/-- THE SECOND FORM's CARD OF 'spoondriftlaw14.StabCanon'. -/
def stabCanonUptoCard : Claim7 := { stood := { row := stabCanonUptoRow, standIns := [], harness := (true, "8b097af312537285be51cb7f5f4f0726b8661743bb377639627160fb316d0ecd"), looks := false }, kinds := [], alts := [], laidByText := true, laidKinds := [.data, .data, .widerDeep], laidTests := true, laidLooks := .later }
def StabCanonUptoCardSaid : Prop := Claim7.holds Tryz.pinned (.plain (OpenSpec.upto stabCanonSpec)) stabCanonUptoCard

/-- THE SECOND FORM's CARD OF 'spoondriftlaw14.StabOverlapped'. -/
def stabOverlappedUptoCard : Claim7 := { stood := { row := stabOverlappedUptoRow, standIns := [], harness := (true, "8b097af312537285be51cb7f5f4f0726b8661743bb377639627160fb316d0ecd"), looks := false }, kinds := [], alts := [], laidByText := true, laidKinds := [.data, .data, .widerDeep], laidTests := true, laidLooks := .later }
def StabOverlappedUptoCardSaid : Prop := Claim7.holds Tryz.pinned (.plain (OpenSpec.upto stabOverlappedSpec)) stabOverlappedUptoCard

/-- THE SECOND FORM's CARD OF 'spoondriftlaw14.StabAmplitudes'. -/
def stabAmplitudesUptoCard : Claim7 := { stood := { row := stabAmplitudesUptoRow, standIns := [], harness := (true, "8b097af312537285be51cb7f5f4f0726b8661743bb377639627160fb316d0ecd"), looks := false }, kinds := [], alts := [], laidByText := true, laidKinds := [.data, .data, .widerDeep], laidTests := true, laidLooks := .later }
def StabAmplitudesUptoCardSaid : Prop := Claim7.holds Tryz.pinned (.plain (OpenSpec.upto stabAmplitudesSpec)) stabAmplitudesUptoCard

/-- THE SECOND FORM's CARD OF 'spoondriftlaw14.StabMeant'. -/
def stabMeantUptoCard : Claim7 := { stood := { row := stabMeantUptoRow, standIns := [], harness := (true, "8b097af312537285be51cb7f5f4f0726b8661743bb377639627160fb316d0ecd"), looks := false }, kinds := [], alts := [], laidByText := true, laidKinds := [.data, .data, .widerDeep], laidTests := true, laidLooks := .later }
def StabMeantUptoCardSaid : Prop := Claim7.holds Tryz.pinned (.plain (OpenSpec.upto stabMeantSpec)) stabMeantUptoCard
end Rows
end Go.Proofs.YtehjjpbpdfnnfaaGreatDoor
