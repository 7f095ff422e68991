/-
  DERIVED. GIVEN WITH THE SEED: THE CARDS: each row of YtghpmhllpaheiaaGreatDoorRows.lean that lists a variable, with what it lists TIED to the program's text (the seventh form; the later family's looks); each row that meets fmt, with fmt's text TOLD by the authors' own Lean function (tested against real Go, not proved from fmt's source: count such statements apart). THE CARD IS WHAT COUNTS. Prove the row's statement (the work); the ties are given (YtghpmhllpaheiaaGreatDoorTie.lean); close each card by the builder's one call (the guide's Derived/Test/ToyasCard.lean, 'card_holds'). Laid BY PROGRAM, IN A SANDBOX (cutbox-door.mjs). By AI agents, Wed Nov 11 2026. No macro, syntax, notation, axiom, sorry.
-/
import Derived.Test.YtghpmhllpaheiaaGreatDoorRows
import GoSem.ClaimSeven
namespace Go.Proofs.YtghpmhllpaheiaaGreatDoor
namespace Rows

/-- THE TIED CARD OF 'scangenkeep.Whole'. -/
def wholeCard : Claim7 := { stood := { row := wholeRow, standIns := [], harness := (true, "13eefb602a2c9b5faf5cbe1105abeef553203ecfc98c01744871ae1b4de7dc2c"), looks := true }, kinds := [], alts := [], laidByText := true, laidKinds := [.data, .handle, .widerDeep, .pinned], laidTests := true, laidLooks := .later }
def WholeCardSaid : Prop := Claim7.holds Tryz.pinned (.plain (OpenSpec.ofChange wholeSpec)) wholeCard

/-- THE TIED CARD OF 'scangenkeep.Back'. -/
def backCard : Claim7 := { stood := { row := backRow, standIns := [], harness := (true, "13eefb602a2c9b5faf5cbe1105abeef553203ecfc98c01744871ae1b4de7dc2c"), looks := true }, kinds := [], alts := [], laidByText := true, laidKinds := [.data, .handle, .widerDeep, .pinned], laidTests := true, laidLooks := .later }
def BackCardSaid : Prop := Claim7.holds Tryz.pinned (.plain (OpenSpec.ofChange backSpec)) backCard

/-- THE TIED CARD OF 'scangenkeep.Pieces'. -/
def piecesCard : Claim7 := { stood := { row := piecesRow, standIns := [], harness := (true, "13eefb602a2c9b5faf5cbe1105abeef553203ecfc98c01744871ae1b4de7dc2c"), looks := true }, kinds := [], alts := [], laidByText := true, laidKinds := [.data, .handle, .widerDeep, .pinned], laidTests := true, laidLooks := .later }
def PiecesCardSaid : Prop := Claim7.holds Tryz.pinned (.plain (OpenSpec.ofChange piecesSpec)) piecesCard

/-- THE TIED CARD OF 'scangenkeep.Letters'. -/
def lettersCard : Claim7 := { stood := { row := lettersRow, standIns := [], harness := (true, "13eefb602a2c9b5faf5cbe1105abeef553203ecfc98c01744871ae1b4de7dc2c"), looks := true }, kinds := [], alts := [], laidByText := true, laidKinds := [.data, .handle, .widerDeep, .pinned], laidTests := true, laidLooks := .later }
def LettersCardSaid : Prop := Claim7.holds Tryz.pinned (.plain (OpenSpec.ofChange lettersSpec)) lettersCard

/-- THE TIED CARD OF 'scangenkeep.Cut'. -/
def cutCard : Claim7 := { stood := { row := cutRow, standIns := [], harness := (true, "13eefb602a2c9b5faf5cbe1105abeef553203ecfc98c01744871ae1b4de7dc2c"), looks := true }, kinds := [], alts := [], laidByText := true, laidKinds := [.data, .handle, .widerDeep, .pinned], laidTests := true, laidLooks := .later }
def CutCardSaid : Prop := Claim7.holds Tryz.pinned (.plain (OpenSpec.ofChange cutSpec)) cutCard

/-- THE TIED CARD OF 'scangenkeep.Near'. -/
def nearCard : Claim7 := { stood := { row := nearRow, standIns := [], harness := (true, "13eefb602a2c9b5faf5cbe1105abeef553203ecfc98c01744871ae1b4de7dc2c"), looks := true }, kinds := [], alts := [], laidByText := true, laidKinds := [.data, .handle, .widerDeep, .pinned], laidTests := true, laidLooks := .later }
def NearCardSaid : Prop := Claim7.holds Tryz.pinned (.plain (OpenSpec.ofChange nearSpec)) nearCard

/-- THE TIED CARD OF 'scangenlaw.Compiles'. -/
def compilesCard : Claim7 := { stood := { row := compilesRow, standIns := [], harness := (true, "13eefb602a2c9b5faf5cbe1105abeef553203ecfc98c01744871ae1b4de7dc2c"), looks := true }, kinds := [], alts := [], laidByText := true, laidKinds := [.data, .handle, .widerDeep, .pinned], laidTests := true, laidLooks := .later }
def CompilesCardSaid : Prop := Claim7.holds Tryz.pinned (.plain (OpenSpec.ofChange compilesSpec)) compilesCard

/-- THE TIED CARD OF 'scangenlaw.Bounds'. -/
def boundsCard : Claim7 := { stood := { row := boundsRow, standIns := [], harness := (true, "13eefb602a2c9b5faf5cbe1105abeef553203ecfc98c01744871ae1b4de7dc2c"), looks := true }, kinds := [], alts := [], laidByText := true, laidKinds := [.data, .handle, .widerDeep, .pinned], laidTests := true, laidLooks := .later }
def BoundsCardSaid : Prop := Claim7.holds Tryz.pinned (.plain (OpenSpec.ofChange boundsSpec)) boundsCard

/-- THE TIED CARD OF 'scangenlaw.Scans'. -/
def scansCard : Claim7 := { stood := { row := scansRow, standIns := [], harness := (true, "13eefb602a2c9b5faf5cbe1105abeef553203ecfc98c01744871ae1b4de7dc2c"), looks := true }, kinds := [], alts := [], laidByText := true, laidKinds := [.data, .handle, .widerDeep, .pinned], laidTests := true, laidLooks := .later }
def ScansCardSaid : Prop := Claim7.holds Tryz.pinned (.plain (OpenSpec.ofChange scansSpec)) scansCard

/-- THE SECOND FORM's CARD OF 'scangenkeep.Whole'. -/
def wholeUptoCard : Claim7 := { stood := { row := wholeUptoRow, standIns := [], harness := (true, "13eefb602a2c9b5faf5cbe1105abeef553203ecfc98c01744871ae1b4de7dc2c"), looks := true }, kinds := [], alts := [], laidByText := true, laidKinds := [.data, .handle, .widerDeep, .pinned], laidTests := true, laidLooks := .later }
def WholeUptoCardSaid : Prop := Claim7.holds Tryz.pinned (.plain (OpenSpec.upto wholeSpec)) wholeUptoCard

/-- THE SECOND FORM's CARD OF 'scangenkeep.Back'. -/
def backUptoCard : Claim7 := { stood := { row := backUptoRow, standIns := [], harness := (true, "13eefb602a2c9b5faf5cbe1105abeef553203ecfc98c01744871ae1b4de7dc2c"), looks := true }, kinds := [], alts := [], laidByText := true, laidKinds := [.data, .handle, .widerDeep, .pinned], laidTests := true, laidLooks := .later }
def BackUptoCardSaid : Prop := Claim7.holds Tryz.pinned (.plain (OpenSpec.upto backSpec)) backUptoCard

/-- THE SECOND FORM's CARD OF 'scangenkeep.Pieces'. -/
def piecesUptoCard : Claim7 := { stood := { row := piecesUptoRow, standIns := [], harness := (true, "13eefb602a2c9b5faf5cbe1105abeef553203ecfc98c01744871ae1b4de7dc2c"), looks := true }, kinds := [], alts := [], laidByText := true, laidKinds := [.data, .handle, .widerDeep, .pinned], laidTests := true, laidLooks := .later }
def PiecesUptoCardSaid : Prop := Claim7.holds Tryz.pinned (.plain (OpenSpec.upto piecesSpec)) piecesUptoCard

/-- THE SECOND FORM's CARD OF 'scangenkeep.Letters'. -/
def lettersUptoCard : Claim7 := { stood := { row := lettersUptoRow, standIns := [], harness := (true, "13eefb602a2c9b5faf5cbe1105abeef553203ecfc98c01744871ae1b4de7dc2c"), looks := true }, kinds := [], alts := [], laidByText := true, laidKinds := [.data, .handle, .widerDeep, .pinned], laidTests := true, laidLooks := .later }
def LettersUptoCardSaid : Prop := Claim7.holds Tryz.pinned (.plain (OpenSpec.upto lettersSpec)) lettersUptoCard

/-- THE SECOND FORM's CARD OF 'scangenkeep.Cut'. -/
def cutUptoCard : Claim7 := { stood := { row := cutUptoRow, standIns := [], harness := (true, "13eefb602a2c9b5faf5cbe1105abeef553203ecfc98c01744871ae1b4de7dc2c"), looks := true }, kinds := [], alts := [], laidByText := true, laidKinds := [.data, .handle, .widerDeep, .pinned], laidTests := true, laidLooks := .later }
def CutUptoCardSaid : Prop := Claim7.holds Tryz.pinned (.plain (OpenSpec.upto cutSpec)) cutUptoCard

/-- THE SECOND FORM's CARD OF 'scangenkeep.Near'. -/
def nearUptoCard : Claim7 := { stood := { row := nearUptoRow, standIns := [], harness := (true, "13eefb602a2c9b5faf5cbe1105abeef553203ecfc98c01744871ae1b4de7dc2c"), looks := true }, kinds := [], alts := [], laidByText := true, laidKinds := [.data, .handle, .widerDeep, .pinned], laidTests := true, laidLooks := .later }
def NearUptoCardSaid : Prop := Claim7.holds Tryz.pinned (.plain (OpenSpec.upto nearSpec)) nearUptoCard

/-- THE SECOND FORM's CARD OF 'scangenlaw.Compiles'. -/
def compilesUptoCard : Claim7 := { stood := { row := compilesUptoRow, standIns := [], harness := (true, "13eefb602a2c9b5faf5cbe1105abeef553203ecfc98c01744871ae1b4de7dc2c"), looks := true }, kinds := [], alts := [], laidByText := true, laidKinds := [.data, .handle, .widerDeep, .pinned], laidTests := true, laidLooks := .later }
def CompilesUptoCardSaid : Prop := Claim7.holds Tryz.pinned (.plain (OpenSpec.upto compilesSpec)) compilesUptoCard

/-- THE SECOND FORM's CARD OF 'scangenlaw.Bounds'. -/
def boundsUptoCard : Claim7 := { stood := { row := boundsUptoRow, standIns := [], harness := (true, "13eefb602a2c9b5faf5cbe1105abeef553203ecfc98c01744871ae1b4de7dc2c"), looks := true }, kinds := [], alts := [], laidByText := true, laidKinds := [.data, .handle, .widerDeep, .pinned], laidTests := true, laidLooks := .later }
def BoundsUptoCardSaid : Prop := Claim7.holds Tryz.pinned (.plain (OpenSpec.upto boundsSpec)) boundsUptoCard

/-- THE SECOND FORM's CARD OF 'scangenlaw.Scans'. -/
def scansUptoCard : Claim7 := { stood := { row := scansUptoRow, standIns := [], harness := (true, "13eefb602a2c9b5faf5cbe1105abeef553203ecfc98c01744871ae1b4de7dc2c"), looks := true }, kinds := [], alts := [], laidByText := true, laidKinds := [.data, .handle, .widerDeep, .pinned], laidTests := true, laidLooks := .later }
def ScansUptoCardSaid : Prop := Claim7.holds Tryz.pinned (.plain (OpenSpec.upto scansSpec)) scansUptoCard
end Rows
end Go.Proofs.YtghpmhllpaheiaaGreatDoor
