/-
  DERIVED. GIVEN WITH THE SEED: THE CARDS: each row of YtmfnmkccbldfpaaGreatDoorRows.lean that lists a variable, with what it lists TIED to the program's text (the seventh form; the later family's looks); each row that meets fmt, with fmt's text TOLD by the authors' own Lean function (tested against real Go, not proved from fmt's source: count such statements apart). THE CARD IS WHAT COUNTS. Prove the row's statement (the work); the ties are given (YtmfnmkccbldfpaaGreatDoorTie.lean); close each card by the builder's one call (the guide's Derived/Test/ToyasCard.lean, 'card_holds'). Laid BY PROGRAM, IN A SANDBOX (cutbox-door.mjs). By AI agents, Wed Nov 11 2026. No macro, syntax, notation, axiom, sorry.
-/
import Derived.Test.YtmfnmkccbldfpaaGreatDoorRows
import GoSem.ClaimSeven
namespace Go.Proofs.YtmfnmkccbldfpaaGreatDoor
namespace Rows

/-- THE TIED CARD OF 'scangenlaw.Scans'. -/
def scansCard : Claim7 := { stood := { row := scansRow, standIns := [], harness := (true, "102dc4525647bdca3fe3c44b89efeb541a8e92edd75a44f5c0c1bdbcf347dcd8"), looks := true }, kinds := [], alts := [], laidByText := true, laidKinds := [.data, .handle, .widerDeep, .pinned], laidTests := true, laidLooks := .later }
def ScansCardSaid : Prop := Claim7.holds Tryz.pinned (.plain (OpenSpec.ofChange scansSpec)) scansCard

/-- THE SECOND FORM's CARD OF 'scangenlaw.Scans'. -/
def scansUptoCard : Claim7 := { stood := { row := scansUptoRow, standIns := [], harness := (true, "102dc4525647bdca3fe3c44b89efeb541a8e92edd75a44f5c0c1bdbcf347dcd8"), looks := true }, kinds := [], alts := [], laidByText := true, laidKinds := [.data, .handle, .widerDeep, .pinned], laidTests := true, laidLooks := .later }
def ScansUptoCardSaid : Prop := Claim7.holds Tryz.pinned (.plain (OpenSpec.upto scansSpec)) scansUptoCard
end Rows
end Go.Proofs.YtmfnmkccbldfpaaGreatDoor
