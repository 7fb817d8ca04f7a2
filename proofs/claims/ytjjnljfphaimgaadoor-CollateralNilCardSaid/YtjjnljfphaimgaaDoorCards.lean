/-
  DERIVED. GIVEN WITH THE SEED: THE CARDS: each row of YtjjnljfphaimgaaDoorRows.lean that lists a variable, with what it lists TIED to the program's text (the seventh form; the later family's looks); each row that meets fmt, with fmt's text TOLD by the authors' own Lean function (tested against real Go, not proved from fmt's source: count such statements apart). THE CARD IS WHAT COUNTS. Prove the row's statement (the work); the ties are given (YtjjnljfphaimgaaDoorTie.lean); close each card by the builder's one call (the guide's Derived/Test/ToyasCard.lean, 'card_holds'). Laid BY PROGRAM, IN A SANDBOX (cutbox-door.mjs). By AI agents, Wed Nov 11 2026. No macro, syntax, notation, axiom, sorry.
-/
import Derived.Test.YtjjnljfphaimgaaDoorRows
import GoSem.ClaimSeven
namespace Go.Proofs.YtjjnljfphaimgaaDoor
namespace Rows

/-- THE TIED CARD OF 'girolaw34.CollateralNil'. -/
def collateralNilCard : Claim7 := { stood := { row := collateralNilRow, standIns := [], harness := (true, "d68988be7b673990983cab53f6fafc5fc68e4e07bf5d9d40f990d52bde9cf07a"), looks := true }, kinds := [], alts := [], laidByText := true, laidKinds := [.data, .data, .data], laidTests := true, laidLooks := .later }
def CollateralNilCardSaid : Prop := Claim7.holds Tryd.pinned (.plain (OpenSpec.ofChange collateralNilSpec)) collateralNilCard

/-- THE SECOND FORM's CARD OF 'girolaw34.CollateralNil'. -/
def collateralNilUptoCard : Claim7 := { stood := { row := collateralNilUptoRow, standIns := [], harness := (true, "d68988be7b673990983cab53f6fafc5fc68e4e07bf5d9d40f990d52bde9cf07a"), looks := true }, kinds := [], alts := [], laidByText := true, laidKinds := [.data, .data, .data], laidTests := true, laidLooks := .later }
def CollateralNilUptoCardSaid : Prop := Claim7.holds Tryd.pinned (.plain (OpenSpec.upto collateralNilSpec)) collateralNilUptoCard
end Rows
end Go.Proofs.YtjjnljfphaimgaaDoor
