/-
  DERIVED. GIVEN WITH THE SEED: THE CARDS: each row of YtjjnljfphaimgaaGreatDoorRows.lean that lists a variable, with what it lists TIED to the program's text (the seventh form; the later family's looks); each row that meets fmt, with fmt's text TOLD by the authors' own Lean function (tested against real Go, not proved from fmt's source: count such statements apart). THE CARD IS WHAT COUNTS. Prove the row's statement (the work); the ties are given (YtjjnljfphaimgaaGreatDoorTie.lean); close each card by the builder's one call (the guide's Derived/Test/ToyasCard.lean, 'card_holds'). Laid BY PROGRAM, IN A SANDBOX (cutbox-door.mjs). By AI agents, Wed Nov 11 2026. No macro, syntax, notation, axiom, sorry.
-/
import Derived.Test.YtjjnljfphaimgaaGreatDoorRows
import GoSem.ClaimSeven
namespace Go.Proofs.YtjjnljfphaimgaaGreatDoor
namespace Rows

/-- THE TIED CARD OF 'girolaw34.CollateralOperations'. -/
def collateralOperationsCard : Claim7 := { stood := { row := collateralOperationsRow, standIns := [], harness := (true, "805dcd3d1c677e86a92bb550ee73a9ed7288c7ea8f75e80da612b426eb39ea3c"), looks := true }, kinds := [], alts := [], laidByText := true, laidKinds := [.data, .data, .data], laidTests := true, laidLooks := .later }
def CollateralOperationsCardSaid : Prop := Claim7.holds Tryz.pinned (.plain (OpenSpec.ofChange collateralOperationsSpec)) collateralOperationsCard

/-- THE TIED CARD OF 'girolaw34.CollateralMaxRelease'. -/
def collateralMaxReleaseCard : Claim7 := { stood := { row := collateralMaxReleaseRow, standIns := [], harness := (true, "805dcd3d1c677e86a92bb550ee73a9ed7288c7ea8f75e80da612b426eb39ea3c"), looks := true }, kinds := [], alts := [], laidByText := true, laidKinds := [.data, .data, .data], laidTests := true, laidLooks := .later }
def CollateralMaxReleaseCardSaid : Prop := Claim7.holds Tryz.pinned (.plain (OpenSpec.ofChange collateralMaxReleaseSpec)) collateralMaxReleaseCard

/-- THE TIED CARD OF 'girolaw34.CollateralCover'. -/
def collateralCoverCard : Claim7 := { stood := { row := collateralCoverRow, standIns := [], harness := (true, "805dcd3d1c677e86a92bb550ee73a9ed7288c7ea8f75e80da612b426eb39ea3c"), looks := true }, kinds := [], alts := [], laidByText := true, laidKinds := [.data, .data, .data], laidTests := true, laidLooks := .later }
def CollateralCoverCardSaid : Prop := Claim7.holds Tryz.pinned (.plain (OpenSpec.ofChange collateralCoverSpec)) collateralCoverCard

/-- THE TIED CARD OF 'girolaw34.CollateralOrder'. -/
def collateralOrderCard : Claim7 := { stood := { row := collateralOrderRow, standIns := [], harness := (true, "805dcd3d1c677e86a92bb550ee73a9ed7288c7ea8f75e80da612b426eb39ea3c"), looks := true }, kinds := [], alts := [], laidByText := true, laidKinds := [.data, .data, .data], laidTests := true, laidLooks := .later }
def CollateralOrderCardSaid : Prop := Claim7.holds Tryz.pinned (.plain (OpenSpec.ofChange collateralOrderSpec)) collateralOrderCard

/-- THE TIED CARD OF 'girolaw34.CollateralSubstitute'. -/
def collateralSubstituteCard : Claim7 := { stood := { row := collateralSubstituteRow, standIns := [], harness := (true, "805dcd3d1c677e86a92bb550ee73a9ed7288c7ea8f75e80da612b426eb39ea3c"), looks := true }, kinds := [], alts := [], laidByText := true, laidKinds := [.data, .data, .data], laidTests := true, laidLooks := .later }
def CollateralSubstituteCardSaid : Prop := Claim7.holds Tryz.pinned (.plain (OpenSpec.ofChange collateralSubstituteSpec)) collateralSubstituteCard

/-- THE TIED CARD OF 'girolaw34.CollateralRevalue'. -/
def collateralRevalueCard : Claim7 := { stood := { row := collateralRevalueRow, standIns := [], harness := (true, "805dcd3d1c677e86a92bb550ee73a9ed7288c7ea8f75e80da612b426eb39ea3c"), looks := true }, kinds := [], alts := [], laidByText := true, laidKinds := [.data, .data, .data], laidTests := true, laidLooks := .later }
def CollateralRevalueCardSaid : Prop := Claim7.holds Tryz.pinned (.plain (OpenSpec.ofChange collateralRevalueSpec)) collateralRevalueCard

/-- THE TIED CARD OF 'girolaw34.CollateralClones'. -/
def collateralClonesCard : Claim7 := { stood := { row := collateralClonesRow, standIns := [], harness := (true, "805dcd3d1c677e86a92bb550ee73a9ed7288c7ea8f75e80da612b426eb39ea3c"), looks := true }, kinds := [], alts := [], laidByText := true, laidKinds := [.data, .data, .data], laidTests := true, laidLooks := .later }
def CollateralClonesCardSaid : Prop := Claim7.holds Tryz.pinned (.plain (OpenSpec.ofChange collateralClonesSpec)) collateralClonesCard

/-- THE SECOND FORM's CARD OF 'girolaw34.CollateralOperations'. -/
def collateralOperationsUptoCard : Claim7 := { stood := { row := collateralOperationsUptoRow, standIns := [], harness := (true, "805dcd3d1c677e86a92bb550ee73a9ed7288c7ea8f75e80da612b426eb39ea3c"), looks := true }, kinds := [], alts := [], laidByText := true, laidKinds := [.data, .data, .data], laidTests := true, laidLooks := .later }
def CollateralOperationsUptoCardSaid : Prop := Claim7.holds Tryz.pinned (.plain (OpenSpec.upto collateralOperationsSpec)) collateralOperationsUptoCard

/-- THE SECOND FORM's CARD OF 'girolaw34.CollateralMaxRelease'. -/
def collateralMaxReleaseUptoCard : Claim7 := { stood := { row := collateralMaxReleaseUptoRow, standIns := [], harness := (true, "805dcd3d1c677e86a92bb550ee73a9ed7288c7ea8f75e80da612b426eb39ea3c"), looks := true }, kinds := [], alts := [], laidByText := true, laidKinds := [.data, .data, .data], laidTests := true, laidLooks := .later }
def CollateralMaxReleaseUptoCardSaid : Prop := Claim7.holds Tryz.pinned (.plain (OpenSpec.upto collateralMaxReleaseSpec)) collateralMaxReleaseUptoCard

/-- THE SECOND FORM's CARD OF 'girolaw34.CollateralCover'. -/
def collateralCoverUptoCard : Claim7 := { stood := { row := collateralCoverUptoRow, standIns := [], harness := (true, "805dcd3d1c677e86a92bb550ee73a9ed7288c7ea8f75e80da612b426eb39ea3c"), looks := true }, kinds := [], alts := [], laidByText := true, laidKinds := [.data, .data, .data], laidTests := true, laidLooks := .later }
def CollateralCoverUptoCardSaid : Prop := Claim7.holds Tryz.pinned (.plain (OpenSpec.upto collateralCoverSpec)) collateralCoverUptoCard

/-- THE SECOND FORM's CARD OF 'girolaw34.CollateralOrder'. -/
def collateralOrderUptoCard : Claim7 := { stood := { row := collateralOrderUptoRow, standIns := [], harness := (true, "805dcd3d1c677e86a92bb550ee73a9ed7288c7ea8f75e80da612b426eb39ea3c"), looks := true }, kinds := [], alts := [], laidByText := true, laidKinds := [.data, .data, .data], laidTests := true, laidLooks := .later }
def CollateralOrderUptoCardSaid : Prop := Claim7.holds Tryz.pinned (.plain (OpenSpec.upto collateralOrderSpec)) collateralOrderUptoCard

/-- THE SECOND FORM's CARD OF 'girolaw34.CollateralSubstitute'. -/
def collateralSubstituteUptoCard : Claim7 := { stood := { row := collateralSubstituteUptoRow, standIns := [], harness := (true, "805dcd3d1c677e86a92bb550ee73a9ed7288c7ea8f75e80da612b426eb39ea3c"), looks := true }, kinds := [], alts := [], laidByText := true, laidKinds := [.data, .data, .data], laidTests := true, laidLooks := .later }
def CollateralSubstituteUptoCardSaid : Prop := Claim7.holds Tryz.pinned (.plain (OpenSpec.upto collateralSubstituteSpec)) collateralSubstituteUptoCard

/-- THE SECOND FORM's CARD OF 'girolaw34.CollateralRevalue'. -/
def collateralRevalueUptoCard : Claim7 := { stood := { row := collateralRevalueUptoRow, standIns := [], harness := (true, "805dcd3d1c677e86a92bb550ee73a9ed7288c7ea8f75e80da612b426eb39ea3c"), looks := true }, kinds := [], alts := [], laidByText := true, laidKinds := [.data, .data, .data], laidTests := true, laidLooks := .later }
def CollateralRevalueUptoCardSaid : Prop := Claim7.holds Tryz.pinned (.plain (OpenSpec.upto collateralRevalueSpec)) collateralRevalueUptoCard

/-- THE SECOND FORM's CARD OF 'girolaw34.CollateralClones'. -/
def collateralClonesUptoCard : Claim7 := { stood := { row := collateralClonesUptoRow, standIns := [], harness := (true, "805dcd3d1c677e86a92bb550ee73a9ed7288c7ea8f75e80da612b426eb39ea3c"), looks := true }, kinds := [], alts := [], laidByText := true, laidKinds := [.data, .data, .data], laidTests := true, laidLooks := .later }
def CollateralClonesUptoCardSaid : Prop := Claim7.holds Tryz.pinned (.plain (OpenSpec.upto collateralClonesSpec)) collateralClonesUptoCard
end Rows
end Go.Proofs.YtjjnljfphaimgaaGreatDoor
