/-
  DERIVED. GIVEN WITH THE SEED: THE CARDS: each row of YtolddefbejdanaaGreatDoorRows.lean that lists a variable, with what it lists TIED to the program's text (the seventh form; the later family's looks); each row that meets fmt, with fmt's text TOLD by the authors' own Lean function (tested against real Go, not proved from fmt's source: count such statements apart). THE CARD IS WHAT COUNTS. Prove the row's statement (the work); the ties are given (YtolddefbejdanaaGreatDoorTie.lean); close each card by the builder's one call (the guide's Derived/Test/ToyasCard.lean, 'card_holds'). Laid BY PROGRAM, IN A SANDBOX (cutbox-door.mjs). By AI agents, Wed Nov 11 2026. No macro, syntax, notation, axiom, sorry.
-/
import Derived.Test.YtolddefbejdanaaGreatDoorRows
import GoSem.ClaimSeven
namespace Go.Proofs.YtolddefbejdanaaGreatDoor
namespace Rows

/-- THE TIED CARD OF 'switchgearlaw01.PlantChecks'. -/
def plantChecksCard : Claim7 := { stood := { row := plantChecksRow, standIns := [], harness := (true, "05afc33f0494dd8b782058d4ca8879c850791e9beb4581b62f228b43c26b5b7c"), looks := true }, kinds := [], alts := [], laidByText := true, laidKinds := [.data, .data, .data], laidTests := true, laidLooks := .later }
def PlantChecksCardSaid : Prop := Claim7.holds Tryz.pinned (.plain (OpenSpec.ofChange plantChecksSpec)) plantChecksCard

/-- THE TIED CARD OF 'switchgearlaw01.PlantFails'. -/
def plantFailsCard : Claim7 := { stood := { row := plantFailsRow, standIns := [], harness := (true, "05afc33f0494dd8b782058d4ca8879c850791e9beb4581b62f228b43c26b5b7c"), looks := true }, kinds := [], alts := [], laidByText := true, laidKinds := [.data, .data, .data], laidTests := true, laidLooks := .later }
def PlantFailsCardSaid : Prop := Claim7.holds Tryz.pinned (.plain (OpenSpec.ofChange plantFailsSpec)) plantFailsCard

/-- THE SECOND FORM's CARD OF 'switchgearlaw01.PlantChecks'. -/
def plantChecksUptoCard : Claim7 := { stood := { row := plantChecksUptoRow, standIns := [], harness := (true, "05afc33f0494dd8b782058d4ca8879c850791e9beb4581b62f228b43c26b5b7c"), looks := true }, kinds := [], alts := [], laidByText := true, laidKinds := [.data, .data, .data], laidTests := true, laidLooks := .later }
def PlantChecksUptoCardSaid : Prop := Claim7.holds Tryz.pinned (.plain (OpenSpec.upto plantChecksSpec)) plantChecksUptoCard

/-- THE SECOND FORM's CARD OF 'switchgearlaw01.PlantFails'. -/
def plantFailsUptoCard : Claim7 := { stood := { row := plantFailsUptoRow, standIns := [], harness := (true, "05afc33f0494dd8b782058d4ca8879c850791e9beb4581b62f228b43c26b5b7c"), looks := true }, kinds := [], alts := [], laidByText := true, laidKinds := [.data, .data, .data], laidTests := true, laidLooks := .later }
def PlantFailsUptoCardSaid : Prop := Claim7.holds Tryz.pinned (.plain (OpenSpec.upto plantFailsSpec)) plantFailsUptoCard
end Rows
end Go.Proofs.YtolddefbejdanaaGreatDoor
