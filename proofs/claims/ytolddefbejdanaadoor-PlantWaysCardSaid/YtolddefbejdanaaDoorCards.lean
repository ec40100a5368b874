/-
  DERIVED. GIVEN WITH THE SEED: THE CARDS: each row of YtolddefbejdanaaDoorRows.lean that lists a variable, with what it lists TIED to the program's text (the seventh form; the later family's looks); each row that meets fmt, with fmt's text TOLD by the authors' own Lean function (tested against real Go, not proved from fmt's source: count such statements apart). THE CARD IS WHAT COUNTS. Prove the row's statement (the work); the ties are given (YtolddefbejdanaaDoorTie.lean); close each card by the builder's one call (the guide's Derived/Test/ToyasCard.lean, 'card_holds'). Laid BY PROGRAM, IN A SANDBOX (cutbox-door.mjs). By AI agents, Wed Nov 11 2026. No macro, syntax, notation, axiom, sorry.
-/
import Derived.Test.YtolddefbejdanaaDoorRows
import GoSem.ClaimSeven
namespace Go.Proofs.YtolddefbejdanaaDoor
namespace Rows

/-- THE TIED CARD OF 'switchgearlaw01.PlantWays'. -/
def plantWaysCard : Claim7 := { stood := { row := plantWaysRow, standIns := [], harness := (true, "2f482b6335b7a1f8d6c615d49a74f58b0e36b14fb091c8c0715e4e7f9e312f7e"), looks := true }, kinds := [], alts := [], laidByText := true, laidKinds := [.data, .data, .data], laidTests := true, laidLooks := .later }
def PlantWaysCardSaid : Prop := Claim7.holds Tryd.pinned (.plain (OpenSpec.ofChange plantWaysSpec)) plantWaysCard

/-- THE TIED CARD OF 'switchgearlaw01.PlantLoses'. -/
def plantLosesCard : Claim7 := { stood := { row := plantLosesRow, standIns := [], harness := (true, "2f482b6335b7a1f8d6c615d49a74f58b0e36b14fb091c8c0715e4e7f9e312f7e"), looks := true }, kinds := [], alts := [], laidByText := true, laidKinds := [.data, .data, .data], laidTests := true, laidLooks := .later }
def PlantLosesCardSaid : Prop := Claim7.holds Tryd.pinned (.plain (OpenSpec.ofChange plantLosesSpec)) plantLosesCard

/-- THE SECOND FORM's CARD OF 'switchgearlaw01.PlantWays'. -/
def plantWaysUptoCard : Claim7 := { stood := { row := plantWaysUptoRow, standIns := [], harness := (true, "2f482b6335b7a1f8d6c615d49a74f58b0e36b14fb091c8c0715e4e7f9e312f7e"), looks := true }, kinds := [], alts := [], laidByText := true, laidKinds := [.data, .data, .data], laidTests := true, laidLooks := .later }
def PlantWaysUptoCardSaid : Prop := Claim7.holds Tryd.pinned (.plain (OpenSpec.upto plantWaysSpec)) plantWaysUptoCard

/-- THE SECOND FORM's CARD OF 'switchgearlaw01.PlantLoses'. -/
def plantLosesUptoCard : Claim7 := { stood := { row := plantLosesUptoRow, standIns := [], harness := (true, "2f482b6335b7a1f8d6c615d49a74f58b0e36b14fb091c8c0715e4e7f9e312f7e"), looks := true }, kinds := [], alts := [], laidByText := true, laidKinds := [.data, .data, .data], laidTests := true, laidLooks := .later }
def PlantLosesUptoCardSaid : Prop := Claim7.holds Tryd.pinned (.plain (OpenSpec.upto plantLosesSpec)) plantLosesUptoCard
end Rows
end Go.Proofs.YtolddefbejdanaaDoor
