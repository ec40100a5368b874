/-
  DERIVED. GIVEN WITH THE SEED: THE CARDS: each row of YtcafpngcflplgaaGreatDoorRows.lean that lists a variable, with what it lists TIED to the program's text (the seventh form; the later family's looks); each row that meets fmt, with fmt's text TOLD by the authors' own Lean function (tested against real Go, not proved from fmt's source: count such statements apart). THE CARD IS WHAT COUNTS. Prove the row's statement (the work); the ties are given (YtcafpngcflplgaaGreatDoorTie.lean); close each card by the builder's one call (the guide's Derived/Test/ToyasCard.lean, 'card_holds'). Laid BY PROGRAM, IN A SANDBOX (cutbox-door.mjs). By AI agents, Wed Nov 11 2026. No macro, syntax, notation, axiom, sorry.
-/
import Derived.Test.YtcafpngcflplgaaGreatDoorRows
import GoSem.ClaimSeven
namespace Go.Proofs.YtcafpngcflplgaaGreatDoor
namespace Rows

/-- THE TIED CARD OF 'switchgearlaw01.PlantSmall'. -/
def plantSmallCard : Claim7 := { stood := { row := plantSmallRow, standIns := [], harness := (true, "766c1364a324b3f61fdddb2a91585e8857cd94d8ae0f256a1f87ed0f9e9f8423"), looks := true }, kinds := [], alts := [], laidByText := true, laidKinds := [.data, .data, .data, .data, .sentinel, .sentinel, .pinned], laidTests := true, laidLooks := .later }
def PlantSmallCardSaid : Prop := Claim7.holds Tryz.pinned (.plain (OpenSpec.ofChange plantSmallSpec)) plantSmallCard

/-- THE TIED CARD OF 'switchgearlaw01.PlantTexts'. -/
def plantTextsCard : Claim7 := { stood := { row := plantTextsRow, standIns := [], harness := (true, "766c1364a324b3f61fdddb2a91585e8857cd94d8ae0f256a1f87ed0f9e9f8423"), looks := true }, kinds := [], alts := [], laidByText := true, laidKinds := [.data, .data, .data, .data, .sentinel, .sentinel, .pinned], laidTests := true, laidLooks := .later }
def PlantTextsCardSaid : Prop := Claim7.holds Tryz.pinned (.plain (OpenSpec.ofChange plantTextsSpec)) plantTextsCard

/-- THE TIED CARD OF 'switchgearlaw01.PlantRound'. -/
def plantRoundCard : Claim7 := { stood := { row := plantRoundRow, standIns := [], harness := (true, "766c1364a324b3f61fdddb2a91585e8857cd94d8ae0f256a1f87ed0f9e9f8423"), looks := true }, kinds := [], alts := [], laidByText := true, laidKinds := [.data, .data, .data, .data, .sentinel, .sentinel, .pinned], laidTests := true, laidLooks := .later }
def PlantRoundCardSaid : Prop := Claim7.holds Tryz.pinned (.plain (OpenSpec.ofChange plantRoundSpec)) plantRoundCard

/-- THE SECOND FORM's CARD OF 'switchgearlaw01.PlantSmall'. -/
def plantSmallUptoCard : Claim7 := { stood := { row := plantSmallUptoRow, standIns := [], harness := (true, "766c1364a324b3f61fdddb2a91585e8857cd94d8ae0f256a1f87ed0f9e9f8423"), looks := true }, kinds := [], alts := [], laidByText := true, laidKinds := [.data, .data, .data, .data, .sentinel, .sentinel, .pinned], laidTests := true, laidLooks := .later }
def PlantSmallUptoCardSaid : Prop := Claim7.holds Tryz.pinned (.plain (OpenSpec.upto plantSmallSpec)) plantSmallUptoCard

/-- THE SECOND FORM's CARD OF 'switchgearlaw01.PlantTexts'. -/
def plantTextsUptoCard : Claim7 := { stood := { row := plantTextsUptoRow, standIns := [], harness := (true, "766c1364a324b3f61fdddb2a91585e8857cd94d8ae0f256a1f87ed0f9e9f8423"), looks := true }, kinds := [], alts := [], laidByText := true, laidKinds := [.data, .data, .data, .data, .sentinel, .sentinel, .pinned], laidTests := true, laidLooks := .later }
def PlantTextsUptoCardSaid : Prop := Claim7.holds Tryz.pinned (.plain (OpenSpec.upto plantTextsSpec)) plantTextsUptoCard

/-- THE SECOND FORM's CARD OF 'switchgearlaw01.PlantRound'. -/
def plantRoundUptoCard : Claim7 := { stood := { row := plantRoundUptoRow, standIns := [], harness := (true, "766c1364a324b3f61fdddb2a91585e8857cd94d8ae0f256a1f87ed0f9e9f8423"), looks := true }, kinds := [], alts := [], laidByText := true, laidKinds := [.data, .data, .data, .data, .sentinel, .sentinel, .pinned], laidTests := true, laidLooks := .later }
def PlantRoundUptoCardSaid : Prop := Claim7.holds Tryz.pinned (.plain (OpenSpec.upto plantRoundSpec)) plantRoundUptoCard
end Rows
end Go.Proofs.YtcafpngcflplgaaGreatDoor
