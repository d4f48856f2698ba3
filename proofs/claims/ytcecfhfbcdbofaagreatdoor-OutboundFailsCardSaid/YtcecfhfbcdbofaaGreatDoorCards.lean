/-
  DERIVED. GIVEN WITH THE SEED: THE CARDS: each row of YtcecfhfbcdbofaaGreatDoorRows.lean that lists a variable, with what it lists TIED to the program's text (the seventh form; the later family's looks); each row that meets fmt, with fmt's text TOLD by the authors' own Lean function (tested against real Go, not proved from fmt's source: count such statements apart). THE CARD IS WHAT COUNTS. Prove the row's statement (the work); the ties are given (YtcecfhfbcdbofaaGreatDoorTie.lean); close each card by the builder's one call (the guide's Derived/Test/ToyasCard.lean, 'card_holds'). Laid BY PROGRAM, IN A SANDBOX (cutbox-door.mjs). By AI agents, Wed Nov 11 2026. No macro, syntax, notation, axiom, sorry.
-/
import Derived.Test.YtcecfhfbcdbofaaGreatDoorRows
import GoSem.ClaimSeven
namespace Go.Proofs.YtcecfhfbcdbofaaGreatDoor
namespace Rows

/-- THE TIED CARD OF 'squintlaw24.OutboundEmpties'. -/
def outboundEmptiesCard : Claim7 := { stood := { row := outboundEmptiesRow, standIns := [], harness := (true, "2fe1cee109526072b5a191fc06fa90a4206d3d09bde83d4a45394f8f2ed9fafe"), looks := false }, kinds := [], alts := [], laidByText := true, laidKinds := [.data], laidTests := true, laidLooks := .later }
def OutboundEmptiesCardSaid : Prop := Claim7.holds Tryz.pinned (.plain (OpenSpec.ofChange outboundEmptiesSpec)) outboundEmptiesCard

/-- THE TIED CARD OF 'squintlaw24.OutboundFails'. -/
def outboundFailsCard : Claim7 := { stood := { row := outboundFailsRow, standIns := [], harness := (true, "2fe1cee109526072b5a191fc06fa90a4206d3d09bde83d4a45394f8f2ed9fafe"), looks := false }, kinds := [], alts := [], laidByText := true, laidKinds := [.data], laidTests := true, laidLooks := .later }
def OutboundFailsCardSaid : Prop := Claim7.holds Tryz.pinned (.plain (OpenSpec.ofChange outboundFailsSpec)) outboundFailsCard

/-- THE TIED CARD OF 'squintlaw24.OutboundNew'. -/
def outboundNewCard : Claim7 := { stood := { row := outboundNewRow, standIns := [], harness := (true, "2fe1cee109526072b5a191fc06fa90a4206d3d09bde83d4a45394f8f2ed9fafe"), looks := false }, kinds := [], alts := [], laidByText := true, laidKinds := [.data], laidTests := true, laidLooks := .later }
def OutboundNewCardSaid : Prop := Claim7.holds Tryz.pinned (.plain (OpenSpec.ofChange outboundNewSpec)) outboundNewCard

/-- THE TIED CARD OF 'squintlaw24.OutboundSoon'. -/
def outboundSoonCard : Claim7 := { stood := { row := outboundSoonRow, standIns := [], harness := (true, "2fe1cee109526072b5a191fc06fa90a4206d3d09bde83d4a45394f8f2ed9fafe"), looks := false }, kinds := [], alts := [], laidByText := true, laidKinds := [.data], laidTests := true, laidLooks := .later }
def OutboundSoonCardSaid : Prop := Claim7.holds Tryz.pinned (.plain (OpenSpec.ofChange outboundSoonSpec)) outboundSoonCard

/-- THE SECOND FORM's CARD OF 'squintlaw24.OutboundEmpties'. -/
def outboundEmptiesUptoCard : Claim7 := { stood := { row := outboundEmptiesUptoRow, standIns := [], harness := (true, "2fe1cee109526072b5a191fc06fa90a4206d3d09bde83d4a45394f8f2ed9fafe"), looks := false }, kinds := [], alts := [], laidByText := true, laidKinds := [.data], laidTests := true, laidLooks := .later }
def OutboundEmptiesUptoCardSaid : Prop := Claim7.holds Tryz.pinned (.plain (OpenSpec.upto outboundEmptiesSpec)) outboundEmptiesUptoCard

/-- THE SECOND FORM's CARD OF 'squintlaw24.OutboundFails'. -/
def outboundFailsUptoCard : Claim7 := { stood := { row := outboundFailsUptoRow, standIns := [], harness := (true, "2fe1cee109526072b5a191fc06fa90a4206d3d09bde83d4a45394f8f2ed9fafe"), looks := false }, kinds := [], alts := [], laidByText := true, laidKinds := [.data], laidTests := true, laidLooks := .later }
def OutboundFailsUptoCardSaid : Prop := Claim7.holds Tryz.pinned (.plain (OpenSpec.upto outboundFailsSpec)) outboundFailsUptoCard

/-- THE SECOND FORM's CARD OF 'squintlaw24.OutboundNew'. -/
def outboundNewUptoCard : Claim7 := { stood := { row := outboundNewUptoRow, standIns := [], harness := (true, "2fe1cee109526072b5a191fc06fa90a4206d3d09bde83d4a45394f8f2ed9fafe"), looks := false }, kinds := [], alts := [], laidByText := true, laidKinds := [.data], laidTests := true, laidLooks := .later }
def OutboundNewUptoCardSaid : Prop := Claim7.holds Tryz.pinned (.plain (OpenSpec.upto outboundNewSpec)) outboundNewUptoCard

/-- THE SECOND FORM's CARD OF 'squintlaw24.OutboundSoon'. -/
def outboundSoonUptoCard : Claim7 := { stood := { row := outboundSoonUptoRow, standIns := [], harness := (true, "2fe1cee109526072b5a191fc06fa90a4206d3d09bde83d4a45394f8f2ed9fafe"), looks := false }, kinds := [], alts := [], laidByText := true, laidKinds := [.data], laidTests := true, laidLooks := .later }
def OutboundSoonUptoCardSaid : Prop := Claim7.holds Tryz.pinned (.plain (OpenSpec.upto outboundSoonSpec)) outboundSoonUptoCard
end Rows
end Go.Proofs.YtcecfhfbcdbofaaGreatDoor
