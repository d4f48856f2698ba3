/-
  DERIVED. GIVEN WITH THE SEED: THE CARDS: each row of YtdmfapmdjhjlhaaDoorRows.lean that lists a variable, with what it lists TIED to the program's text (the seventh form; the later family's looks); each row that meets fmt, with fmt's text TOLD by the authors' own Lean function (tested against real Go, not proved from fmt's source: count such statements apart). THE CARD IS WHAT COUNTS. Prove the row's statement (the work); the ties are given (YtdmfapmdjhjlhaaDoorTie.lean); close each card by the builder's one call (the guide's Derived/Test/ToyasCard.lean, 'card_holds'). Laid BY PROGRAM, IN A SANDBOX (cutbox-door.mjs). By AI agents, Wed Nov 11 2026. No macro, syntax, notation, axiom, sorry.
-/
import Derived.Test.YtdmfapmdjhjlhaaDoorRows
import GoSem.ClaimSeven
namespace Go.Proofs.YtdmfapmdjhjlhaaDoor
namespace Rows

/-- THE TIED CARD OF 'squintlaw13.StateRuns'. -/
def stateRunsCard : Claim7 := { stood := { row := stateRunsRow, standIns := [], harness := (true, "24a586b1f8d61306174b3e3011f2070752b2f4783bcd7986b08ef7136a984990"), looks := false }, kinds := [], alts := [], laidByText := true, laidKinds := [.data], laidTests := true, laidLooks := .later }
def StateRunsCardSaid : Prop := Claim7.holds Tryd.pinned (.plain (OpenSpec.ofChange stateRunsSpec)) stateRunsCard

/-- THE TIED CARD OF 'squintlaw13.StateCounts'. -/
def stateCountsCard : Claim7 := { stood := { row := stateCountsRow, standIns := [], harness := (true, "24a586b1f8d61306174b3e3011f2070752b2f4783bcd7986b08ef7136a984990"), looks := false }, kinds := [], alts := [], laidByText := true, laidKinds := [.data], laidTests := true, laidLooks := .later }
def StateCountsCardSaid : Prop := Claim7.holds Tryd.pinned (.plain (OpenSpec.ofChange stateCountsSpec)) stateCountsCard

/-- THE TIED CARD OF 'squintlaw13.StateSteps'. -/
def stateStepsCard : Claim7 := { stood := { row := stateStepsRow, standIns := [], harness := (true, "24a586b1f8d61306174b3e3011f2070752b2f4783bcd7986b08ef7136a984990"), looks := false }, kinds := [], alts := [], laidByText := true, laidKinds := [.data], laidTests := true, laidLooks := .later }
def StateStepsCardSaid : Prop := Claim7.holds Tryd.pinned (.plain (OpenSpec.ofChange stateStepsSpec)) stateStepsCard

/-- THE TIED CARD OF 'squintlaw13.StateEnds'. -/
def stateEndsCard : Claim7 := { stood := { row := stateEndsRow, standIns := [], harness := (true, "24a586b1f8d61306174b3e3011f2070752b2f4783bcd7986b08ef7136a984990"), looks := false }, kinds := [], alts := [], laidByText := true, laidKinds := [.data], laidTests := true, laidLooks := .later }
def StateEndsCardSaid : Prop := Claim7.holds Tryd.pinned (.plain (OpenSpec.ofChange stateEndsSpec)) stateEndsCard

/-- THE SECOND FORM's CARD OF 'squintlaw13.StateRuns'. -/
def stateRunsUptoCard : Claim7 := { stood := { row := stateRunsUptoRow, standIns := [], harness := (true, "24a586b1f8d61306174b3e3011f2070752b2f4783bcd7986b08ef7136a984990"), looks := false }, kinds := [], alts := [], laidByText := true, laidKinds := [.data], laidTests := true, laidLooks := .later }
def StateRunsUptoCardSaid : Prop := Claim7.holds Tryd.pinned (.plain (OpenSpec.upto stateRunsSpec)) stateRunsUptoCard

/-- THE SECOND FORM's CARD OF 'squintlaw13.StateCounts'. -/
def stateCountsUptoCard : Claim7 := { stood := { row := stateCountsUptoRow, standIns := [], harness := (true, "24a586b1f8d61306174b3e3011f2070752b2f4783bcd7986b08ef7136a984990"), looks := false }, kinds := [], alts := [], laidByText := true, laidKinds := [.data], laidTests := true, laidLooks := .later }
def StateCountsUptoCardSaid : Prop := Claim7.holds Tryd.pinned (.plain (OpenSpec.upto stateCountsSpec)) stateCountsUptoCard

/-- THE SECOND FORM's CARD OF 'squintlaw13.StateSteps'. -/
def stateStepsUptoCard : Claim7 := { stood := { row := stateStepsUptoRow, standIns := [], harness := (true, "24a586b1f8d61306174b3e3011f2070752b2f4783bcd7986b08ef7136a984990"), looks := false }, kinds := [], alts := [], laidByText := true, laidKinds := [.data], laidTests := true, laidLooks := .later }
def StateStepsUptoCardSaid : Prop := Claim7.holds Tryd.pinned (.plain (OpenSpec.upto stateStepsSpec)) stateStepsUptoCard

/-- THE SECOND FORM's CARD OF 'squintlaw13.StateEnds'. -/
def stateEndsUptoCard : Claim7 := { stood := { row := stateEndsUptoRow, standIns := [], harness := (true, "24a586b1f8d61306174b3e3011f2070752b2f4783bcd7986b08ef7136a984990"), looks := false }, kinds := [], alts := [], laidByText := true, laidKinds := [.data], laidTests := true, laidLooks := .later }
def StateEndsUptoCardSaid : Prop := Claim7.holds Tryd.pinned (.plain (OpenSpec.upto stateEndsSpec)) stateEndsUptoCard
end Rows
end Go.Proofs.YtdmfapmdjhjlhaaDoor
