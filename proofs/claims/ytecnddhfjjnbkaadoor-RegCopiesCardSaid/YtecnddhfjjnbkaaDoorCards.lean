/-
  DERIVED. GIVEN WITH THE SEED: THE CARDS: each row of YtecnddhfjjnbkaaDoorRows.lean that lists a variable, with what it lists TIED to the program's text (the seventh form; the later family's looks); each row that meets fmt, with fmt's text TOLD by the authors' own Lean function (tested against real Go, not proved from fmt's source: count such statements apart). THE CARD IS WHAT COUNTS. Prove the row's statement (the work); the ties are given (YtecnddhfjjnbkaaDoorTie.lean); close each card by the builder's one call (the guide's Derived/Test/ToyasCard.lean, 'card_holds'). Laid BY PROGRAM, IN A SANDBOX (cutbox-door.mjs). By AI agents, Wed Nov 11 2026. No macro, syntax, notation, axiom, sorry.
-/
import Derived.Test.YtecnddhfjjnbkaaDoorRows
import GoSem.ClaimSeven
namespace Go.Proofs.YtecnddhfjjnbkaaDoor
namespace Rows

/-- THE TIED CARD OF 'squintlaw14.RegOwners'. -/
def regOwnersCard : Claim7 := { stood := { row := regOwnersRow, standIns := [], harness := (true, "36fc3ded9edc2467ef26f1559ed5f142a3475750e023a72e46c4152675af43a5"), looks := false }, kinds := [], alts := [], laidByText := true, laidKinds := [.data], laidTests := true, laidLooks := .later }
def RegOwnersCardSaid : Prop := Claim7.holds Tryd.pinned (.plain (OpenSpec.ofChange regOwnersSpec)) regOwnersCard

/-- THE TIED CARD OF 'squintlaw14.RegAlone'. -/
def regAloneCard : Claim7 := { stood := { row := regAloneRow, standIns := [], harness := (true, "36fc3ded9edc2467ef26f1559ed5f142a3475750e023a72e46c4152675af43a5"), looks := false }, kinds := [], alts := [], laidByText := true, laidKinds := [.data], laidTests := true, laidLooks := .later }
def RegAloneCardSaid : Prop := Claim7.holds Tryd.pinned (.plain (OpenSpec.ofChange regAloneSpec)) regAloneCard

/-- THE TIED CARD OF 'squintlaw14.RegPlays'. -/
def regPlaysCard : Claim7 := { stood := { row := regPlaysRow, standIns := [], harness := (true, "36fc3ded9edc2467ef26f1559ed5f142a3475750e023a72e46c4152675af43a5"), looks := false }, kinds := [], alts := [], laidByText := true, laidKinds := [.data], laidTests := true, laidLooks := .later }
def RegPlaysCardSaid : Prop := Claim7.holds Tryd.pinned (.plain (OpenSpec.ofChange regPlaysSpec)) regPlaysCard

/-- THE TIED CARD OF 'squintlaw14.RegCopies'. -/
def regCopiesCard : Claim7 := { stood := { row := regCopiesRow, standIns := [], harness := (true, "36fc3ded9edc2467ef26f1559ed5f142a3475750e023a72e46c4152675af43a5"), looks := false }, kinds := [], alts := [], laidByText := true, laidKinds := [.data], laidTests := true, laidLooks := .later }
def RegCopiesCardSaid : Prop := Claim7.holds Tryd.pinned (.plain (OpenSpec.ofChange regCopiesSpec)) regCopiesCard

/-- THE SECOND FORM's CARD OF 'squintlaw14.RegOwners'. -/
def regOwnersUptoCard : Claim7 := { stood := { row := regOwnersUptoRow, standIns := [], harness := (true, "36fc3ded9edc2467ef26f1559ed5f142a3475750e023a72e46c4152675af43a5"), looks := false }, kinds := [], alts := [], laidByText := true, laidKinds := [.data], laidTests := true, laidLooks := .later }
def RegOwnersUptoCardSaid : Prop := Claim7.holds Tryd.pinned (.plain (OpenSpec.upto regOwnersSpec)) regOwnersUptoCard

/-- THE SECOND FORM's CARD OF 'squintlaw14.RegAlone'. -/
def regAloneUptoCard : Claim7 := { stood := { row := regAloneUptoRow, standIns := [], harness := (true, "36fc3ded9edc2467ef26f1559ed5f142a3475750e023a72e46c4152675af43a5"), looks := false }, kinds := [], alts := [], laidByText := true, laidKinds := [.data], laidTests := true, laidLooks := .later }
def RegAloneUptoCardSaid : Prop := Claim7.holds Tryd.pinned (.plain (OpenSpec.upto regAloneSpec)) regAloneUptoCard

/-- THE SECOND FORM's CARD OF 'squintlaw14.RegPlays'. -/
def regPlaysUptoCard : Claim7 := { stood := { row := regPlaysUptoRow, standIns := [], harness := (true, "36fc3ded9edc2467ef26f1559ed5f142a3475750e023a72e46c4152675af43a5"), looks := false }, kinds := [], alts := [], laidByText := true, laidKinds := [.data], laidTests := true, laidLooks := .later }
def RegPlaysUptoCardSaid : Prop := Claim7.holds Tryd.pinned (.plain (OpenSpec.upto regPlaysSpec)) regPlaysUptoCard

/-- THE SECOND FORM's CARD OF 'squintlaw14.RegCopies'. -/
def regCopiesUptoCard : Claim7 := { stood := { row := regCopiesUptoRow, standIns := [], harness := (true, "36fc3ded9edc2467ef26f1559ed5f142a3475750e023a72e46c4152675af43a5"), looks := false }, kinds := [], alts := [], laidByText := true, laidKinds := [.data], laidTests := true, laidLooks := .later }
def RegCopiesUptoCardSaid : Prop := Claim7.holds Tryd.pinned (.plain (OpenSpec.upto regCopiesSpec)) regCopiesUptoCard
end Rows
end Go.Proofs.YtecnddhfjjnbkaaDoor
