/-
  NARROWER THAN 'FOR EVERY INPUT', by the rows' own cells (each row's printed sentence says how): OutboundEmpties: laid · OutboundFails: laid · OutboundNew: laid · OutboundSoon: laid.
  DERIVED. THE GIVEN ROWS OF THIS SEAT. 4 by the template 'for every input the law returns true; each argument reads behind the call as it read before'; 0 by the template 'total and deterministic' (their statements: YtcecfhfbcdbofaaGreatDoorTotals.lean).
  GIVEN WITH THE SEED: the statements are not yours to turn. If you find one false, say at which input.
  Laid BY PROGRAM, IN A SANDBOX (cutbox-rows.mjs): the forced cells as the released guide's own fill.sh prints them over the translation 78666cb89b8c5b49… (all of the seat's roots in one cut). By AI agents, Wed Nov 11 2026. No macro, syntax, notation, axiom, sorry.
-/
import Derived.Test.YtcecfhfbcdbofaaGreatDoorChecked
import GoSem.Claim
import GoSem.ClaimJoined
import GoSem.ClaimMapViews
import Derived.JoinedTies
import Derived.KernelRfl
namespace Go.Proofs.YtcecfhfbcdbofaaGreatDoor
/- THE CELL 'sum', in the pinned program and in every row, IS THE sha256 OF THE DUMP (.gsa) THAT YtcecfhfbcdbofaaGreatDoorProg.lean LOADS. Nothing in Lean hashes anything: it is a label: what it is worth is what the hold of that sum in a sandbox is worth. -/
noncomputable def Tryz.pinned : Pinned := { name := "ytcecfhfbcdbofaagreatdoor", sum := "78666cb89b8c5b494505ef4c84863a2f71d437c76b992c1a312fc57751cf121f", checked := Tryz.checked }
namespace Rows
def none {H : Type} : Left H := { results := [], args := [] }

/- WHAT THE LISTED PACKAGE-LEVEL VARIABLES READ AS WHEN THE CALL BEGINS. Each datum BY PROGRAM (the guide's laid-datum.mjs) off the statement by which the dump's own 'gosem.cut.vars' lays the variable. In a bare row this is a premise. The card (YtcecfhfbcdbofaaGreatDoorCards.lean) ties it to the program's text. -/
def laid_squint_state_table {H : Type} : DataW H := .agg [.agg [.lit (.int .i64 1), .lit (.int .i64 (-1)), .lit (.int .i64 (-1)), .lit (.int .i64 (-1)), .lit (.int .i64 (-2)), .lit (.int .i64 (-2)), .lit (.int .i64 (-2)), .lit (.int .i64 (-2)), .lit (.int .i64 (-2))], .agg [.lit (.int .i64 1), .lit (.int .i64 1), .lit (.int .i64 3), .lit (.int .i64 4), .lit (.int .i64 1), .lit (.int .i64 1), .lit (.int .i64 2), .lit (.int .i64 4), .lit (.int .i64 1)], .agg [.lit (.int .i64 2), .lit (.int .i64 2), .lit (.int .i64 4), .lit (.int .i64 4), .lit (.int .i64 (-3)), .lit (.int .i64 (-3)), .lit (.int .i64 (-3)), .lit (.int .i64 4), .lit (.int .i64 2)], .agg [.lit (.int .i64 (-1)), .lit (.int .i64 (-1)), .lit (.int .i64 (-1)), .lit (.int .i64 4), .lit (.int .i64 3), .lit (.int .i64 3), .lit (.int .i64 4), .lit (.int .i64 4), .lit (.int .i64 3)], .agg [.lit (.int .i64 (-1)), .lit (.int .i64 (-1)), .lit (.int .i64 (-1)), .lit (.int .i64 (-1)), .lit (.int .i64 (-3)), .lit (.int .i64 (-3)), .lit (.int .i64 (-3)), .lit (.int .i64 4), .lit (.int .i64 4)]]

/-- 'squintlaw24.OutboundEmpties': WHATEVER THE INPUT: true; the input reads as it did. -/
def outboundEmptiesSpec : ChangeSpec := { name := "outboundEmpties", fn := fun _ => fun
  | [d] => { results := [.lit (.bool true)], args := [d] }
  | _ => none }
def outboundEmptiesRow : OpenClaim := { program := "ytcecfhfbcdbofaagreatdoor", sum := "78666cb89b8c5b494505ef4c84863a2f71d437c76b992c1a312fc57751cf121f", func := "squint/squintlaw24.OutboundEmpties", spec := "outboundEmpties", unfollowed := true, recurses := true, named := ["squint/state.table"], apart := false, laid := [("squint/state.table", laid_squint_state_table)] }
def OutboundEmptiesSaid : Prop := outboundEmptiesRow.holds Tryz.pinned (OpenSpec.ofChange outboundEmptiesSpec)

/-- ITS FALSE NEIGHBOUR: 'it returns false'. Refute it at one input. -/
def outboundEmptiesWrong : ChangeSpec := { name := "outboundEmpties", fn := fun _ => fun
  | [d] => { results := [.lit (.bool false)], args := [d] }
  | _ => none }
def OutboundEmptiesWrongFalsely : Prop := outboundEmptiesRow.holds Tryz.pinned (OpenSpec.ofChange outboundEmptiesWrong)

/-- 'squintlaw24.OutboundFails': WHATEVER THE INPUT: true; the input reads as it did. -/
def outboundFailsSpec : ChangeSpec := { name := "outboundFails", fn := fun _ => fun
  | [d1, d2] => { results := [.lit (.bool true)], args := [d1, d2] }
  | _ => none }
def outboundFailsRow : OpenClaim := { program := "ytcecfhfbcdbofaagreatdoor", sum := "78666cb89b8c5b494505ef4c84863a2f71d437c76b992c1a312fc57751cf121f", func := "squint/squintlaw24.OutboundFails", spec := "outboundFails", unfollowed := true, recurses := true, named := ["squint/state.table"], apart := false, laid := [("squint/state.table", laid_squint_state_table)] }
def OutboundFailsSaid : Prop := outboundFailsRow.holds Tryz.pinned (OpenSpec.ofChange outboundFailsSpec)

/-- ITS FALSE NEIGHBOUR: 'it returns false'. Refute it at one input. -/
def outboundFailsWrong : ChangeSpec := { name := "outboundFails", fn := fun _ => fun
  | [d1, d2] => { results := [.lit (.bool false)], args := [d1, d2] }
  | _ => none }
def OutboundFailsWrongFalsely : Prop := outboundFailsRow.holds Tryz.pinned (OpenSpec.ofChange outboundFailsWrong)

/-- 'squintlaw24.OutboundNew': WHATEVER THE INPUT: true; the input reads as it did. -/
def outboundNewSpec : ChangeSpec := { name := "outboundNew", fn := fun _ => fun
  | [d1, d2, d3] => { results := [.lit (.bool true)], args := [d1, d2, d3] }
  | _ => none }
def outboundNewRow : OpenClaim := { program := "ytcecfhfbcdbofaagreatdoor", sum := "78666cb89b8c5b494505ef4c84863a2f71d437c76b992c1a312fc57751cf121f", func := "squint/squintlaw24.OutboundNew", spec := "outboundNew", unfollowed := true, recurses := true, named := ["squint/state.table"], apart := false, laid := [("squint/state.table", laid_squint_state_table)] }
def OutboundNewSaid : Prop := outboundNewRow.holds Tryz.pinned (OpenSpec.ofChange outboundNewSpec)

/-- ITS FALSE NEIGHBOUR: 'it returns false'. Refute it at one input. -/
def outboundNewWrong : ChangeSpec := { name := "outboundNew", fn := fun _ => fun
  | [d1, d2, d3] => { results := [.lit (.bool false)], args := [d1, d2, d3] }
  | _ => none }
def OutboundNewWrongFalsely : Prop := outboundNewRow.holds Tryz.pinned (OpenSpec.ofChange outboundNewWrong)

/-- 'squintlaw24.OutboundSoon': WHATEVER THE INPUT: true; the input reads as it did. -/
def outboundSoonSpec : ChangeSpec := { name := "outboundSoon", fn := fun _ => fun
  | [d1, d2] => { results := [.lit (.bool true)], args := [d1, d2] }
  | _ => none }
def outboundSoonRow : OpenClaim := { program := "ytcecfhfbcdbofaagreatdoor", sum := "78666cb89b8c5b494505ef4c84863a2f71d437c76b992c1a312fc57751cf121f", func := "squint/squintlaw24.OutboundSoon", spec := "outboundSoon", unfollowed := true, recurses := true, named := ["squint/state.table"], apart := false, laid := [("squint/state.table", laid_squint_state_table)] }
def OutboundSoonSaid : Prop := outboundSoonRow.holds Tryz.pinned (OpenSpec.ofChange outboundSoonSpec)

/-- ITS FALSE NEIGHBOUR: 'it returns false'. Refute it at one input. -/
def outboundSoonWrong : ChangeSpec := { name := "outboundSoon", fn := fun _ => fun
  | [d1, d2] => { results := [.lit (.bool false)], args := [d1, d2] }
  | _ => none }
def OutboundSoonWrongFalsely : Prop := outboundSoonRow.holds Tryz.pinned (OpenSpec.ofChange outboundSoonWrong)

/- THE SECOND FORM. 'bulk': how many values and letters a reading holds, each counted each time it is reached (what is shared counts as often as it is met; a slice's spare places count too). A statement '..UptoSaid' is the law's where the arguments, and the package variables that the reading takes, are together of bulk at most 1048576: NARROWER than '..Said'. Prove '..Said' where nothing that the law and all that it calls make is longer than what came in: it says more and counts as full. Else prove '..UptoSaid'. A law counts once. -/
mutual
def uptoBulk {H : Type} : DataW H → Nat
  | .lit (.string bytes) => bytes.length + 1
  | .lit _ => 1
  | .nil => 1
  | .ptr d => uptoBulk d + 1
  | .slice elems spare => uptoBulkAll elems + uptoBulkAll spare + 1
  | .agg parts => uptoBulkAll parts + 1
  | .iface _ d => uptoBulk d + 1
  | .map entries => uptoBulkEntries entries + 1
  | .held _ => 1
def uptoBulkAll {H : Type} : List (DataW H) → Nat
  | [] => 0
  | d :: r => uptoBulk d + uptoBulkAll r
def uptoBulkEntries {H : Type} : List (Lit × DataW H) → Nat
  | [] => 0
  | x :: r => uptoBulkEntry x + uptoBulkEntries r
def uptoBulkEntry {H : Type} : Lit × DataW H → Nat
  | (.string bytes, d) => bytes.length + uptoBulk d + 1
  | (_, d) => uptoBulk d + 1
 end
def uptoSmall : (H : Type) → List (DataW H) → Bool := fun _ ds => decide (uptoBulkAll ds ≤ 1048576)
def OpenSpec.upto (s : _root_.Go.ChangeSpec) : _root_.Go.OpenSpec := { _root_.Go.OpenSpec.ofChange s with cond := some uptoSmall }

/-- 'squintlaw24.OutboundEmpties', WHERE WHAT IT READS IS OF BULK AT MOST 1048576: true; the input reads as it did. -/
def outboundEmptiesUptoRow : OpenClaim := { program := "ytcecfhfbcdbofaagreatdoor", sum := "78666cb89b8c5b494505ef4c84863a2f71d437c76b992c1a312fc57751cf121f", func := "squint/squintlaw24.OutboundEmpties", spec := "outboundEmpties", unfollowed := true, recurses := true, named := ["squint/state.table"], apart := false, laid := [("squint/state.table", laid_squint_state_table)], narrowed := true }
def OutboundEmptiesUptoSaid : Prop := outboundEmptiesUptoRow.holds Tryz.pinned (OpenSpec.upto outboundEmptiesSpec)

/-- 'squintlaw24.OutboundFails', WHERE WHAT IT READS IS OF BULK AT MOST 1048576: true; the input reads as it did. -/
def outboundFailsUptoRow : OpenClaim := { program := "ytcecfhfbcdbofaagreatdoor", sum := "78666cb89b8c5b494505ef4c84863a2f71d437c76b992c1a312fc57751cf121f", func := "squint/squintlaw24.OutboundFails", spec := "outboundFails", unfollowed := true, recurses := true, named := ["squint/state.table"], apart := false, laid := [("squint/state.table", laid_squint_state_table)], narrowed := true }
def OutboundFailsUptoSaid : Prop := outboundFailsUptoRow.holds Tryz.pinned (OpenSpec.upto outboundFailsSpec)

/-- 'squintlaw24.OutboundNew', WHERE WHAT IT READS IS OF BULK AT MOST 1048576: true; the input reads as it did. -/
def outboundNewUptoRow : OpenClaim := { program := "ytcecfhfbcdbofaagreatdoor", sum := "78666cb89b8c5b494505ef4c84863a2f71d437c76b992c1a312fc57751cf121f", func := "squint/squintlaw24.OutboundNew", spec := "outboundNew", unfollowed := true, recurses := true, named := ["squint/state.table"], apart := false, laid := [("squint/state.table", laid_squint_state_table)], narrowed := true }
def OutboundNewUptoSaid : Prop := outboundNewUptoRow.holds Tryz.pinned (OpenSpec.upto outboundNewSpec)

/-- 'squintlaw24.OutboundSoon', WHERE WHAT IT READS IS OF BULK AT MOST 1048576: true; the input reads as it did. -/
def outboundSoonUptoRow : OpenClaim := { program := "ytcecfhfbcdbofaagreatdoor", sum := "78666cb89b8c5b494505ef4c84863a2f71d437c76b992c1a312fc57751cf121f", func := "squint/squintlaw24.OutboundSoon", spec := "outboundSoon", unfollowed := true, recurses := true, named := ["squint/state.table"], apart := false, laid := [("squint/state.table", laid_squint_state_table)], narrowed := true }
def OutboundSoonUptoSaid : Prop := outboundSoonUptoRow.holds Tryz.pinned (OpenSpec.upto outboundSoonSpec)

end Rows
end Go.Proofs.YtcecfhfbcdbofaaGreatDoor
