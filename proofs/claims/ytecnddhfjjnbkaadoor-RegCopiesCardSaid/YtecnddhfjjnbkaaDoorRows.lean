/-
  NARROWER THAN 'FOR EVERY INPUT', by the rows' own cells (each row's printed sentence says how): RegOwners: laid · RegAlone: laid · RegPlays: laid · RegCopies: laid.
  DERIVED. THE GIVEN ROWS OF THIS SEAT. 4 by the template 'for every input the law returns true; each argument reads behind the call as it read before'; 0 by the template 'total and deterministic' (their statements: YtecnddhfjjnbkaaDoorTotals.lean).
  GIVEN WITH THE SEED: the statements are not yours to turn. If you find one false, say at which input.
  Laid BY PROGRAM, IN A SANDBOX (cutbox-rows.mjs): the forced cells as the released guide's own fill.sh prints them over the translation 16eed475b71d014c… (all of the seat's roots in one cut). By AI agents, Wed Nov 11 2026. No macro, syntax, notation, axiom, sorry.
-/
import Derived.Test.YtecnddhfjjnbkaaDoorChecked
import GoSem.Claim
import GoSem.ClaimJoined
import GoSem.ClaimMapViews
import Derived.JoinedTies
import Derived.KernelRfl
namespace Go.Proofs.YtecnddhfjjnbkaaDoor
/- THE CELL 'sum', in the pinned program and in every row, IS THE sha256 OF THE DUMP (.gsa) THAT YtecnddhfjjnbkaaDoorProg.lean LOADS. Nothing in Lean hashes anything: it is a label: what it is worth is what the hold of that sum in a sandbox is worth. -/
noncomputable def Tryd.pinned : Pinned := { name := "ytecnddhfjjnbkaadoor", sum := "16eed475b71d014c3980b0353d321ef56ed91b892bcc9b1fac788e24960ab011", checked := Tryd.checked }
namespace Rows
def none {H : Type} : Left H := { results := [], args := [] }

/- WHAT THE LISTED PACKAGE-LEVEL VARIABLES READ AS WHEN THE CALL BEGINS. Each datum BY PROGRAM (the guide's laid-datum.mjs) off the statement by which the dump's own 'gosem.cut.vars' lays the variable. In a bare row this is a premise. The card (YtecnddhfjjnbkaaDoorCards.lean) ties it to the program's text. -/
def laid_squint_state_table {H : Type} : DataW H := .agg [.agg [.lit (.int .i64 1), .lit (.int .i64 (-1)), .lit (.int .i64 (-1)), .lit (.int .i64 (-1)), .lit (.int .i64 (-2)), .lit (.int .i64 (-2)), .lit (.int .i64 (-2)), .lit (.int .i64 (-2)), .lit (.int .i64 (-2))], .agg [.lit (.int .i64 1), .lit (.int .i64 1), .lit (.int .i64 3), .lit (.int .i64 4), .lit (.int .i64 1), .lit (.int .i64 1), .lit (.int .i64 2), .lit (.int .i64 4), .lit (.int .i64 1)], .agg [.lit (.int .i64 2), .lit (.int .i64 2), .lit (.int .i64 4), .lit (.int .i64 4), .lit (.int .i64 (-3)), .lit (.int .i64 (-3)), .lit (.int .i64 (-3)), .lit (.int .i64 4), .lit (.int .i64 2)], .agg [.lit (.int .i64 (-1)), .lit (.int .i64 (-1)), .lit (.int .i64 (-1)), .lit (.int .i64 4), .lit (.int .i64 3), .lit (.int .i64 3), .lit (.int .i64 4), .lit (.int .i64 4), .lit (.int .i64 3)], .agg [.lit (.int .i64 (-1)), .lit (.int .i64 (-1)), .lit (.int .i64 (-1)), .lit (.int .i64 (-1)), .lit (.int .i64 (-3)), .lit (.int .i64 (-3)), .lit (.int .i64 (-3)), .lit (.int .i64 4), .lit (.int .i64 4)]]

/-- 'squintlaw14.RegOwners': WHATEVER THE INPUT: true; the input reads as it did. -/
def regOwnersSpec : ChangeSpec := { name := "regOwners", fn := fun _ => fun
  | [d1, d2] => { results := [.lit (.bool true)], args := [d1, d2] }
  | _ => none }
def regOwnersRow : OpenClaim := { program := "ytecnddhfjjnbkaadoor", sum := "16eed475b71d014c3980b0353d321ef56ed91b892bcc9b1fac788e24960ab011", func := "squint/squintlaw14.RegOwners", spec := "regOwners", named := ["squint/state.table"], apart := false, laid := [("squint/state.table", laid_squint_state_table)] }
def RegOwnersSaid : Prop := regOwnersRow.holds Tryd.pinned (OpenSpec.ofChange regOwnersSpec)

/-- ITS FALSE NEIGHBOUR: 'it returns false'. Refute it at one input. -/
def regOwnersWrong : ChangeSpec := { name := "regOwners", fn := fun _ => fun
  | [d1, d2] => { results := [.lit (.bool false)], args := [d1, d2] }
  | _ => none }
def RegOwnersWrongFalsely : Prop := regOwnersRow.holds Tryd.pinned (OpenSpec.ofChange regOwnersWrong)

/-- 'squintlaw14.RegAlone': WHATEVER THE INPUT: true; the input reads as it did. -/
def regAloneSpec : ChangeSpec := { name := "regAlone", fn := fun _ => fun
  | [d1, d2] => { results := [.lit (.bool true)], args := [d1, d2] }
  | _ => none }
def regAloneRow : OpenClaim := { program := "ytecnddhfjjnbkaadoor", sum := "16eed475b71d014c3980b0353d321ef56ed91b892bcc9b1fac788e24960ab011", func := "squint/squintlaw14.RegAlone", spec := "regAlone", unfollowed := true, recurses := true, named := ["squint/state.table"], apart := false, laid := [("squint/state.table", laid_squint_state_table)] }
def RegAloneSaid : Prop := regAloneRow.holds Tryd.pinned (OpenSpec.ofChange regAloneSpec)

/-- ITS FALSE NEIGHBOUR: 'it returns false'. Refute it at one input. -/
def regAloneWrong : ChangeSpec := { name := "regAlone", fn := fun _ => fun
  | [d1, d2] => { results := [.lit (.bool false)], args := [d1, d2] }
  | _ => none }
def RegAloneWrongFalsely : Prop := regAloneRow.holds Tryd.pinned (OpenSpec.ofChange regAloneWrong)

/-- 'squintlaw14.RegPlays': WHATEVER THE INPUT: true; the input reads as it did. -/
def regPlaysSpec : ChangeSpec := { name := "regPlays", fn := fun _ => fun
  | [d] => { results := [.lit (.bool true)], args := [d] }
  | _ => none }
def regPlaysRow : OpenClaim := { program := "ytecnddhfjjnbkaadoor", sum := "16eed475b71d014c3980b0353d321ef56ed91b892bcc9b1fac788e24960ab011", func := "squint/squintlaw14.RegPlays", spec := "regPlays", unfollowed := true, recurses := true, named := ["squint/state.table"], apart := false, laid := [("squint/state.table", laid_squint_state_table)] }
def RegPlaysSaid : Prop := regPlaysRow.holds Tryd.pinned (OpenSpec.ofChange regPlaysSpec)

/-- ITS FALSE NEIGHBOUR: 'it returns false'. Refute it at one input. -/
def regPlaysWrong : ChangeSpec := { name := "regPlays", fn := fun _ => fun
  | [d] => { results := [.lit (.bool false)], args := [d] }
  | _ => none }
def RegPlaysWrongFalsely : Prop := regPlaysRow.holds Tryd.pinned (OpenSpec.ofChange regPlaysWrong)

/-- 'squintlaw14.RegCopies': WHATEVER THE INPUT: true; the input reads as it did. -/
def regCopiesSpec : ChangeSpec := { name := "regCopies", fn := fun _ => fun
  | [d1, d2] => { results := [.lit (.bool true)], args := [d1, d2] }
  | _ => none }
def regCopiesRow : OpenClaim := { program := "ytecnddhfjjnbkaadoor", sum := "16eed475b71d014c3980b0353d321ef56ed91b892bcc9b1fac788e24960ab011", func := "squint/squintlaw14.RegCopies", spec := "regCopies", unfollowed := true, recurses := true, named := ["squint/state.table"], apart := false, laid := [("squint/state.table", laid_squint_state_table)] }
def RegCopiesSaid : Prop := regCopiesRow.holds Tryd.pinned (OpenSpec.ofChange regCopiesSpec)

/-- ITS FALSE NEIGHBOUR: 'it returns false'. Refute it at one input. -/
def regCopiesWrong : ChangeSpec := { name := "regCopies", fn := fun _ => fun
  | [d1, d2] => { results := [.lit (.bool false)], args := [d1, d2] }
  | _ => none }
def RegCopiesWrongFalsely : Prop := regCopiesRow.holds Tryd.pinned (OpenSpec.ofChange regCopiesWrong)

/- THE SECOND FORM. 'bulk': how many values and letters a reading holds, each counted each time it is reached (what is shared counts as often as it is met; a slice's spare places count too). A statement '..UptoSaid' is the law's where the arguments, and the package variables that the reading takes, are together of bulk at most 1048576: NARROWER than '..Said'. Prove '..Said' where nothing that the law and all that it calls make is longer than what came in: it says more and counts as full. Else prove '..UptoSaid'. A law counts once. -/
mutual
def uptoBulk {H : Type} : DataW H → Nat
  | .lit (.string bytes) => bytes.length + 1
  | .lit _ => 1
  | .nil => 1
  | .ptr d => uptoBulk d + 1
  | .slice elems spare => uptoBulkAll elems + uptoBulkAll spare + 1
  | .agg parts => uptoBulkAll parts + 1
  | .iface _ d => uptoBulk d + 1
  | .map entries => uptoBulkEntries entries + 1
  | .held _ => 1
def uptoBulkAll {H : Type} : List (DataW H) → Nat
  | [] => 0
  | d :: r => uptoBulk d + uptoBulkAll r
def uptoBulkEntries {H : Type} : List (Lit × DataW H) → Nat
  | [] => 0
  | x :: r => uptoBulkEntry x + uptoBulkEntries r
def uptoBulkEntry {H : Type} : Lit × DataW H → Nat
  | (.string bytes, d) => bytes.length + uptoBulk d + 1
  | (_, d) => uptoBulk d + 1
 end
def uptoSmall : (H : Type) → List (DataW H) → Bool := fun _ ds => decide (uptoBulkAll ds ≤ 1048576)
def OpenSpec.upto (s : _root_.Go.ChangeSpec) : _root_.Go.OpenSpec := { _root_.Go.OpenSpec.ofChange s with cond := some uptoSmall }

/-- 'squintlaw14.RegOwners', WHERE WHAT IT READS IS OF BULK AT MOST 1048576: true; the input reads as it did. -/
def regOwnersUptoRow : OpenClaim := { program := "ytecnddhfjjnbkaadoor", sum := "16eed475b71d014c3980b0353d321ef56ed91b892bcc9b1fac788e24960ab011", func := "squint/squintlaw14.RegOwners", spec := "regOwners", named := ["squint/state.table"], apart := false, laid := [("squint/state.table", laid_squint_state_table)], narrowed := true }
def RegOwnersUptoSaid : Prop := regOwnersUptoRow.holds Tryd.pinned (OpenSpec.upto regOwnersSpec)

/-- 'squintlaw14.RegAlone', WHERE WHAT IT READS IS OF BULK AT MOST 1048576: true; the input reads as it did. -/
def regAloneUptoRow : OpenClaim := { program := "ytecnddhfjjnbkaadoor", sum := "16eed475b71d014c3980b0353d321ef56ed91b892bcc9b1fac788e24960ab011", func := "squint/squintlaw14.RegAlone", spec := "regAlone", unfollowed := true, recurses := true, named := ["squint/state.table"], apart := false, laid := [("squint/state.table", laid_squint_state_table)], narrowed := true }
def RegAloneUptoSaid : Prop := regAloneUptoRow.holds Tryd.pinned (OpenSpec.upto regAloneSpec)

/-- 'squintlaw14.RegPlays', WHERE WHAT IT READS IS OF BULK AT MOST 1048576: true; the input reads as it did. -/
def regPlaysUptoRow : OpenClaim := { program := "ytecnddhfjjnbkaadoor", sum := "16eed475b71d014c3980b0353d321ef56ed91b892bcc9b1fac788e24960ab011", func := "squint/squintlaw14.RegPlays", spec := "regPlays", unfollowed := true, recurses := true, named := ["squint/state.table"], apart := false, laid := [("squint/state.table", laid_squint_state_table)], narrowed := true }
def RegPlaysUptoSaid : Prop := regPlaysUptoRow.holds Tryd.pinned (OpenSpec.upto regPlaysSpec)

/-- 'squintlaw14.RegCopies', WHERE WHAT IT READS IS OF BULK AT MOST 1048576: true; the input reads as it did. -/
def regCopiesUptoRow : OpenClaim := { program := "ytecnddhfjjnbkaadoor", sum := "16eed475b71d014c3980b0353d321ef56ed91b892bcc9b1fac788e24960ab011", func := "squint/squintlaw14.RegCopies", spec := "regCopies", unfollowed := true, recurses := true, named := ["squint/state.table"], apart := false, laid := [("squint/state.table", laid_squint_state_table)], narrowed := true }
def RegCopiesUptoSaid : Prop := regCopiesUptoRow.holds Tryd.pinned (OpenSpec.upto regCopiesSpec)

end Rows
end Go.Proofs.YtecnddhfjjnbkaaDoor
