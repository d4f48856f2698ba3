/-
  NARROWER THAN 'FOR EVERY INPUT', by the rows' own cells (each row's printed sentence says how): StateRuns: laid · StateCounts: laid · StateSteps: laid · StateEnds: laid.
  DERIVED. THE GIVEN ROWS OF THIS SEAT. 4 by the template 'for every input the law returns true; each argument reads behind the call as it read before'; 0 by the template 'total and deterministic' (their statements: YtdmfapmdjhjlhaaDoorTotals.lean).
  GIVEN WITH THE SEED: the statements are not yours to turn. If you find one false, say at which input.
  Laid BY PROGRAM, IN A SANDBOX (cutbox-rows.mjs): the forced cells as the released guide's own fill.sh prints them over the translation d7bf42e53136c3f2… (all of the seat's roots in one cut). By AI agents, Wed Nov 11 2026. No macro, syntax, notation, axiom, sorry.
-/
import Derived.Test.YtdmfapmdjhjlhaaDoorChecked
import GoSem.Claim
import GoSem.ClaimJoined
import GoSem.ClaimMapViews
import Derived.JoinedTies
import Derived.KernelRfl
namespace Go.Proofs.YtdmfapmdjhjlhaaDoor
/- THE CELL 'sum', in the pinned program and in every row, IS THE sha256 OF THE DUMP (.gsa) THAT YtdmfapmdjhjlhaaDoorProg.lean LOADS. Nothing in Lean hashes anything: it is a label: what it is worth is what the hold of that sum in a sandbox is worth. -/
noncomputable def Tryd.pinned : Pinned := { name := "ytdmfapmdjhjlhaadoor", sum := "d7bf42e53136c3f2a03c9bf9e74ce361640ac2c836d13dfad2848535c273e581", checked := Tryd.checked }
namespace Rows
def none {H : Type} : Left H := { results := [], args := [] }

/- WHAT THE LISTED PACKAGE-LEVEL VARIABLES READ AS WHEN THE CALL BEGINS. Each datum BY PROGRAM (the guide's laid-datum.mjs) off the statement by which the dump's own 'gosem.cut.vars' lays the variable. In a bare row this is a premise. The card (YtdmfapmdjhjlhaaDoorCards.lean) ties it to the program's text. -/
def laid_squint_state_table {H : Type} : DataW H := .agg [.agg [.lit (.int .i64 1), .lit (.int .i64 (-1)), .lit (.int .i64 (-1)), .lit (.int .i64 (-1)), .lit (.int .i64 (-2)), .lit (.int .i64 (-2)), .lit (.int .i64 (-2)), .lit (.int .i64 (-2)), .lit (.int .i64 (-2))], .agg [.lit (.int .i64 1), .lit (.int .i64 1), .lit (.int .i64 3), .lit (.int .i64 4), .lit (.int .i64 1), .lit (.int .i64 1), .lit (.int .i64 2), .lit (.int .i64 4), .lit (.int .i64 1)], .agg [.lit (.int .i64 2), .lit (.int .i64 2), .lit (.int .i64 4), .lit (.int .i64 4), .lit (.int .i64 (-3)), .lit (.int .i64 (-3)), .lit (.int .i64 (-3)), .lit (.int .i64 4), .lit (.int .i64 2)], .agg [.lit (.int .i64 (-1)), .lit (.int .i64 (-1)), .lit (.int .i64 (-1)), .lit (.int .i64 4), .lit (.int .i64 3), .lit (.int .i64 3), .lit (.int .i64 4), .lit (.int .i64 4), .lit (.int .i64 3)], .agg [.lit (.int .i64 (-1)), .lit (.int .i64 (-1)), .lit (.int .i64 (-1)), .lit (.int .i64 (-1)), .lit (.int .i64 (-3)), .lit (.int .i64 (-3)), .lit (.int .i64 (-3)), .lit (.int .i64 4), .lit (.int .i64 4)]]

/-- 'squintlaw13.StateRuns': WHATEVER THE INPUT: true; the input reads as it did. -/
def stateRunsSpec : ChangeSpec := { name := "stateRuns", fn := fun _ => fun
  | [d] => { results := [.lit (.bool true)], args := [d] }
  | _ => none }
def stateRunsRow : OpenClaim := { program := "ytdmfapmdjhjlhaadoor", sum := "d7bf42e53136c3f2a03c9bf9e74ce361640ac2c836d13dfad2848535c273e581", func := "squint/squintlaw13.StateRuns", spec := "stateRuns", named := ["squint/state.table"], apart := false, laid := [("squint/state.table", laid_squint_state_table)] }
def StateRunsSaid : Prop := stateRunsRow.holds Tryd.pinned (OpenSpec.ofChange stateRunsSpec)

/-- ITS FALSE NEIGHBOUR: 'it returns false'. Refute it at one input. -/
def stateRunsWrong : ChangeSpec := { name := "stateRuns", fn := fun _ => fun
  | [d] => { results := [.lit (.bool false)], args := [d] }
  | _ => none }
def StateRunsWrongFalsely : Prop := stateRunsRow.holds Tryd.pinned (OpenSpec.ofChange stateRunsWrong)

/-- 'squintlaw13.StateCounts': WHATEVER THE INPUT: true; the input reads as it did. -/
def stateCountsSpec : ChangeSpec := { name := "stateCounts", fn := fun _ => fun
  | [d] => { results := [.lit (.bool true)], args := [d] }
  | _ => none }
def stateCountsRow : OpenClaim := { program := "ytdmfapmdjhjlhaadoor", sum := "d7bf42e53136c3f2a03c9bf9e74ce361640ac2c836d13dfad2848535c273e581", func := "squint/squintlaw13.StateCounts", spec := "stateCounts", named := ["squint/state.table"], apart := false, laid := [("squint/state.table", laid_squint_state_table)] }
def StateCountsSaid : Prop := stateCountsRow.holds Tryd.pinned (OpenSpec.ofChange stateCountsSpec)

/-- ITS FALSE NEIGHBOUR: 'it returns false'. Refute it at one input. -/
def stateCountsWrong : ChangeSpec := { name := "stateCounts", fn := fun _ => fun
  | [d] => { results := [.lit (.bool false)], args := [d] }
  | _ => none }
def StateCountsWrongFalsely : Prop := stateCountsRow.holds Tryd.pinned (OpenSpec.ofChange stateCountsWrong)

/-- 'squintlaw13.StateSteps': WHATEVER THE INPUT: true; the input reads as it did. -/
def stateStepsSpec : ChangeSpec := { name := "stateSteps", fn := fun _ => fun
  | [d1, d2] => { results := [.lit (.bool true)], args := [d1, d2] }
  | _ => none }
def stateStepsRow : OpenClaim := { program := "ytdmfapmdjhjlhaadoor", sum := "d7bf42e53136c3f2a03c9bf9e74ce361640ac2c836d13dfad2848535c273e581", func := "squint/squintlaw13.StateSteps", spec := "stateSteps", named := ["squint/state.table"], apart := false, laid := [("squint/state.table", laid_squint_state_table)] }
def StateStepsSaid : Prop := stateStepsRow.holds Tryd.pinned (OpenSpec.ofChange stateStepsSpec)

/-- ITS FALSE NEIGHBOUR: 'it returns false'. Refute it at one input. -/
def stateStepsWrong : ChangeSpec := { name := "stateSteps", fn := fun _ => fun
  | [d1, d2] => { results := [.lit (.bool false)], args := [d1, d2] }
  | _ => none }
def StateStepsWrongFalsely : Prop := stateStepsRow.holds Tryd.pinned (OpenSpec.ofChange stateStepsWrong)

/-- 'squintlaw13.StateEnds': WHATEVER THE INPUT: true; the input reads as it did. -/
def stateEndsSpec : ChangeSpec := { name := "stateEnds", fn := fun _ => fun
  | [d] => { results := [.lit (.bool true)], args := [d] }
  | _ => none }
def stateEndsRow : OpenClaim := { program := "ytdmfapmdjhjlhaadoor", sum := "d7bf42e53136c3f2a03c9bf9e74ce361640ac2c836d13dfad2848535c273e581", func := "squint/squintlaw13.StateEnds", spec := "stateEnds", named := ["squint/state.table"], apart := false, laid := [("squint/state.table", laid_squint_state_table)] }
def StateEndsSaid : Prop := stateEndsRow.holds Tryd.pinned (OpenSpec.ofChange stateEndsSpec)

/-- ITS FALSE NEIGHBOUR: 'it returns false'. Refute it at one input. -/
def stateEndsWrong : ChangeSpec := { name := "stateEnds", fn := fun _ => fun
  | [d] => { results := [.lit (.bool false)], args := [d] }
  | _ => none }
def StateEndsWrongFalsely : Prop := stateEndsRow.holds Tryd.pinned (OpenSpec.ofChange stateEndsWrong)

/- THE SECOND FORM. 'bulk': how many values and letters a reading holds, each counted each time it is reached (what is shared counts as often as it is met; a slice's spare places count too). A statement '..UptoSaid' is the law's where the arguments, and the package variables that the reading takes, are together of bulk at most 1048576: NARROWER than '..Said'. Prove '..Said' where nothing that the law and all that it calls make is longer than what came in: it says more and counts as full. Else prove '..UptoSaid'. A law counts once. -/
mutual
def uptoBulk {H : Type} : DataW H → Nat
  | .lit (.string bytes) => bytes.length + 1
  | .lit _ => 1
  | .nil => 1
  | .ptr d => uptoBulk d + 1
  | .slice elems spare => uptoBulkAll elems + uptoBulkAll spare + 1
  | .agg parts => uptoBulkAll parts + 1
  | .iface _ d => uptoBulk d + 1
  | .map entries => uptoBulkEntries entries + 1
  | .held _ => 1
def uptoBulkAll {H : Type} : List (DataW H) → Nat
  | [] => 0
  | d :: r => uptoBulk d + uptoBulkAll r
def uptoBulkEntries {H : Type} : List (Lit × DataW H) → Nat
  | [] => 0
  | x :: r => uptoBulkEntry x + uptoBulkEntries r
def uptoBulkEntry {H : Type} : Lit × DataW H → Nat
  | (.string bytes, d) => bytes.length + uptoBulk d + 1
  | (_, d) => uptoBulk d + 1
 end
def uptoSmall : (H : Type) → List (DataW H) → Bool := fun _ ds => decide (uptoBulkAll ds ≤ 1048576)
def OpenSpec.upto (s : _root_.Go.ChangeSpec) : _root_.Go.OpenSpec := { _root_.Go.OpenSpec.ofChange s with cond := some uptoSmall }

/-- 'squintlaw13.StateRuns', WHERE WHAT IT READS IS OF BULK AT MOST 1048576: true; the input reads as it did. -/
def stateRunsUptoRow : OpenClaim := { program := "ytdmfapmdjhjlhaadoor", sum := "d7bf42e53136c3f2a03c9bf9e74ce361640ac2c836d13dfad2848535c273e581", func := "squint/squintlaw13.StateRuns", spec := "stateRuns", named := ["squint/state.table"], apart := false, laid := [("squint/state.table", laid_squint_state_table)], narrowed := true }
def StateRunsUptoSaid : Prop := stateRunsUptoRow.holds Tryd.pinned (OpenSpec.upto stateRunsSpec)

/-- 'squintlaw13.StateCounts', WHERE WHAT IT READS IS OF BULK AT MOST 1048576: true; the input reads as it did. -/
def stateCountsUptoRow : OpenClaim := { program := "ytdmfapmdjhjlhaadoor", sum := "d7bf42e53136c3f2a03c9bf9e74ce361640ac2c836d13dfad2848535c273e581", func := "squint/squintlaw13.StateCounts", spec := "stateCounts", named := ["squint/state.table"], apart := false, laid := [("squint/state.table", laid_squint_state_table)], narrowed := true }
def StateCountsUptoSaid : Prop := stateCountsUptoRow.holds Tryd.pinned (OpenSpec.upto stateCountsSpec)

/-- 'squintlaw13.StateSteps', WHERE WHAT IT READS IS OF BULK AT MOST 1048576: true; the input reads as it did. -/
def stateStepsUptoRow : OpenClaim := { program := "ytdmfapmdjhjlhaadoor", sum := "d7bf42e53136c3f2a03c9bf9e74ce361640ac2c836d13dfad2848535c273e581", func := "squint/squintlaw13.StateSteps", spec := "stateSteps", named := ["squint/state.table"], apart := false, laid := [("squint/state.table", laid_squint_state_table)], narrowed := true }
def StateStepsUptoSaid : Prop := stateStepsUptoRow.holds Tryd.pinned (OpenSpec.upto stateStepsSpec)

/-- 'squintlaw13.StateEnds', WHERE WHAT IT READS IS OF BULK AT MOST 1048576: true; the input reads as it did. -/
def stateEndsUptoRow : OpenClaim := { program := "ytdmfapmdjhjlhaadoor", sum := "d7bf42e53136c3f2a03c9bf9e74ce361640ac2c836d13dfad2848535c273e581", func := "squint/squintlaw13.StateEnds", spec := "stateEnds", named := ["squint/state.table"], apart := false, laid := [("squint/state.table", laid_squint_state_table)], narrowed := true }
def StateEndsUptoSaid : Prop := stateEndsUptoRow.holds Tryd.pinned (OpenSpec.upto stateEndsSpec)

end Rows
end Go.Proofs.YtdmfapmdjhjlhaaDoor
