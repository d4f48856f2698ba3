/-
  No cell of these rows narrows 'for every input' (looked for: loops, veiled, ifaces, maps, wideKeys, modest, calm, conditions, laid).
  DERIVED. THE GIVEN ROWS OF THIS SEAT. 6 by the template 'for every input the law returns true; each argument reads behind the call as it read before'; 0 by the template 'total and deterministic' (their statements: YthenpoammpkjeaaTotals.lean).
  GIVEN WITH THE SEED: the statements are not yours to turn. If you find one false, say at which input.
  Laid BY PROGRAM, IN A SANDBOX (cutbox-rows.mjs): the forced cells as the released guide's own fill.sh prints them over the translation dec9427aa552dd3f… (all of the seat's roots in one cut). By AI agents, Wed Nov 11 2026. No macro, syntax, notation, axiom, sorry.
-/
import Derived.Test.YthenpoammpkjeaaChecked
import GoSem.Claim
import GoSem.ClaimJoined
import GoSem.ClaimMapViews
import Derived.JoinedTies
import Derived.KernelRfl
namespace Go.Proofs.Ythenpoammpkjeaa
/- THE CELL 'sum', in the pinned program and in every row, IS THE sha256 OF THE DUMP (.gsa) THAT YthenpoammpkjeaaProg.lean LOADS. Nothing in Lean hashes anything: it is a label: what it is worth is what the hold of that sum in a sandbox is worth. -/
noncomputable def Try.pinned : Pinned := { name := "ythenpoammpkjeaa", sum := "dec9427aa552dd3fa3954b028a02a8d70c17da07a19ba1803d88d3340d125715", checked := Try.checked }
namespace Rows
def none {H : Type} : Left H := { results := [], args := [] }

/-- 'squintlaw20.CellFills': WHATEVER THE INPUT: true; the input reads as it did. -/
def cellFillsSpec : ChangeSpec := { name := "cellFills", fn := fun _ => fun
  | [d1, d2] => { results := [.lit (.bool true)], args := [d1, d2] }
  | _ => none }
def cellFillsRow : OpenClaim := { program := "ythenpoammpkjeaa", sum := "dec9427aa552dd3fa3954b028a02a8d70c17da07a19ba1803d88d3340d125715", func := "squint/squintlaw20.CellFills", spec := "cellFills", apart := false }
def CellFillsSaid : Prop := cellFillsRow.holds Try.pinned (OpenSpec.ofChange cellFillsSpec)

/-- ITS FALSE NEIGHBOUR: 'it returns false'. Refute it at one input. -/
def cellFillsWrong : ChangeSpec := { name := "cellFills", fn := fun _ => fun
  | [d1, d2] => { results := [.lit (.bool false)], args := [d1, d2] }
  | _ => none }
def CellFillsWrongFalsely : Prop := cellFillsRow.holds Try.pinned (OpenSpec.ofChange cellFillsWrong)

/-- 'squintlaw20.CellCounts': WHATEVER THE INPUT: true; the input reads as it did. -/
def cellCountsSpec : ChangeSpec := { name := "cellCounts", fn := fun _ => fun
  | [d1, d2] => { results := [.lit (.bool true)], args := [d1, d2] }
  | _ => none }
def cellCountsRow : OpenClaim := { program := "ythenpoammpkjeaa", sum := "dec9427aa552dd3fa3954b028a02a8d70c17da07a19ba1803d88d3340d125715", func := "squint/squintlaw20.CellCounts", spec := "cellCounts", apart := false }
def CellCountsSaid : Prop := cellCountsRow.holds Try.pinned (OpenSpec.ofChange cellCountsSpec)

/-- ITS FALSE NEIGHBOUR: 'it returns false'. Refute it at one input. -/
def cellCountsWrong : ChangeSpec := { name := "cellCounts", fn := fun _ => fun
  | [d1, d2] => { results := [.lit (.bool false)], args := [d1, d2] }
  | _ => none }
def CellCountsWrongFalsely : Prop := cellCountsRow.holds Try.pinned (OpenSpec.ofChange cellCountsWrong)

/-- 'squintlaw20.CellReads': WHATEVER THE INPUT: true; the input reads as it did. -/
def cellReadsSpec : ChangeSpec := { name := "cellReads", fn := fun _ => fun
  | [d1, d2] => { results := [.lit (.bool true)], args := [d1, d2] }
  | _ => none }
def cellReadsRow : OpenClaim := { program := "ythenpoammpkjeaa", sum := "dec9427aa552dd3fa3954b028a02a8d70c17da07a19ba1803d88d3340d125715", func := "squint/squintlaw20.CellReads", spec := "cellReads", unfollowed := true, recurses := true, apart := false }
def CellReadsSaid : Prop := cellReadsRow.holds Try.pinned (OpenSpec.ofChange cellReadsSpec)

/-- ITS FALSE NEIGHBOUR: 'it returns false'. Refute it at one input. -/
def cellReadsWrong : ChangeSpec := { name := "cellReads", fn := fun _ => fun
  | [d1, d2] => { results := [.lit (.bool false)], args := [d1, d2] }
  | _ => none }
def CellReadsWrongFalsely : Prop := cellReadsRow.holds Try.pinned (OpenSpec.ofChange cellReadsWrong)

/-- 'squintlaw20.CellAlike': WHATEVER THE INPUT: true; the input reads as it did. -/
def cellAlikeSpec : ChangeSpec := { name := "cellAlike", fn := fun _ => fun
  | [d1, d2, d3] => { results := [.lit (.bool true)], args := [d1, d2, d3] }
  | _ => none }
def cellAlikeRow : OpenClaim := { program := "ythenpoammpkjeaa", sum := "dec9427aa552dd3fa3954b028a02a8d70c17da07a19ba1803d88d3340d125715", func := "squint/squintlaw20.CellAlike", spec := "cellAlike", unfollowed := true, recurses := true, apart := false }
def CellAlikeSaid : Prop := cellAlikeRow.holds Try.pinned (OpenSpec.ofChange cellAlikeSpec)

/-- ITS FALSE NEIGHBOUR: 'it returns false'. Refute it at one input. -/
def cellAlikeWrong : ChangeSpec := { name := "cellAlike", fn := fun _ => fun
  | [d1, d2, d3] => { results := [.lit (.bool false)], args := [d1, d2, d3] }
  | _ => none }
def CellAlikeWrongFalsely : Prop := cellAlikeRow.holds Try.pinned (OpenSpec.ofChange cellAlikeWrong)

/-- 'squintlaw20.CellOpens': WHATEVER THE INPUT: true; the input reads as it did. -/
def cellOpensSpec : ChangeSpec := { name := "cellOpens", fn := fun _ => fun
  | [d1, d2] => { results := [.lit (.bool true)], args := [d1, d2] }
  | _ => none }
def cellOpensRow : OpenClaim := { program := "ythenpoammpkjeaa", sum := "dec9427aa552dd3fa3954b028a02a8d70c17da07a19ba1803d88d3340d125715", func := "squint/squintlaw20.CellOpens", spec := "cellOpens", unfollowed := true, recurses := true, apart := false }
def CellOpensSaid : Prop := cellOpensRow.holds Try.pinned (OpenSpec.ofChange cellOpensSpec)

/-- ITS FALSE NEIGHBOUR: 'it returns false'. Refute it at one input. -/
def cellOpensWrong : ChangeSpec := { name := "cellOpens", fn := fun _ => fun
  | [d1, d2] => { results := [.lit (.bool false)], args := [d1, d2] }
  | _ => none }
def CellOpensWrongFalsely : Prop := cellOpensRow.holds Try.pinned (OpenSpec.ofChange cellOpensWrong)

/-- 'squintlaw20.CellPads': WHATEVER THE INPUT: true; the input reads as it did. -/
def cellPadsSpec : ChangeSpec := { name := "cellPads", fn := fun _ => fun
  | [d] => { results := [.lit (.bool true)], args := [d] }
  | _ => none }
def cellPadsRow : OpenClaim := { program := "ythenpoammpkjeaa", sum := "dec9427aa552dd3fa3954b028a02a8d70c17da07a19ba1803d88d3340d125715", func := "squint/squintlaw20.CellPads", spec := "cellPads", unfollowed := true, recurses := true, apart := false }
def CellPadsSaid : Prop := cellPadsRow.holds Try.pinned (OpenSpec.ofChange cellPadsSpec)

/-- ITS FALSE NEIGHBOUR: 'it returns false'. Refute it at one input. -/
def cellPadsWrong : ChangeSpec := { name := "cellPads", fn := fun _ => fun
  | [d] => { results := [.lit (.bool false)], args := [d] }
  | _ => none }
def CellPadsWrongFalsely : Prop := cellPadsRow.holds Try.pinned (OpenSpec.ofChange cellPadsWrong)

/- THE SECOND FORM. 'bulk': how many values and letters a reading holds, each counted each time it is reached (what is shared counts as often as it is met; a slice's spare places count too). A statement '..UptoSaid' is the law's where the arguments, and the package variables that the reading takes, are together of bulk at most 1048576: NARROWER than '..Said'. Prove '..Said' where nothing that the law and all that it calls make is longer than what came in: it says more and counts as full. Else prove '..UptoSaid'. A law counts once. -/
mutual
def uptoBulk {H : Type} : DataW H → Nat
  | .lit (.string bytes) => bytes.length + 1
  | .lit _ => 1
  | .nil => 1
  | .ptr d => uptoBulk d + 1
  | .slice elems spare => uptoBulkAll elems + uptoBulkAll spare + 1
  | .agg parts => uptoBulkAll parts + 1
  | .iface _ d => uptoBulk d + 1
  | .map entries => uptoBulkEntries entries + 1
  | .held _ => 1
def uptoBulkAll {H : Type} : List (DataW H) → Nat
  | [] => 0
  | d :: r => uptoBulk d + uptoBulkAll r
def uptoBulkEntries {H : Type} : List (Lit × DataW H) → Nat
  | [] => 0
  | x :: r => uptoBulkEntry x + uptoBulkEntries r
def uptoBulkEntry {H : Type} : Lit × DataW H → Nat
  | (.string bytes, d) => bytes.length + uptoBulk d + 1
  | (_, d) => uptoBulk d + 1
 end
def uptoSmall : (H : Type) → List (DataW H) → Bool := fun _ ds => decide (uptoBulkAll ds ≤ 1048576)
def OpenSpec.upto (s : _root_.Go.ChangeSpec) : _root_.Go.OpenSpec := { _root_.Go.OpenSpec.ofChange s with cond := some uptoSmall }

/-- 'squintlaw20.CellFills', WHERE WHAT IT READS IS OF BULK AT MOST 1048576: true; the input reads as it did. -/
def cellFillsUptoRow : OpenClaim := { program := "ythenpoammpkjeaa", sum := "dec9427aa552dd3fa3954b028a02a8d70c17da07a19ba1803d88d3340d125715", func := "squint/squintlaw20.CellFills", spec := "cellFills", apart := false, narrowed := true }
def CellFillsUptoSaid : Prop := cellFillsUptoRow.holds Try.pinned (OpenSpec.upto cellFillsSpec)

/-- 'squintlaw20.CellCounts', WHERE WHAT IT READS IS OF BULK AT MOST 1048576: true; the input reads as it did. -/
def cellCountsUptoRow : OpenClaim := { program := "ythenpoammpkjeaa", sum := "dec9427aa552dd3fa3954b028a02a8d70c17da07a19ba1803d88d3340d125715", func := "squint/squintlaw20.CellCounts", spec := "cellCounts", apart := false, narrowed := true }
def CellCountsUptoSaid : Prop := cellCountsUptoRow.holds Try.pinned (OpenSpec.upto cellCountsSpec)

/-- 'squintlaw20.CellReads', WHERE WHAT IT READS IS OF BULK AT MOST 1048576: true; the input reads as it did. -/
def cellReadsUptoRow : OpenClaim := { program := "ythenpoammpkjeaa", sum := "dec9427aa552dd3fa3954b028a02a8d70c17da07a19ba1803d88d3340d125715", func := "squint/squintlaw20.CellReads", spec := "cellReads", unfollowed := true, recurses := true, apart := false, narrowed := true }
def CellReadsUptoSaid : Prop := cellReadsUptoRow.holds Try.pinned (OpenSpec.upto cellReadsSpec)

/-- 'squintlaw20.CellAlike', WHERE WHAT IT READS IS OF BULK AT MOST 1048576: true; the input reads as it did. -/
def cellAlikeUptoRow : OpenClaim := { program := "ythenpoammpkjeaa", sum := "dec9427aa552dd3fa3954b028a02a8d70c17da07a19ba1803d88d3340d125715", func := "squint/squintlaw20.CellAlike", spec := "cellAlike", unfollowed := true, recurses := true, apart := false, narrowed := true }
def CellAlikeUptoSaid : Prop := cellAlikeUptoRow.holds Try.pinned (OpenSpec.upto cellAlikeSpec)

/-- 'squintlaw20.CellOpens', WHERE WHAT IT READS IS OF BULK AT MOST 1048576: true; the input reads as it did. -/
def cellOpensUptoRow : OpenClaim := { program := "ythenpoammpkjeaa", sum := "dec9427aa552dd3fa3954b028a02a8d70c17da07a19ba1803d88d3340d125715", func := "squint/squintlaw20.CellOpens", spec := "cellOpens", unfollowed := true, recurses := true, apart := false, narrowed := true }
def CellOpensUptoSaid : Prop := cellOpensUptoRow.holds Try.pinned (OpenSpec.upto cellOpensSpec)

/-- 'squintlaw20.CellPads', WHERE WHAT IT READS IS OF BULK AT MOST 1048576: true; the input reads as it did. -/
def cellPadsUptoRow : OpenClaim := { program := "ythenpoammpkjeaa", sum := "dec9427aa552dd3fa3954b028a02a8d70c17da07a19ba1803d88d3340d125715", func := "squint/squintlaw20.CellPads", spec := "cellPads", unfollowed := true, recurses := true, apart := false, narrowed := true }
def CellPadsUptoSaid : Prop := cellPadsUptoRow.holds Try.pinned (OpenSpec.upto cellPadsSpec)

end Rows
end Go.Proofs.Ythenpoammpkjeaa
