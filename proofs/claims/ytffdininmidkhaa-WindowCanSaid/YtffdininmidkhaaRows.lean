/-
  No cell of these rows narrows 'for every input' (looked for: loops, veiled, ifaces, maps, wideKeys, modest, calm, conditions, laid).
  DERIVED. THE GIVEN ROWS OF THIS SEAT. 5 by the template 'for every input the law returns true; each argument reads behind the call as it read before'; 0 by the template 'total and deterministic' (their statements: YtffdininmidkhaaTotals.lean).
  GIVEN WITH THE SEED: the statements are not yours to turn. If you find one false, say at which input.
  Laid BY PROGRAM, IN A SANDBOX (cutbox-rows.mjs): the forced cells as the released guide's own fill.sh prints them over the translation 28d97ad4e50aada7… (all of the seat's roots in one cut). By AI agents, Wed Nov 11 2026. No macro, syntax, notation, axiom, sorry.
-/
import Derived.Test.YtffdininmidkhaaChecked
import GoSem.Claim
import GoSem.ClaimJoined
import GoSem.ClaimMapViews
import Derived.JoinedTies
import Derived.KernelRfl
namespace Go.Proofs.Ytffdininmidkhaa
/- THE CELL 'sum', in the pinned program and in every row, IS THE sha256 OF THE DUMP (.gsa) THAT YtffdininmidkhaaProg.lean LOADS. Nothing in Lean hashes anything: it is a label: what it is worth is what the hold of that sum in a sandbox is worth. -/
noncomputable def Try.pinned : Pinned := { name := "ytffdininmidkhaa", sum := "28d97ad4e50aada7d7fc7f345114af133f6dac36dc1c52632e6dbe41d65b4ec0", checked := Try.checked }
namespace Rows
def none {H : Type} : Left H := { results := [], args := [] }

/-- 'squintlaw15.WindowPlays': WHATEVER THE INPUT: true; the input reads as it did. -/
def windowPlaysSpec : ChangeSpec := { name := "windowPlays", fn := fun _ => fun
  | [d1, d2] => { results := [.lit (.bool true)], args := [d1, d2] }
  | _ => none }
def windowPlaysRow : OpenClaim := { program := "ytffdininmidkhaa", sum := "28d97ad4e50aada7d7fc7f345114af133f6dac36dc1c52632e6dbe41d65b4ec0", func := "squint/squintlaw15.WindowPlays", spec := "windowPlays", apart := false }
def WindowPlaysSaid : Prop := windowPlaysRow.holds Try.pinned (OpenSpec.ofChange windowPlaysSpec)

/-- ITS FALSE NEIGHBOUR: 'it returns false'. Refute it at one input. -/
def windowPlaysWrong : ChangeSpec := { name := "windowPlays", fn := fun _ => fun
  | [d1, d2] => { results := [.lit (.bool false)], args := [d1, d2] }
  | _ => none }
def WindowPlaysWrongFalsely : Prop := windowPlaysRow.holds Try.pinned (OpenSpec.ofChange windowPlaysWrong)

/-- 'squintlaw15.WindowCan': WHATEVER THE INPUT: true; the input reads as it did. -/
def windowCanSpec : ChangeSpec := { name := "windowCan", fn := fun _ => fun
  | [d1, d2, d3] => { results := [.lit (.bool true)], args := [d1, d2, d3] }
  | _ => none }
def windowCanRow : OpenClaim := { program := "ytffdininmidkhaa", sum := "28d97ad4e50aada7d7fc7f345114af133f6dac36dc1c52632e6dbe41d65b4ec0", func := "squint/squintlaw15.WindowCan", spec := "windowCan", apart := false }
def WindowCanSaid : Prop := windowCanRow.holds Try.pinned (OpenSpec.ofChange windowCanSpec)

/-- ITS FALSE NEIGHBOUR: 'it returns false'. Refute it at one input. -/
def windowCanWrong : ChangeSpec := { name := "windowCan", fn := fun _ => fun
  | [d1, d2, d3] => { results := [.lit (.bool false)], args := [d1, d2, d3] }
  | _ => none }
def WindowCanWrongFalsely : Prop := windowCanRow.holds Try.pinned (OpenSpec.ofChange windowCanWrong)

/-- 'squintlaw15.WindowNever': WHATEVER THE INPUT: true; the input reads as it did. -/
def windowNeverSpec : ChangeSpec := { name := "windowNever", fn := fun _ => fun
  | [d1, d2] => { results := [.lit (.bool true)], args := [d1, d2] }
  | _ => none }
def windowNeverRow : OpenClaim := { program := "ytffdininmidkhaa", sum := "28d97ad4e50aada7d7fc7f345114af133f6dac36dc1c52632e6dbe41d65b4ec0", func := "squint/squintlaw15.WindowNever", spec := "windowNever", apart := false }
def WindowNeverSaid : Prop := windowNeverRow.holds Try.pinned (OpenSpec.ofChange windowNeverSpec)

/-- ITS FALSE NEIGHBOUR: 'it returns false'. Refute it at one input. -/
def windowNeverWrong : ChangeSpec := { name := "windowNever", fn := fun _ => fun
  | [d1, d2] => { results := [.lit (.bool false)], args := [d1, d2] }
  | _ => none }
def WindowNeverWrongFalsely : Prop := windowNeverRow.holds Try.pinned (OpenSpec.ofChange windowNeverWrong)

/-- 'squintlaw15.WindowParts': WHATEVER THE INPUT: true; the input reads as it did. -/
def windowPartsSpec : ChangeSpec := { name := "windowParts", fn := fun _ => fun
  | [d1, d2] => { results := [.lit (.bool true)], args := [d1, d2] }
  | _ => none }
def windowPartsRow : OpenClaim := { program := "ytffdininmidkhaa", sum := "28d97ad4e50aada7d7fc7f345114af133f6dac36dc1c52632e6dbe41d65b4ec0", func := "squint/squintlaw15.WindowParts", spec := "windowParts", apart := false }
def WindowPartsSaid : Prop := windowPartsRow.holds Try.pinned (OpenSpec.ofChange windowPartsSpec)

/-- ITS FALSE NEIGHBOUR: 'it returns false'. Refute it at one input. -/
def windowPartsWrong : ChangeSpec := { name := "windowParts", fn := fun _ => fun
  | [d1, d2] => { results := [.lit (.bool false)], args := [d1, d2] }
  | _ => none }
def WindowPartsWrongFalsely : Prop := windowPartsRow.holds Try.pinned (OpenSpec.ofChange windowPartsWrong)

/-- 'squintlaw15.WindowOwed': WHATEVER THE INPUT: true; the input reads as it did. -/
def windowOwedSpec : ChangeSpec := { name := "windowOwed", fn := fun _ => fun
  | [d1, d2, d3] => { results := [.lit (.bool true)], args := [d1, d2, d3] }
  | _ => none }
def windowOwedRow : OpenClaim := { program := "ytffdininmidkhaa", sum := "28d97ad4e50aada7d7fc7f345114af133f6dac36dc1c52632e6dbe41d65b4ec0", func := "squint/squintlaw15.WindowOwed", spec := "windowOwed", apart := false }
def WindowOwedSaid : Prop := windowOwedRow.holds Try.pinned (OpenSpec.ofChange windowOwedSpec)

/-- ITS FALSE NEIGHBOUR: 'it returns false'. Refute it at one input. -/
def windowOwedWrong : ChangeSpec := { name := "windowOwed", fn := fun _ => fun
  | [d1, d2, d3] => { results := [.lit (.bool false)], args := [d1, d2, d3] }
  | _ => none }
def WindowOwedWrongFalsely : Prop := windowOwedRow.holds Try.pinned (OpenSpec.ofChange windowOwedWrong)

/- THE SECOND FORM. 'bulk': how many values and letters a reading holds, each counted each time it is reached (what is shared counts as often as it is met; a slice's spare places count too). A statement '..UptoSaid' is the law's where the arguments, and the package variables that the reading takes, are together of bulk at most 1048576: NARROWER than '..Said'. Prove '..Said' where nothing that the law and all that it calls make is longer than what came in: it says more and counts as full. Else prove '..UptoSaid'. A law counts once. -/
mutual
def uptoBulk {H : Type} : DataW H → Nat
  | .lit (.string bytes) => bytes.length + 1
  | .lit _ => 1
  | .nil => 1
  | .ptr d => uptoBulk d + 1
  | .slice elems spare => uptoBulkAll elems + uptoBulkAll spare + 1
  | .agg parts => uptoBulkAll parts + 1
  | .iface _ d => uptoBulk d + 1
  | .map entries => uptoBulkEntries entries + 1
  | .held _ => 1
def uptoBulkAll {H : Type} : List (DataW H) → Nat
  | [] => 0
  | d :: r => uptoBulk d + uptoBulkAll r
def uptoBulkEntries {H : Type} : List (Lit × DataW H) → Nat
  | [] => 0
  | x :: r => uptoBulkEntry x + uptoBulkEntries r
def uptoBulkEntry {H : Type} : Lit × DataW H → Nat
  | (.string bytes, d) => bytes.length + uptoBulk d + 1
  | (_, d) => uptoBulk d + 1
 end
def uptoSmall : (H : Type) → List (DataW H) → Bool := fun _ ds => decide (uptoBulkAll ds ≤ 1048576)
def OpenSpec.upto (s : _root_.Go.ChangeSpec) : _root_.Go.OpenSpec := { _root_.Go.OpenSpec.ofChange s with cond := some uptoSmall }

/-- 'squintlaw15.WindowPlays', WHERE WHAT IT READS IS OF BULK AT MOST 1048576: true; the input reads as it did. -/
def windowPlaysUptoRow : OpenClaim := { program := "ytffdininmidkhaa", sum := "28d97ad4e50aada7d7fc7f345114af133f6dac36dc1c52632e6dbe41d65b4ec0", func := "squint/squintlaw15.WindowPlays", spec := "windowPlays", apart := false, narrowed := true }
def WindowPlaysUptoSaid : Prop := windowPlaysUptoRow.holds Try.pinned (OpenSpec.upto windowPlaysSpec)

/-- 'squintlaw15.WindowCan', WHERE WHAT IT READS IS OF BULK AT MOST 1048576: true; the input reads as it did. -/
def windowCanUptoRow : OpenClaim := { program := "ytffdininmidkhaa", sum := "28d97ad4e50aada7d7fc7f345114af133f6dac36dc1c52632e6dbe41d65b4ec0", func := "squint/squintlaw15.WindowCan", spec := "windowCan", apart := false, narrowed := true }
def WindowCanUptoSaid : Prop := windowCanUptoRow.holds Try.pinned (OpenSpec.upto windowCanSpec)

/-- 'squintlaw15.WindowNever', WHERE WHAT IT READS IS OF BULK AT MOST 1048576: true; the input reads as it did. -/
def windowNeverUptoRow : OpenClaim := { program := "ytffdininmidkhaa", sum := "28d97ad4e50aada7d7fc7f345114af133f6dac36dc1c52632e6dbe41d65b4ec0", func := "squint/squintlaw15.WindowNever", spec := "windowNever", apart := false, narrowed := true }
def WindowNeverUptoSaid : Prop := windowNeverUptoRow.holds Try.pinned (OpenSpec.upto windowNeverSpec)

/-- 'squintlaw15.WindowParts', WHERE WHAT IT READS IS OF BULK AT MOST 1048576: true; the input reads as it did. -/
def windowPartsUptoRow : OpenClaim := { program := "ytffdininmidkhaa", sum := "28d97ad4e50aada7d7fc7f345114af133f6dac36dc1c52632e6dbe41d65b4ec0", func := "squint/squintlaw15.WindowParts", spec := "windowParts", apart := false, narrowed := true }
def WindowPartsUptoSaid : Prop := windowPartsUptoRow.holds Try.pinned (OpenSpec.upto windowPartsSpec)

/-- 'squintlaw15.WindowOwed', WHERE WHAT IT READS IS OF BULK AT MOST 1048576: true; the input reads as it did. -/
def windowOwedUptoRow : OpenClaim := { program := "ytffdininmidkhaa", sum := "28d97ad4e50aada7d7fc7f345114af133f6dac36dc1c52632e6dbe41d65b4ec0", func := "squint/squintlaw15.WindowOwed", spec := "windowOwed", apart := false, narrowed := true }
def WindowOwedUptoSaid : Prop := windowOwedUptoRow.holds Try.pinned (OpenSpec.upto windowOwedSpec)

end Rows
end Go.Proofs.Ytffdininmidkhaa
