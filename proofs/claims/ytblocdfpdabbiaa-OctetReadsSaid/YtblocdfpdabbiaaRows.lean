/-
  No cell of these rows narrows 'for every input' (looked for: loops, veiled, ifaces, maps, wideKeys, modest, calm, conditions, laid).
  DERIVED. THE GIVEN ROWS OF THIS SEAT. 4 by the template 'for every input the law returns true; each argument reads behind the call as it read before'; 0 by the template 'total and deterministic' (their statements: YtblocdfpdabbiaaTotals.lean).
  GIVEN WITH THE SEED: the statements are not yours to turn. If you find one false, say at which input.
  Laid BY PROGRAM, IN A SANDBOX (cutbox-rows.mjs): the forced cells as the released guide's own fill.sh prints them over the translation 377530d5e4eed313… (all of the seat's roots in one cut). By AI agents, Wed Nov 11 2026. No macro, syntax, notation, axiom, sorry.
-/
import Derived.Test.YtblocdfpdabbiaaChecked
import GoSem.Claim
import GoSem.ClaimJoined
import GoSem.ClaimMapViews
import Derived.JoinedTies
import Derived.KernelRfl
namespace Go.Proofs.Ytblocdfpdabbiaa
/- THE CELL 'sum', in the pinned program and in every row, IS THE sha256 OF THE DUMP (.gsa) THAT YtblocdfpdabbiaaProg.lean LOADS. Nothing in Lean hashes anything: it is a label: what it is worth is what the hold of that sum in a sandbox is worth. -/
noncomputable def Try.pinned : Pinned := { name := "ytblocdfpdabbiaa", sum := "377530d5e4eed313ec65930a26d0286a638c0596bff5c07e4df6d572cd8897c3", checked := Try.checked }
namespace Rows
def none {H : Type} : Left H := { results := [], args := [] }

/-- 'squintlaw01.OctetBig': WHATEVER THE INPUT: true; the input reads as it did. -/
def octetBigSpec : ChangeSpec := { name := "octetBig", fn := fun _ => fun
  | [d1, d2] => { results := [.lit (.bool true)], args := [d1, d2] }
  | _ => none }
def octetBigRow : OpenClaim := { program := "ytblocdfpdabbiaa", sum := "377530d5e4eed313ec65930a26d0286a638c0596bff5c07e4df6d572cd8897c3", func := "squint/squintlaw01.OctetBig", spec := "octetBig", apart := false }
def OctetBigSaid : Prop := octetBigRow.holds Try.pinned (OpenSpec.ofChange octetBigSpec)

/-- ITS FALSE NEIGHBOUR: 'it returns false'. Refute it at one input. -/
def octetBigWrong : ChangeSpec := { name := "octetBig", fn := fun _ => fun
  | [d1, d2] => { results := [.lit (.bool false)], args := [d1, d2] }
  | _ => none }
def OctetBigWrongFalsely : Prop := octetBigRow.holds Try.pinned (OpenSpec.ofChange octetBigWrong)

/-- 'squintlaw01.OctetNum': WHATEVER THE INPUT: true; the input reads as it did. -/
def octetNumSpec : ChangeSpec := { name := "octetNum", fn := fun _ => fun
  | [d] => { results := [.lit (.bool true)], args := [d] }
  | _ => none }
def octetNumRow : OpenClaim := { program := "ytblocdfpdabbiaa", sum := "377530d5e4eed313ec65930a26d0286a638c0596bff5c07e4df6d572cd8897c3", func := "squint/squintlaw01.OctetNum", spec := "octetNum", apart := false }
def OctetNumSaid : Prop := octetNumRow.holds Try.pinned (OpenSpec.ofChange octetNumSpec)

/-- ITS FALSE NEIGHBOUR: 'it returns false'. Refute it at one input. -/
def octetNumWrong : ChangeSpec := { name := "octetNum", fn := fun _ => fun
  | [d] => { results := [.lit (.bool false)], args := [d] }
  | _ => none }
def OctetNumWrongFalsely : Prop := octetNumRow.holds Try.pinned (OpenSpec.ofChange octetNumWrong)

/-- 'squintlaw01.OctetReads': WHATEVER THE INPUT: true; the input reads as it did. -/
def octetReadsSpec : ChangeSpec := { name := "octetReads", fn := fun _ => fun
  | [d1, d2] => { results := [.lit (.bool true)], args := [d1, d2] }
  | _ => none }
def octetReadsRow : OpenClaim := { program := "ytblocdfpdabbiaa", sum := "377530d5e4eed313ec65930a26d0286a638c0596bff5c07e4df6d572cd8897c3", func := "squint/squintlaw01.OctetReads", spec := "octetReads", apart := false }
def OctetReadsSaid : Prop := octetReadsRow.holds Try.pinned (OpenSpec.ofChange octetReadsSpec)

/-- ITS FALSE NEIGHBOUR: 'it returns false'. Refute it at one input. -/
def octetReadsWrong : ChangeSpec := { name := "octetReads", fn := fun _ => fun
  | [d1, d2] => { results := [.lit (.bool false)], args := [d1, d2] }
  | _ => none }
def OctetReadsWrongFalsely : Prop := octetReadsRow.holds Try.pinned (OpenSpec.ofChange octetReadsWrong)

/-- 'squintlaw01.OctetOrder': WHATEVER THE INPUT: true; the input reads as it did. -/
def octetOrderSpec : ChangeSpec := { name := "octetOrder", fn := fun _ => fun
  | [d1, d2, d3] => { results := [.lit (.bool true)], args := [d1, d2, d3] }
  | _ => none }
def octetOrderRow : OpenClaim := { program := "ytblocdfpdabbiaa", sum := "377530d5e4eed313ec65930a26d0286a638c0596bff5c07e4df6d572cd8897c3", func := "squint/squintlaw01.OctetOrder", spec := "octetOrder", apart := false }
def OctetOrderSaid : Prop := octetOrderRow.holds Try.pinned (OpenSpec.ofChange octetOrderSpec)

/-- ITS FALSE NEIGHBOUR: 'it returns false'. Refute it at one input. -/
def octetOrderWrong : ChangeSpec := { name := "octetOrder", fn := fun _ => fun
  | [d1, d2, d3] => { results := [.lit (.bool false)], args := [d1, d2, d3] }
  | _ => none }
def OctetOrderWrongFalsely : Prop := octetOrderRow.holds Try.pinned (OpenSpec.ofChange octetOrderWrong)

/- THE SECOND FORM. 'bulk': how many values and letters a reading holds, each counted each time it is reached (what is shared counts as often as it is met; a slice's spare places count too). A statement '..UptoSaid' is the law's where the arguments, and the package variables that the reading takes, are together of bulk at most 1048576: NARROWER than '..Said'. Prove '..Said' where nothing that the law and all that it calls make is longer than what came in: it says more and counts as full. Else prove '..UptoSaid'. A law counts once. -/
mutual
def uptoBulk {H : Type} : DataW H → Nat
  | .lit (.string bytes) => bytes.length + 1
  | .lit _ => 1
  | .nil => 1
  | .ptr d => uptoBulk d + 1
  | .slice elems spare => uptoBulkAll elems + uptoBulkAll spare + 1
  | .agg parts => uptoBulkAll parts + 1
  | .iface _ d => uptoBulk d + 1
  | .map entries => uptoBulkEntries entries + 1
  | .held _ => 1
def uptoBulkAll {H : Type} : List (DataW H) → Nat
  | [] => 0
  | d :: r => uptoBulk d + uptoBulkAll r
def uptoBulkEntries {H : Type} : List (Lit × DataW H) → Nat
  | [] => 0
  | x :: r => uptoBulkEntry x + uptoBulkEntries r
def uptoBulkEntry {H : Type} : Lit × DataW H → Nat
  | (.string bytes, d) => bytes.length + uptoBulk d + 1
  | (_, d) => uptoBulk d + 1
 end
def uptoSmall : (H : Type) → List (DataW H) → Bool := fun _ ds => decide (uptoBulkAll ds ≤ 1048576)
def OpenSpec.upto (s : _root_.Go.ChangeSpec) : _root_.Go.OpenSpec := { _root_.Go.OpenSpec.ofChange s with cond := some uptoSmall }

/-- 'squintlaw01.OctetBig', WHERE WHAT IT READS IS OF BULK AT MOST 1048576: true; the input reads as it did. -/
def octetBigUptoRow : OpenClaim := { program := "ytblocdfpdabbiaa", sum := "377530d5e4eed313ec65930a26d0286a638c0596bff5c07e4df6d572cd8897c3", func := "squint/squintlaw01.OctetBig", spec := "octetBig", apart := false, narrowed := true }
def OctetBigUptoSaid : Prop := octetBigUptoRow.holds Try.pinned (OpenSpec.upto octetBigSpec)

/-- 'squintlaw01.OctetNum', WHERE WHAT IT READS IS OF BULK AT MOST 1048576: true; the input reads as it did. -/
def octetNumUptoRow : OpenClaim := { program := "ytblocdfpdabbiaa", sum := "377530d5e4eed313ec65930a26d0286a638c0596bff5c07e4df6d572cd8897c3", func := "squint/squintlaw01.OctetNum", spec := "octetNum", apart := false, narrowed := true }
def OctetNumUptoSaid : Prop := octetNumUptoRow.holds Try.pinned (OpenSpec.upto octetNumSpec)

/-- 'squintlaw01.OctetReads', WHERE WHAT IT READS IS OF BULK AT MOST 1048576: true; the input reads as it did. -/
def octetReadsUptoRow : OpenClaim := { program := "ytblocdfpdabbiaa", sum := "377530d5e4eed313ec65930a26d0286a638c0596bff5c07e4df6d572cd8897c3", func := "squint/squintlaw01.OctetReads", spec := "octetReads", apart := false, narrowed := true }
def OctetReadsUptoSaid : Prop := octetReadsUptoRow.holds Try.pinned (OpenSpec.upto octetReadsSpec)

/-- 'squintlaw01.OctetOrder', WHERE WHAT IT READS IS OF BULK AT MOST 1048576: true; the input reads as it did. -/
def octetOrderUptoRow : OpenClaim := { program := "ytblocdfpdabbiaa", sum := "377530d5e4eed313ec65930a26d0286a638c0596bff5c07e4df6d572cd8897c3", func := "squint/squintlaw01.OctetOrder", spec := "octetOrder", apart := false, narrowed := true }
def OctetOrderUptoSaid : Prop := octetOrderUptoRow.holds Try.pinned (OpenSpec.upto octetOrderSpec)

end Rows
end Go.Proofs.Ytblocdfpdabbiaa
