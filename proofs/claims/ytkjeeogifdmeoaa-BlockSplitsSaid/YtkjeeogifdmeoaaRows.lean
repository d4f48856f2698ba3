/-
  No cell of these rows narrows 'for every input' (looked for: loops, veiled, ifaces, maps, wideKeys, modest, calm, conditions, laid).
  DERIVED. THE GIVEN ROWS OF THIS SEAT. 4 by the template 'for every input the law returns true; each argument reads behind the call as it read before'; 0 by the template 'total and deterministic' (their statements: YtkjeeogifdmeoaaTotals.lean).
  GIVEN WITH THE SEED: the statements are not yours to turn. If you find one false, say at which input.
  Laid BY PROGRAM, IN A SANDBOX (cutbox-rows.mjs): the forced cells as the released guide's own fill.sh prints them over the translation a62760a22e0eb176… (all of the seat's roots in one cut). By AI agents, Wed Nov 11 2026. No macro, syntax, notation, axiom, sorry.
-/
import Derived.Test.YtkjeeogifdmeoaaChecked
import GoSem.Claim
import GoSem.ClaimJoined
import GoSem.ClaimMapViews
import Derived.JoinedTies
import Derived.KernelRfl
namespace Go.Proofs.Ytkjeeogifdmeoaa
/- THE CELL 'sum', in the pinned program and in every row, IS THE sha256 OF THE DUMP (.gsa) THAT YtkjeeogifdmeoaaProg.lean LOADS. Nothing in Lean hashes anything: it is a label: what it is worth is what the hold of that sum in a sandbox is worth. -/
noncomputable def Try.pinned : Pinned := { name := "ytkjeeogifdmeoaa", sum := "a62760a22e0eb176d63fb4d4f6f9dc0b069060ecf9c08463f96bc7918b456694", checked := Try.checked }
namespace Rows
def none {H : Type} : Left H := { results := [], args := [] }

/-- 'squintlaw12.BlockPlays': WHATEVER THE INPUT: true; the input reads as it did. -/
def blockPlaysSpec : ChangeSpec := { name := "blockPlays", fn := fun _ => fun
  | [d1, d2] => { results := [.lit (.bool true)], args := [d1, d2] }
  | _ => none }
def blockPlaysRow : OpenClaim := { program := "ytkjeeogifdmeoaa", sum := "a62760a22e0eb176d63fb4d4f6f9dc0b069060ecf9c08463f96bc7918b456694", func := "squint/squintlaw12.BlockPlays", spec := "blockPlays", apart := false }
def BlockPlaysSaid : Prop := blockPlaysRow.holds Try.pinned (OpenSpec.ofChange blockPlaysSpec)

/-- ITS FALSE NEIGHBOUR: 'it returns false'. Refute it at one input. -/
def blockPlaysWrong : ChangeSpec := { name := "blockPlays", fn := fun _ => fun
  | [d1, d2] => { results := [.lit (.bool false)], args := [d1, d2] }
  | _ => none }
def BlockPlaysWrongFalsely : Prop := blockPlaysRow.holds Try.pinned (OpenSpec.ofChange blockPlaysWrong)

/-- 'squintlaw12.BlockAlone': WHATEVER THE INPUT: true; the input reads as it did. -/
def blockAloneSpec : ChangeSpec := { name := "blockAlone", fn := fun _ => fun
  | [d1, d2, d3] => { results := [.lit (.bool true)], args := [d1, d2, d3] }
  | _ => none }
def blockAloneRow : OpenClaim := { program := "ytkjeeogifdmeoaa", sum := "a62760a22e0eb176d63fb4d4f6f9dc0b069060ecf9c08463f96bc7918b456694", func := "squint/squintlaw12.BlockAlone", spec := "blockAlone", apart := false }
def BlockAloneSaid : Prop := blockAloneRow.holds Try.pinned (OpenSpec.ofChange blockAloneSpec)

/-- ITS FALSE NEIGHBOUR: 'it returns false'. Refute it at one input. -/
def blockAloneWrong : ChangeSpec := { name := "blockAlone", fn := fun _ => fun
  | [d1, d2, d3] => { results := [.lit (.bool false)], args := [d1, d2, d3] }
  | _ => none }
def BlockAloneWrongFalsely : Prop := blockAloneRow.holds Try.pinned (OpenSpec.ofChange blockAloneWrong)

/-- 'squintlaw12.BlockCopies': WHATEVER THE INPUT: true; the input reads as it did. -/
def blockCopiesSpec : ChangeSpec := { name := "blockCopies", fn := fun _ => fun
  | [d1, d2, d3] => { results := [.lit (.bool true)], args := [d1, d2, d3] }
  | _ => none }
def blockCopiesRow : OpenClaim := { program := "ytkjeeogifdmeoaa", sum := "a62760a22e0eb176d63fb4d4f6f9dc0b069060ecf9c08463f96bc7918b456694", func := "squint/squintlaw12.BlockCopies", spec := "blockCopies", apart := false }
def BlockCopiesSaid : Prop := blockCopiesRow.holds Try.pinned (OpenSpec.ofChange blockCopiesSpec)

/-- ITS FALSE NEIGHBOUR: 'it returns false'. Refute it at one input. -/
def blockCopiesWrong : ChangeSpec := { name := "blockCopies", fn := fun _ => fun
  | [d1, d2, d3] => { results := [.lit (.bool false)], args := [d1, d2, d3] }
  | _ => none }
def BlockCopiesWrongFalsely : Prop := blockCopiesRow.holds Try.pinned (OpenSpec.ofChange blockCopiesWrong)

/-- 'squintlaw12.BlockSplits': WHATEVER THE INPUT: true; the input reads as it did. -/
def blockSplitsSpec : ChangeSpec := { name := "blockSplits", fn := fun _ => fun
  | [d] => { results := [.lit (.bool true)], args := [d] }
  | _ => none }
def blockSplitsRow : OpenClaim := { program := "ytkjeeogifdmeoaa", sum := "a62760a22e0eb176d63fb4d4f6f9dc0b069060ecf9c08463f96bc7918b456694", func := "squint/squintlaw12.BlockSplits", spec := "blockSplits", unfollowed := true, recurses := true, apart := false }
def BlockSplitsSaid : Prop := blockSplitsRow.holds Try.pinned (OpenSpec.ofChange blockSplitsSpec)

/-- ITS FALSE NEIGHBOUR: 'it returns false'. Refute it at one input. -/
def blockSplitsWrong : ChangeSpec := { name := "blockSplits", fn := fun _ => fun
  | [d] => { results := [.lit (.bool false)], args := [d] }
  | _ => none }
def BlockSplitsWrongFalsely : Prop := blockSplitsRow.holds Try.pinned (OpenSpec.ofChange blockSplitsWrong)

/- THE SECOND FORM. 'bulk': how many values and letters a reading holds, each counted each time it is reached (what is shared counts as often as it is met; a slice's spare places count too). A statement '..UptoSaid' is the law's where the arguments, and the package variables that the reading takes, are together of bulk at most 1048576: NARROWER than '..Said'. Prove '..Said' where nothing that the law and all that it calls make is longer than what came in: it says more and counts as full. Else prove '..UptoSaid'. A law counts once. -/
mutual
def uptoBulk {H : Type} : DataW H → Nat
  | .lit (.string bytes) => bytes.length + 1
  | .lit _ => 1
  | .nil => 1
  | .ptr d => uptoBulk d + 1
  | .slice elems spare => uptoBulkAll elems + uptoBulkAll spare + 1
  | .agg parts => uptoBulkAll parts + 1
  | .iface _ d => uptoBulk d + 1
  | .map entries => uptoBulkEntries entries + 1
  | .held _ => 1
def uptoBulkAll {H : Type} : List (DataW H) → Nat
  | [] => 0
  | d :: r => uptoBulk d + uptoBulkAll r
def uptoBulkEntries {H : Type} : List (Lit × DataW H) → Nat
  | [] => 0
  | x :: r => uptoBulkEntry x + uptoBulkEntries r
def uptoBulkEntry {H : Type} : Lit × DataW H → Nat
  | (.string bytes, d) => bytes.length + uptoBulk d + 1
  | (_, d) => uptoBulk d + 1
 end
def uptoSmall : (H : Type) → List (DataW H) → Bool := fun _ ds => decide (uptoBulkAll ds ≤ 1048576)
def OpenSpec.upto (s : _root_.Go.ChangeSpec) : _root_.Go.OpenSpec := { _root_.Go.OpenSpec.ofChange s with cond := some uptoSmall }

/-- 'squintlaw12.BlockPlays', WHERE WHAT IT READS IS OF BULK AT MOST 1048576: true; the input reads as it did. -/
def blockPlaysUptoRow : OpenClaim := { program := "ytkjeeogifdmeoaa", sum := "a62760a22e0eb176d63fb4d4f6f9dc0b069060ecf9c08463f96bc7918b456694", func := "squint/squintlaw12.BlockPlays", spec := "blockPlays", apart := false, narrowed := true }
def BlockPlaysUptoSaid : Prop := blockPlaysUptoRow.holds Try.pinned (OpenSpec.upto blockPlaysSpec)

/-- 'squintlaw12.BlockAlone', WHERE WHAT IT READS IS OF BULK AT MOST 1048576: true; the input reads as it did. -/
def blockAloneUptoRow : OpenClaim := { program := "ytkjeeogifdmeoaa", sum := "a62760a22e0eb176d63fb4d4f6f9dc0b069060ecf9c08463f96bc7918b456694", func := "squint/squintlaw12.BlockAlone", spec := "blockAlone", apart := false, narrowed := true }
def BlockAloneUptoSaid : Prop := blockAloneUptoRow.holds Try.pinned (OpenSpec.upto blockAloneSpec)

/-- 'squintlaw12.BlockCopies', WHERE WHAT IT READS IS OF BULK AT MOST 1048576: true; the input reads as it did. -/
def blockCopiesUptoRow : OpenClaim := { program := "ytkjeeogifdmeoaa", sum := "a62760a22e0eb176d63fb4d4f6f9dc0b069060ecf9c08463f96bc7918b456694", func := "squint/squintlaw12.BlockCopies", spec := "blockCopies", apart := false, narrowed := true }
def BlockCopiesUptoSaid : Prop := blockCopiesUptoRow.holds Try.pinned (OpenSpec.upto blockCopiesSpec)

/-- 'squintlaw12.BlockSplits', WHERE WHAT IT READS IS OF BULK AT MOST 1048576: true; the input reads as it did. -/
def blockSplitsUptoRow : OpenClaim := { program := "ytkjeeogifdmeoaa", sum := "a62760a22e0eb176d63fb4d4f6f9dc0b069060ecf9c08463f96bc7918b456694", func := "squint/squintlaw12.BlockSplits", spec := "blockSplits", unfollowed := true, recurses := true, apart := false, narrowed := true }
def BlockSplitsUptoSaid : Prop := blockSplitsUptoRow.holds Try.pinned (OpenSpec.upto blockSplitsSpec)

end Rows
end Go.Proofs.Ytkjeeogifdmeoaa
