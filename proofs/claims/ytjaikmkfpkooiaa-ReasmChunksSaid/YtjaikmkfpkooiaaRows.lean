/-
  No cell of these rows narrows 'for every input' (looked for: loops, veiled, ifaces, maps, wideKeys, modest, calm, conditions, laid).
  DERIVED. THE GIVEN ROWS OF THIS SEAT. 4 by the template 'for every input the law returns true; each argument reads behind the call as it read before'; 0 by the template 'total and deterministic' (their statements: YtjaikmkfpkooiaaTotals.lean).
  GIVEN WITH THE SEED: the statements are not yours to turn. If you find one false, say at which input.
  Laid BY PROGRAM, IN A SANDBOX (cutbox-rows.mjs): the forced cells as the released guide's own fill.sh prints them over the translation 5539f86d697361ef… (all of the seat's roots in one cut). By AI agents, Wed Nov 11 2026. No macro, syntax, notation, axiom, sorry.
-/
import Derived.Test.YtjaikmkfpkooiaaChecked
import GoSem.Claim
import GoSem.ClaimJoined
import GoSem.ClaimMapViews
import Derived.JoinedTies
import Derived.KernelRfl
namespace Go.Proofs.Ytjaikmkfpkooiaa
/- THE CELL 'sum', in the pinned program and in every row, IS THE sha256 OF THE DUMP (.gsa) THAT YtjaikmkfpkooiaaProg.lean LOADS. Nothing in Lean hashes anything: it is a label: what it is worth is what the hold of that sum in a sandbox is worth. -/
noncomputable def Try.pinned : Pinned := { name := "ytjaikmkfpkooiaa", sum := "5539f86d697361ef59e87e14289a79084061b04f8be123f49a918e77d8b7d15c", checked := Try.checked }
namespace Rows
def none {H : Type} : Left H := { results := [], args := [] }

/-- 'squintlaw11.ReasmPlays': WHATEVER THE INPUT: true; the input reads as it did. -/
def reasmPlaysSpec : ChangeSpec := { name := "reasmPlays", fn := fun _ => fun
  | [d1, d2] => { results := [.lit (.bool true)], args := [d1, d2] }
  | _ => none }
def reasmPlaysRow : OpenClaim := { program := "ytjaikmkfpkooiaa", sum := "5539f86d697361ef59e87e14289a79084061b04f8be123f49a918e77d8b7d15c", func := "squint/squintlaw11.ReasmPlays", spec := "reasmPlays", apart := false }
def ReasmPlaysSaid : Prop := reasmPlaysRow.holds Try.pinned (OpenSpec.ofChange reasmPlaysSpec)

/-- ITS FALSE NEIGHBOUR: 'it returns false'. Refute it at one input. -/
def reasmPlaysWrong : ChangeSpec := { name := "reasmPlays", fn := fun _ => fun
  | [d1, d2] => { results := [.lit (.bool false)], args := [d1, d2] }
  | _ => none }
def ReasmPlaysWrongFalsely : Prop := reasmPlaysRow.holds Try.pinned (OpenSpec.ofChange reasmPlaysWrong)

/-- 'squintlaw11.ReasmNeeds': WHATEVER THE INPUT: true; the input reads as it did. -/
def reasmNeedsSpec : ChangeSpec := { name := "reasmNeeds", fn := fun _ => fun
  | [d1, d2] => { results := [.lit (.bool true)], args := [d1, d2] }
  | _ => none }
def reasmNeedsRow : OpenClaim := { program := "ytjaikmkfpkooiaa", sum := "5539f86d697361ef59e87e14289a79084061b04f8be123f49a918e77d8b7d15c", func := "squint/squintlaw11.ReasmNeeds", spec := "reasmNeeds", apart := false }
def ReasmNeedsSaid : Prop := reasmNeedsRow.holds Try.pinned (OpenSpec.ofChange reasmNeedsSpec)

/-- ITS FALSE NEIGHBOUR: 'it returns false'. Refute it at one input. -/
def reasmNeedsWrong : ChangeSpec := { name := "reasmNeeds", fn := fun _ => fun
  | [d1, d2] => { results := [.lit (.bool false)], args := [d1, d2] }
  | _ => none }
def ReasmNeedsWrongFalsely : Prop := reasmNeedsRow.holds Try.pinned (OpenSpec.ofChange reasmNeedsWrong)

/-- 'squintlaw11.ReasmCopies': WHATEVER THE INPUT: true; the input reads as it did. -/
def reasmCopiesSpec : ChangeSpec := { name := "reasmCopies", fn := fun _ => fun
  | [d1, d2, d3] => { results := [.lit (.bool true)], args := [d1, d2, d3] }
  | _ => none }
def reasmCopiesRow : OpenClaim := { program := "ytjaikmkfpkooiaa", sum := "5539f86d697361ef59e87e14289a79084061b04f8be123f49a918e77d8b7d15c", func := "squint/squintlaw11.ReasmCopies", spec := "reasmCopies", apart := false }
def ReasmCopiesSaid : Prop := reasmCopiesRow.holds Try.pinned (OpenSpec.ofChange reasmCopiesSpec)

/-- ITS FALSE NEIGHBOUR: 'it returns false'. Refute it at one input. -/
def reasmCopiesWrong : ChangeSpec := { name := "reasmCopies", fn := fun _ => fun
  | [d1, d2, d3] => { results := [.lit (.bool false)], args := [d1, d2, d3] }
  | _ => none }
def ReasmCopiesWrongFalsely : Prop := reasmCopiesRow.holds Try.pinned (OpenSpec.ofChange reasmCopiesWrong)

/-- 'squintlaw11.ReasmChunks': WHATEVER THE INPUT: true; the input reads as it did. -/
def reasmChunksSpec : ChangeSpec := { name := "reasmChunks", fn := fun _ => fun
  | [d1, d2] => { results := [.lit (.bool true)], args := [d1, d2] }
  | _ => none }
def reasmChunksRow : OpenClaim := { program := "ytjaikmkfpkooiaa", sum := "5539f86d697361ef59e87e14289a79084061b04f8be123f49a918e77d8b7d15c", func := "squint/squintlaw11.ReasmChunks", spec := "reasmChunks", apart := false }
def ReasmChunksSaid : Prop := reasmChunksRow.holds Try.pinned (OpenSpec.ofChange reasmChunksSpec)

/-- ITS FALSE NEIGHBOUR: 'it returns false'. Refute it at one input. -/
def reasmChunksWrong : ChangeSpec := { name := "reasmChunks", fn := fun _ => fun
  | [d1, d2] => { results := [.lit (.bool false)], args := [d1, d2] }
  | _ => none }
def ReasmChunksWrongFalsely : Prop := reasmChunksRow.holds Try.pinned (OpenSpec.ofChange reasmChunksWrong)

/- THE SECOND FORM. 'bulk': how many values and letters a reading holds, each counted each time it is reached (what is shared counts as often as it is met; a slice's spare places count too). A statement '..UptoSaid' is the law's where the arguments, and the package variables that the reading takes, are together of bulk at most 1048576: NARROWER than '..Said'. Prove '..Said' where nothing that the law and all that it calls make is longer than what came in: it says more and counts as full. Else prove '..UptoSaid'. A law counts once. -/
mutual
def uptoBulk {H : Type} : DataW H → Nat
  | .lit (.string bytes) => bytes.length + 1
  | .lit _ => 1
  | .nil => 1
  | .ptr d => uptoBulk d + 1
  | .slice elems spare => uptoBulkAll elems + uptoBulkAll spare + 1
  | .agg parts => uptoBulkAll parts + 1
  | .iface _ d => uptoBulk d + 1
  | .map entries => uptoBulkEntries entries + 1
  | .held _ => 1
def uptoBulkAll {H : Type} : List (DataW H) → Nat
  | [] => 0
  | d :: r => uptoBulk d + uptoBulkAll r
def uptoBulkEntries {H : Type} : List (Lit × DataW H) → Nat
  | [] => 0
  | x :: r => uptoBulkEntry x + uptoBulkEntries r
def uptoBulkEntry {H : Type} : Lit × DataW H → Nat
  | (.string bytes, d) => bytes.length + uptoBulk d + 1
  | (_, d) => uptoBulk d + 1
 end
def uptoSmall : (H : Type) → List (DataW H) → Bool := fun _ ds => decide (uptoBulkAll ds ≤ 1048576)
def OpenSpec.upto (s : _root_.Go.ChangeSpec) : _root_.Go.OpenSpec := { _root_.Go.OpenSpec.ofChange s with cond := some uptoSmall }

/-- 'squintlaw11.ReasmPlays', WHERE WHAT IT READS IS OF BULK AT MOST 1048576: true; the input reads as it did. -/
def reasmPlaysUptoRow : OpenClaim := { program := "ytjaikmkfpkooiaa", sum := "5539f86d697361ef59e87e14289a79084061b04f8be123f49a918e77d8b7d15c", func := "squint/squintlaw11.ReasmPlays", spec := "reasmPlays", apart := false, narrowed := true }
def ReasmPlaysUptoSaid : Prop := reasmPlaysUptoRow.holds Try.pinned (OpenSpec.upto reasmPlaysSpec)

/-- 'squintlaw11.ReasmNeeds', WHERE WHAT IT READS IS OF BULK AT MOST 1048576: true; the input reads as it did. -/
def reasmNeedsUptoRow : OpenClaim := { program := "ytjaikmkfpkooiaa", sum := "5539f86d697361ef59e87e14289a79084061b04f8be123f49a918e77d8b7d15c", func := "squint/squintlaw11.ReasmNeeds", spec := "reasmNeeds", apart := false, narrowed := true }
def ReasmNeedsUptoSaid : Prop := reasmNeedsUptoRow.holds Try.pinned (OpenSpec.upto reasmNeedsSpec)

/-- 'squintlaw11.ReasmCopies', WHERE WHAT IT READS IS OF BULK AT MOST 1048576: true; the input reads as it did. -/
def reasmCopiesUptoRow : OpenClaim := { program := "ytjaikmkfpkooiaa", sum := "5539f86d697361ef59e87e14289a79084061b04f8be123f49a918e77d8b7d15c", func := "squint/squintlaw11.ReasmCopies", spec := "reasmCopies", apart := false, narrowed := true }
def ReasmCopiesUptoSaid : Prop := reasmCopiesUptoRow.holds Try.pinned (OpenSpec.upto reasmCopiesSpec)

/-- 'squintlaw11.ReasmChunks', WHERE WHAT IT READS IS OF BULK AT MOST 1048576: true; the input reads as it did. -/
def reasmChunksUptoRow : OpenClaim := { program := "ytjaikmkfpkooiaa", sum := "5539f86d697361ef59e87e14289a79084061b04f8be123f49a918e77d8b7d15c", func := "squint/squintlaw11.ReasmChunks", spec := "reasmChunks", apart := false, narrowed := true }
def ReasmChunksUptoSaid : Prop := reasmChunksUptoRow.holds Try.pinned (OpenSpec.upto reasmChunksSpec)

end Rows
end Go.Proofs.Ytjaikmkfpkooiaa
