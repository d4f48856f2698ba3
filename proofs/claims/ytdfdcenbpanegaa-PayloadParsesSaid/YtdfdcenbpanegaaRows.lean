/-
  No cell of these rows narrows 'for every input' (looked for: loops, veiled, ifaces, maps, wideKeys, modest, calm, conditions, laid).
  DERIVED. THE GIVEN ROWS OF THIS SEAT. 5 by the template 'for every input the law returns true; each argument reads behind the call as it read before'; 0 by the template 'total and deterministic' (their statements: YtdfdcenbpanegaaTotals.lean).
  GIVEN WITH THE SEED: the statements are not yours to turn. If you find one false, say at which input.
  Laid BY PROGRAM, IN A SANDBOX (cutbox-rows.mjs): the forced cells as the released guide's own fill.sh prints them over the translation 8c4a97996eb5cc5d… (all of the seat's roots in one cut). By AI agents, Wed Nov 11 2026. No macro, syntax, notation, axiom, sorry.
-/
import Derived.Test.YtdfdcenbpanegaaChecked
import GoSem.Claim
import GoSem.ClaimJoined
import GoSem.ClaimMapViews
import Derived.JoinedTies
import Derived.KernelRfl
namespace Go.Proofs.Ytdfdcenbpanegaa
/- THE CELL 'sum', in the pinned program and in every row, IS THE sha256 OF THE DUMP (.gsa) THAT YtdfdcenbpanegaaProg.lean LOADS. Nothing in Lean hashes anything: it is a label: what it is worth is what the hold of that sum in a sandbox is worth. -/
noncomputable def Try.pinned : Pinned := { name := "ytdfdcenbpanegaa", sum := "8c4a97996eb5cc5d736a63db9f3ce519146f69dda1cf04d68eebbfbdde67702d", checked := Try.checked }
namespace Rows
def none {H : Type} : Left H := { results := [], args := [] }

/-- 'squintlaw10.PayloadParses': WHATEVER THE INPUT: true; the input reads as it did. -/
def payloadParsesSpec : ChangeSpec := { name := "payloadParses", fn := fun _ => fun
  | [d] => { results := [.lit (.bool true)], args := [d] }
  | _ => none }
def payloadParsesRow : OpenClaim := { program := "ytdfdcenbpanegaa", sum := "8c4a97996eb5cc5d736a63db9f3ce519146f69dda1cf04d68eebbfbdde67702d", func := "squint/squintlaw10.PayloadParses", spec := "payloadParses", unfollowed := true, recurses := true, apart := false }
def PayloadParsesSaid : Prop := payloadParsesRow.holds Try.pinned (OpenSpec.ofChange payloadParsesSpec)

/-- ITS FALSE NEIGHBOUR: 'it returns false'. Refute it at one input. -/
def payloadParsesWrong : ChangeSpec := { name := "payloadParses", fn := fun _ => fun
  | [d] => { results := [.lit (.bool false)], args := [d] }
  | _ => none }
def PayloadParsesWrongFalsely : Prop := payloadParsesRow.holds Try.pinned (OpenSpec.ofChange payloadParsesWrong)

/-- 'squintlaw10.PayloadPads': WHATEVER THE INPUT: true; the input reads as it did. -/
def payloadPadsSpec : ChangeSpec := { name := "payloadPads", fn := fun _ => fun
  | [d1, d2, d3] => { results := [.lit (.bool true)], args := [d1, d2, d3] }
  | _ => none }
def payloadPadsRow : OpenClaim := { program := "ytdfdcenbpanegaa", sum := "8c4a97996eb5cc5d736a63db9f3ce519146f69dda1cf04d68eebbfbdde67702d", func := "squint/squintlaw10.PayloadPads", spec := "payloadPads", unfollowed := true, recurses := true, apart := false }
def PayloadPadsSaid : Prop := payloadPadsRow.holds Try.pinned (OpenSpec.ofChange payloadPadsSpec)

/-- ITS FALSE NEIGHBOUR: 'it returns false'. Refute it at one input. -/
def payloadPadsWrong : ChangeSpec := { name := "payloadPads", fn := fun _ => fun
  | [d1, d2, d3] => { results := [.lit (.bool false)], args := [d1, d2, d3] }
  | _ => none }
def PayloadPadsWrongFalsely : Prop := payloadPadsRow.holds Try.pinned (OpenSpec.ofChange payloadPadsWrong)

/-- 'squintlaw10.PayloadOther': WHATEVER THE INPUT: true; the input reads as it did. -/
def payloadOtherSpec : ChangeSpec := { name := "payloadOther", fn := fun _ => fun
  | [d] => { results := [.lit (.bool true)], args := [d] }
  | _ => none }
def payloadOtherRow : OpenClaim := { program := "ytdfdcenbpanegaa", sum := "8c4a97996eb5cc5d736a63db9f3ce519146f69dda1cf04d68eebbfbdde67702d", func := "squint/squintlaw10.PayloadOther", spec := "payloadOther", unfollowed := true, recurses := true, apart := false }
def PayloadOtherSaid : Prop := payloadOtherRow.holds Try.pinned (OpenSpec.ofChange payloadOtherSpec)

/-- ITS FALSE NEIGHBOUR: 'it returns false'. Refute it at one input. -/
def payloadOtherWrong : ChangeSpec := { name := "payloadOther", fn := fun _ => fun
  | [d] => { results := [.lit (.bool false)], args := [d] }
  | _ => none }
def PayloadOtherWrongFalsely : Prop := payloadOtherRow.holds Try.pinned (OpenSpec.ofChange payloadOtherWrong)

/-- 'squintlaw10.PayloadSame': WHATEVER THE INPUT: true; the input reads as it did. -/
def payloadSameSpec : ChangeSpec := { name := "payloadSame", fn := fun _ => fun
  | [d1, d2] => { results := [.lit (.bool true)], args := [d1, d2] }
  | _ => none }
def payloadSameRow : OpenClaim := { program := "ytdfdcenbpanegaa", sum := "8c4a97996eb5cc5d736a63db9f3ce519146f69dda1cf04d68eebbfbdde67702d", func := "squint/squintlaw10.PayloadSame", spec := "payloadSame", unfollowed := true, recurses := true, apart := false }
def PayloadSameSaid : Prop := payloadSameRow.holds Try.pinned (OpenSpec.ofChange payloadSameSpec)

/-- ITS FALSE NEIGHBOUR: 'it returns false'. Refute it at one input. -/
def payloadSameWrong : ChangeSpec := { name := "payloadSame", fn := fun _ => fun
  | [d1, d2] => { results := [.lit (.bool false)], args := [d1, d2] }
  | _ => none }
def PayloadSameWrongFalsely : Prop := payloadSameRow.holds Try.pinned (OpenSpec.ofChange payloadSameWrong)

/-- 'squintlaw10.PayloadFaults': WHATEVER THE INPUT: true; the input reads as it did. -/
def payloadFaultsSpec : ChangeSpec := { name := "payloadFaults", fn := fun _ => fun
  | [d] => { results := [.lit (.bool true)], args := [d] }
  | _ => none }
def payloadFaultsRow : OpenClaim := { program := "ytdfdcenbpanegaa", sum := "8c4a97996eb5cc5d736a63db9f3ce519146f69dda1cf04d68eebbfbdde67702d", func := "squint/squintlaw10.PayloadFaults", spec := "payloadFaults", unfollowed := true, recurses := true, apart := false }
def PayloadFaultsSaid : Prop := payloadFaultsRow.holds Try.pinned (OpenSpec.ofChange payloadFaultsSpec)

/-- ITS FALSE NEIGHBOUR: 'it returns false'. Refute it at one input. -/
def payloadFaultsWrong : ChangeSpec := { name := "payloadFaults", fn := fun _ => fun
  | [d] => { results := [.lit (.bool false)], args := [d] }
  | _ => none }
def PayloadFaultsWrongFalsely : Prop := payloadFaultsRow.holds Try.pinned (OpenSpec.ofChange payloadFaultsWrong)

/- THE SECOND FORM. 'bulk': how many values and letters a reading holds, each counted each time it is reached (what is shared counts as often as it is met; a slice's spare places count too). A statement '..UptoSaid' is the law's where the arguments, and the package variables that the reading takes, are together of bulk at most 1048576: NARROWER than '..Said'. Prove '..Said' where nothing that the law and all that it calls make is longer than what came in: it says more and counts as full. Else prove '..UptoSaid'. A law counts once. -/
mutual
def uptoBulk {H : Type} : DataW H → Nat
  | .lit (.string bytes) => bytes.length + 1
  | .lit _ => 1
  | .nil => 1
  | .ptr d => uptoBulk d + 1
  | .slice elems spare => uptoBulkAll elems + uptoBulkAll spare + 1
  | .agg parts => uptoBulkAll parts + 1
  | .iface _ d => uptoBulk d + 1
  | .map entries => uptoBulkEntries entries + 1
  | .held _ => 1
def uptoBulkAll {H : Type} : List (DataW H) → Nat
  | [] => 0
  | d :: r => uptoBulk d + uptoBulkAll r
def uptoBulkEntries {H : Type} : List (Lit × DataW H) → Nat
  | [] => 0
  | x :: r => uptoBulkEntry x + uptoBulkEntries r
def uptoBulkEntry {H : Type} : Lit × DataW H → Nat
  | (.string bytes, d) => bytes.length + uptoBulk d + 1
  | (_, d) => uptoBulk d + 1
 end
def uptoSmall : (H : Type) → List (DataW H) → Bool := fun _ ds => decide (uptoBulkAll ds ≤ 1048576)
def OpenSpec.upto (s : _root_.Go.ChangeSpec) : _root_.Go.OpenSpec := { _root_.Go.OpenSpec.ofChange s with cond := some uptoSmall }

/-- 'squintlaw10.PayloadParses', WHERE WHAT IT READS IS OF BULK AT MOST 1048576: true; the input reads as it did. -/
def payloadParsesUptoRow : OpenClaim := { program := "ytdfdcenbpanegaa", sum := "8c4a97996eb5cc5d736a63db9f3ce519146f69dda1cf04d68eebbfbdde67702d", func := "squint/squintlaw10.PayloadParses", spec := "payloadParses", unfollowed := true, recurses := true, apart := false, narrowed := true }
def PayloadParsesUptoSaid : Prop := payloadParsesUptoRow.holds Try.pinned (OpenSpec.upto payloadParsesSpec)

/-- 'squintlaw10.PayloadPads', WHERE WHAT IT READS IS OF BULK AT MOST 1048576: true; the input reads as it did. -/
def payloadPadsUptoRow : OpenClaim := { program := "ytdfdcenbpanegaa", sum := "8c4a97996eb5cc5d736a63db9f3ce519146f69dda1cf04d68eebbfbdde67702d", func := "squint/squintlaw10.PayloadPads", spec := "payloadPads", unfollowed := true, recurses := true, apart := false, narrowed := true }
def PayloadPadsUptoSaid : Prop := payloadPadsUptoRow.holds Try.pinned (OpenSpec.upto payloadPadsSpec)

/-- 'squintlaw10.PayloadOther', WHERE WHAT IT READS IS OF BULK AT MOST 1048576: true; the input reads as it did. -/
def payloadOtherUptoRow : OpenClaim := { program := "ytdfdcenbpanegaa", sum := "8c4a97996eb5cc5d736a63db9f3ce519146f69dda1cf04d68eebbfbdde67702d", func := "squint/squintlaw10.PayloadOther", spec := "payloadOther", unfollowed := true, recurses := true, apart := false, narrowed := true }
def PayloadOtherUptoSaid : Prop := payloadOtherUptoRow.holds Try.pinned (OpenSpec.upto payloadOtherSpec)

/-- 'squintlaw10.PayloadSame', WHERE WHAT IT READS IS OF BULK AT MOST 1048576: true; the input reads as it did. -/
def payloadSameUptoRow : OpenClaim := { program := "ytdfdcenbpanegaa", sum := "8c4a97996eb5cc5d736a63db9f3ce519146f69dda1cf04d68eebbfbdde67702d", func := "squint/squintlaw10.PayloadSame", spec := "payloadSame", unfollowed := true, recurses := true, apart := false, narrowed := true }
def PayloadSameUptoSaid : Prop := payloadSameUptoRow.holds Try.pinned (OpenSpec.upto payloadSameSpec)

/-- 'squintlaw10.PayloadFaults', WHERE WHAT IT READS IS OF BULK AT MOST 1048576: true; the input reads as it did. -/
def payloadFaultsUptoRow : OpenClaim := { program := "ytdfdcenbpanegaa", sum := "8c4a97996eb5cc5d736a63db9f3ce519146f69dda1cf04d68eebbfbdde67702d", func := "squint/squintlaw10.PayloadFaults", spec := "payloadFaults", unfollowed := true, recurses := true, apart := false, narrowed := true }
def PayloadFaultsUptoSaid : Prop := payloadFaultsUptoRow.holds Try.pinned (OpenSpec.upto payloadFaultsSpec)

end Rows
end Go.Proofs.Ytdfdcenbpanegaa
