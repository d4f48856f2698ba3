/-
  No cell of these rows narrows 'for every input' (looked for: loops, veiled, ifaces, maps, wideKeys, modest, calm, conditions, laid).
  DERIVED. THE GIVEN ROWS OF THIS SEAT. 5 by the template 'for every input the law returns true; each argument reads behind the call as it read before'; 0 by the template 'total and deterministic' (their statements: YtohknaoklcehaaaTotals.lean).
  GIVEN WITH THE SEED: the statements are not yours to turn. If you find one false, say at which input.
  Laid BY PROGRAM, IN A SANDBOX (cutbox-rows.mjs): the forced cells as the released guide's own fill.sh prints them over the translation 42604bb11177e946… (all of the seat's roots in one cut). By AI agents, Wed Nov 11 2026. No macro, syntax, notation, axiom, sorry.
-/
import Derived.Test.YtohknaoklcehaaaChecked
import GoSem.Claim
import GoSem.ClaimJoined
import GoSem.ClaimMapViews
import Derived.JoinedTies
import Derived.KernelRfl
namespace Go.Proofs.Ytohknaoklcehaaa
/- THE CELL 'sum', in the pinned program and in every row, IS THE sha256 OF THE DUMP (.gsa) THAT YtohknaoklcehaaaProg.lean LOADS. Nothing in Lean hashes anything: it is a label: what it is worth is what the hold of that sum in a sandbox is worth. -/
noncomputable def Try.pinned : Pinned := { name := "ytohknaoklcehaaa", sum := "42604bb11177e9469dfab09051a436b85fd80a0c373a1eadfa4b08c55ad53a16", checked := Try.checked }
namespace Rows
def none {H : Type} : Left H := { results := [], args := [] }

/-- 'squintlaw16.SettingsApply': WHATEVER THE INPUT: true; the input reads as it did. -/
def settingsApplySpec : ChangeSpec := { name := "settingsApply", fn := fun _ => fun
  | [d] => { results := [.lit (.bool true)], args := [d] }
  | _ => none }
def settingsApplyRow : OpenClaim := { program := "ytohknaoklcehaaa", sum := "42604bb11177e9469dfab09051a436b85fd80a0c373a1eadfa4b08c55ad53a16", func := "squint/squintlaw16.SettingsApply", spec := "settingsApply", apart := false }
def SettingsApplySaid : Prop := settingsApplyRow.holds Try.pinned (OpenSpec.ofChange settingsApplySpec)

/-- ITS FALSE NEIGHBOUR: 'it returns false'. Refute it at one input. -/
def settingsApplyWrong : ChangeSpec := { name := "settingsApply", fn := fun _ => fun
  | [d] => { results := [.lit (.bool false)], args := [d] }
  | _ => none }
def SettingsApplyWrongFalsely : Prop := settingsApplyRow.holds Try.pinned (OpenSpec.ofChange settingsApplyWrong)

/-- 'squintlaw16.SettingsBack': WHATEVER THE INPUT: true; the input reads as it did. -/
def settingsBackSpec : ChangeSpec := { name := "settingsBack", fn := fun _ => fun
  | [d1, d2] => { results := [.lit (.bool true)], args := [d1, d2] }
  | _ => none }
def settingsBackRow : OpenClaim := { program := "ytohknaoklcehaaa", sum := "42604bb11177e9469dfab09051a436b85fd80a0c373a1eadfa4b08c55ad53a16", func := "squint/squintlaw16.SettingsBack", spec := "settingsBack", apart := false }
def SettingsBackSaid : Prop := settingsBackRow.holds Try.pinned (OpenSpec.ofChange settingsBackSpec)

/-- ITS FALSE NEIGHBOUR: 'it returns false'. Refute it at one input. -/
def settingsBackWrong : ChangeSpec := { name := "settingsBack", fn := fun _ => fun
  | [d1, d2] => { results := [.lit (.bool false)], args := [d1, d2] }
  | _ => none }
def SettingsBackWrongFalsely : Prop := settingsBackRow.holds Try.pinned (OpenSpec.ofChange settingsBackWrong)

/-- 'squintlaw16.SettingsShares': WHATEVER THE INPUT: true; the input reads as it did. -/
def settingsSharesSpec : ChangeSpec := { name := "settingsShares", fn := fun _ => fun
  | [d1, d2] => { results := [.lit (.bool true)], args := [d1, d2] }
  | _ => none }
def settingsSharesRow : OpenClaim := { program := "ytohknaoklcehaaa", sum := "42604bb11177e9469dfab09051a436b85fd80a0c373a1eadfa4b08c55ad53a16", func := "squint/squintlaw16.SettingsShares", spec := "settingsShares", apart := false }
def SettingsSharesSaid : Prop := settingsSharesRow.holds Try.pinned (OpenSpec.ofChange settingsSharesSpec)

/-- ITS FALSE NEIGHBOUR: 'it returns false'. Refute it at one input. -/
def settingsSharesWrong : ChangeSpec := { name := "settingsShares", fn := fun _ => fun
  | [d1, d2] => { results := [.lit (.bool false)], args := [d1, d2] }
  | _ => none }
def SettingsSharesWrongFalsely : Prop := settingsSharesRow.holds Try.pinned (OpenSpec.ofChange settingsSharesWrong)

/-- 'squintlaw16.SettingsLast': WHATEVER THE INPUT: true; the input reads as it did. -/
def settingsLastSpec : ChangeSpec := { name := "settingsLast", fn := fun _ => fun
  | [d1, d2, d3] => { results := [.lit (.bool true)], args := [d1, d2, d3] }
  | _ => none }
def settingsLastRow : OpenClaim := { program := "ytohknaoklcehaaa", sum := "42604bb11177e9469dfab09051a436b85fd80a0c373a1eadfa4b08c55ad53a16", func := "squint/squintlaw16.SettingsLast", spec := "settingsLast", apart := false }
def SettingsLastSaid : Prop := settingsLastRow.holds Try.pinned (OpenSpec.ofChange settingsLastSpec)

/-- ITS FALSE NEIGHBOUR: 'it returns false'. Refute it at one input. -/
def settingsLastWrong : ChangeSpec := { name := "settingsLast", fn := fun _ => fun
  | [d1, d2, d3] => { results := [.lit (.bool false)], args := [d1, d2, d3] }
  | _ => none }
def SettingsLastWrongFalsely : Prop := settingsLastRow.holds Try.pinned (OpenSpec.ofChange settingsLastWrong)

/-- 'squintlaw16.SettingsFrames': WHATEVER THE INPUT: true; the input reads as it did. -/
def settingsFramesSpec : ChangeSpec := { name := "settingsFrames", fn := fun _ => fun
  | [d] => { results := [.lit (.bool true)], args := [d] }
  | _ => none }
def settingsFramesRow : OpenClaim := { program := "ytohknaoklcehaaa", sum := "42604bb11177e9469dfab09051a436b85fd80a0c373a1eadfa4b08c55ad53a16", func := "squint/squintlaw16.SettingsFrames", spec := "settingsFrames", unfollowed := true, recurses := true, apart := false }
def SettingsFramesSaid : Prop := settingsFramesRow.holds Try.pinned (OpenSpec.ofChange settingsFramesSpec)

/-- ITS FALSE NEIGHBOUR: 'it returns false'. Refute it at one input. -/
def settingsFramesWrong : ChangeSpec := { name := "settingsFrames", fn := fun _ => fun
  | [d] => { results := [.lit (.bool false)], args := [d] }
  | _ => none }
def SettingsFramesWrongFalsely : Prop := settingsFramesRow.holds Try.pinned (OpenSpec.ofChange settingsFramesWrong)

/- THE SECOND FORM. 'bulk': how many values and letters a reading holds, each counted each time it is reached (what is shared counts as often as it is met; a slice's spare places count too). A statement '..UptoSaid' is the law's where the arguments, and the package variables that the reading takes, are together of bulk at most 1048576: NARROWER than '..Said'. Prove '..Said' where nothing that the law and all that it calls make is longer than what came in: it says more and counts as full. Else prove '..UptoSaid'. A law counts once. -/
mutual
def uptoBulk {H : Type} : DataW H → Nat
  | .lit (.string bytes) => bytes.length + 1
  | .lit _ => 1
  | .nil => 1
  | .ptr d => uptoBulk d + 1
  | .slice elems spare => uptoBulkAll elems + uptoBulkAll spare + 1
  | .agg parts => uptoBulkAll parts + 1
  | .iface _ d => uptoBulk d + 1
  | .map entries => uptoBulkEntries entries + 1
  | .held _ => 1
def uptoBulkAll {H : Type} : List (DataW H) → Nat
  | [] => 0
  | d :: r => uptoBulk d + uptoBulkAll r
def uptoBulkEntries {H : Type} : List (Lit × DataW H) → Nat
  | [] => 0
  | x :: r => uptoBulkEntry x + uptoBulkEntries r
def uptoBulkEntry {H : Type} : Lit × DataW H → Nat
  | (.string bytes, d) => bytes.length + uptoBulk d + 1
  | (_, d) => uptoBulk d + 1
 end
def uptoSmall : (H : Type) → List (DataW H) → Bool := fun _ ds => decide (uptoBulkAll ds ≤ 1048576)
def OpenSpec.upto (s : _root_.Go.ChangeSpec) : _root_.Go.OpenSpec := { _root_.Go.OpenSpec.ofChange s with cond := some uptoSmall }

/-- 'squintlaw16.SettingsApply', WHERE WHAT IT READS IS OF BULK AT MOST 1048576: true; the input reads as it did. -/
def settingsApplyUptoRow : OpenClaim := { program := "ytohknaoklcehaaa", sum := "42604bb11177e9469dfab09051a436b85fd80a0c373a1eadfa4b08c55ad53a16", func := "squint/squintlaw16.SettingsApply", spec := "settingsApply", apart := false, narrowed := true }
def SettingsApplyUptoSaid : Prop := settingsApplyUptoRow.holds Try.pinned (OpenSpec.upto settingsApplySpec)

/-- 'squintlaw16.SettingsBack', WHERE WHAT IT READS IS OF BULK AT MOST 1048576: true; the input reads as it did. -/
def settingsBackUptoRow : OpenClaim := { program := "ytohknaoklcehaaa", sum := "42604bb11177e9469dfab09051a436b85fd80a0c373a1eadfa4b08c55ad53a16", func := "squint/squintlaw16.SettingsBack", spec := "settingsBack", apart := false, narrowed := true }
def SettingsBackUptoSaid : Prop := settingsBackUptoRow.holds Try.pinned (OpenSpec.upto settingsBackSpec)

/-- 'squintlaw16.SettingsShares', WHERE WHAT IT READS IS OF BULK AT MOST 1048576: true; the input reads as it did. -/
def settingsSharesUptoRow : OpenClaim := { program := "ytohknaoklcehaaa", sum := "42604bb11177e9469dfab09051a436b85fd80a0c373a1eadfa4b08c55ad53a16", func := "squint/squintlaw16.SettingsShares", spec := "settingsShares", apart := false, narrowed := true }
def SettingsSharesUptoSaid : Prop := settingsSharesUptoRow.holds Try.pinned (OpenSpec.upto settingsSharesSpec)

/-- 'squintlaw16.SettingsLast', WHERE WHAT IT READS IS OF BULK AT MOST 1048576: true; the input reads as it did. -/
def settingsLastUptoRow : OpenClaim := { program := "ytohknaoklcehaaa", sum := "42604bb11177e9469dfab09051a436b85fd80a0c373a1eadfa4b08c55ad53a16", func := "squint/squintlaw16.SettingsLast", spec := "settingsLast", apart := false, narrowed := true }
def SettingsLastUptoSaid : Prop := settingsLastUptoRow.holds Try.pinned (OpenSpec.upto settingsLastSpec)

/-- 'squintlaw16.SettingsFrames', WHERE WHAT IT READS IS OF BULK AT MOST 1048576: true; the input reads as it did. -/
def settingsFramesUptoRow : OpenClaim := { program := "ytohknaoklcehaaa", sum := "42604bb11177e9469dfab09051a436b85fd80a0c373a1eadfa4b08c55ad53a16", func := "squint/squintlaw16.SettingsFrames", spec := "settingsFrames", unfollowed := true, recurses := true, apart := false, narrowed := true }
def SettingsFramesUptoSaid : Prop := settingsFramesUptoRow.holds Try.pinned (OpenSpec.upto settingsFramesSpec)

end Rows
end Go.Proofs.Ytohknaoklcehaaa
