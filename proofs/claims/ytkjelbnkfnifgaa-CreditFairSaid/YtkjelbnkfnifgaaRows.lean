/-
  No cell of these rows narrows 'for every input' (looked for: loops, veiled, ifaces, maps, wideKeys, modest, calm, conditions, laid).
  DERIVED. THE GIVEN ROWS OF THIS SEAT. 4 by the template 'for every input the law returns true; each argument reads behind the call as it read before'; 0 by the template 'total and deterministic' (their statements: YtkjelbnkfnifgaaTotals.lean).
  GIVEN WITH THE SEED: the statements are not yours to turn. If you find one false, say at which input.
  Laid BY PROGRAM, IN A SANDBOX (cutbox-rows.mjs): the forced cells as the released guide's own fill.sh prints them over the translation 5be87ed1611d446d… (all of the seat's roots in one cut). By AI agents, Wed Nov 11 2026. No macro, syntax, notation, axiom, sorry.
-/
import Derived.Test.YtkjelbnkfnifgaaChecked
import GoSem.Claim
import GoSem.ClaimJoined
import GoSem.ClaimMapViews
import Derived.JoinedTies
import Derived.KernelRfl
namespace Go.Proofs.Ytkjelbnkfnifgaa
/- THE CELL 'sum', in the pinned program and in every row, IS THE sha256 OF THE DUMP (.gsa) THAT YtkjelbnkfnifgaaProg.lean LOADS. Nothing in Lean hashes anything: it is a label: what it is worth is what the hold of that sum in a sandbox is worth. -/
noncomputable def Try.pinned : Pinned := { name := "ytkjelbnkfnifgaa", sum := "5be87ed1611d446d6dc515f7fdfeacfdbd91dddfa535e9fb7ec84241aae2e282", checked := Try.checked }
namespace Rows
def none {H : Type} : Left H := { results := [], args := [] }

/-- 'squintlaw17.CreditAlone': WHATEVER THE INPUT: true; the input reads as it did. -/
def creditAloneSpec : ChangeSpec := { name := "creditAlone", fn := fun _ => fun
  | [d1, d2, d3] => { results := [.lit (.bool true)], args := [d1, d2, d3] }
  | _ => none }
def creditAloneRow : OpenClaim := { program := "ytkjelbnkfnifgaa", sum := "5be87ed1611d446d6dc515f7fdfeacfdbd91dddfa535e9fb7ec84241aae2e282", func := "squint/squintlaw17.CreditAlone", spec := "creditAlone", apart := false }
def CreditAloneSaid : Prop := creditAloneRow.holds Try.pinned (OpenSpec.ofChange creditAloneSpec)

/-- ITS FALSE NEIGHBOUR: 'it returns false'. Refute it at one input. -/
def creditAloneWrong : ChangeSpec := { name := "creditAlone", fn := fun _ => fun
  | [d1, d2, d3] => { results := [.lit (.bool false)], args := [d1, d2, d3] }
  | _ => none }
def CreditAloneWrongFalsely : Prop := creditAloneRow.holds Try.pinned (OpenSpec.ofChange creditAloneWrong)

/-- 'squintlaw17.CreditPlays': WHATEVER THE INPUT: true; the input reads as it did. -/
def creditPlaysSpec : ChangeSpec := { name := "creditPlays", fn := fun _ => fun
  | [d1, d2] => { results := [.lit (.bool true)], args := [d1, d2] }
  | _ => none }
def creditPlaysRow : OpenClaim := { program := "ytkjelbnkfnifgaa", sum := "5be87ed1611d446d6dc515f7fdfeacfdbd91dddfa535e9fb7ec84241aae2e282", func := "squint/squintlaw17.CreditPlays", spec := "creditPlays", apart := false }
def CreditPlaysSaid : Prop := creditPlaysRow.holds Try.pinned (OpenSpec.ofChange creditPlaysSpec)

/-- ITS FALSE NEIGHBOUR: 'it returns false'. Refute it at one input. -/
def creditPlaysWrong : ChangeSpec := { name := "creditPlays", fn := fun _ => fun
  | [d1, d2] => { results := [.lit (.bool false)], args := [d1, d2] }
  | _ => none }
def CreditPlaysWrongFalsely : Prop := creditPlaysRow.holds Try.pinned (OpenSpec.ofChange creditPlaysWrong)

/-- 'squintlaw17.CreditFair': WHATEVER THE INPUT: true; the input reads as it did. -/
def creditFairSpec : ChangeSpec := { name := "creditFair", fn := fun _ => fun
  | [d1, d2] => { results := [.lit (.bool true)], args := [d1, d2] }
  | _ => none }
def creditFairRow : OpenClaim := { program := "ytkjelbnkfnifgaa", sum := "5be87ed1611d446d6dc515f7fdfeacfdbd91dddfa535e9fb7ec84241aae2e282", func := "squint/squintlaw17.CreditFair", spec := "creditFair", apart := false }
def CreditFairSaid : Prop := creditFairRow.holds Try.pinned (OpenSpec.ofChange creditFairSpec)

/-- ITS FALSE NEIGHBOUR: 'it returns false'. Refute it at one input. -/
def creditFairWrong : ChangeSpec := { name := "creditFair", fn := fun _ => fun
  | [d1, d2] => { results := [.lit (.bool false)], args := [d1, d2] }
  | _ => none }
def CreditFairWrongFalsely : Prop := creditFairRow.holds Try.pinned (OpenSpec.ofChange creditFairWrong)

/-- 'squintlaw17.CreditCopies': WHATEVER THE INPUT: true; the input reads as it did. -/
def creditCopiesSpec : ChangeSpec := { name := "creditCopies", fn := fun _ => fun
  | [d1, d2, d3] => { results := [.lit (.bool true)], args := [d1, d2, d3] }
  | _ => none }
def creditCopiesRow : OpenClaim := { program := "ytkjelbnkfnifgaa", sum := "5be87ed1611d446d6dc515f7fdfeacfdbd91dddfa535e9fb7ec84241aae2e282", func := "squint/squintlaw17.CreditCopies", spec := "creditCopies", apart := false }
def CreditCopiesSaid : Prop := creditCopiesRow.holds Try.pinned (OpenSpec.ofChange creditCopiesSpec)

/-- ITS FALSE NEIGHBOUR: 'it returns false'. Refute it at one input. -/
def creditCopiesWrong : ChangeSpec := { name := "creditCopies", fn := fun _ => fun
  | [d1, d2, d3] => { results := [.lit (.bool false)], args := [d1, d2, d3] }
  | _ => none }
def CreditCopiesWrongFalsely : Prop := creditCopiesRow.holds Try.pinned (OpenSpec.ofChange creditCopiesWrong)

/- THE SECOND FORM. 'bulk': how many values and letters a reading holds, each counted each time it is reached (what is shared counts as often as it is met; a slice's spare places count too). A statement '..UptoSaid' is the law's where the arguments, and the package variables that the reading takes, are together of bulk at most 1048576: NARROWER than '..Said'. Prove '..Said' where nothing that the law and all that it calls make is longer than what came in: it says more and counts as full. Else prove '..UptoSaid'. A law counts once. -/
mutual
def uptoBulk {H : Type} : DataW H → Nat
  | .lit (.string bytes) => bytes.length + 1
  | .lit _ => 1
  | .nil => 1
  | .ptr d => uptoBulk d + 1
  | .slice elems spare => uptoBulkAll elems + uptoBulkAll spare + 1
  | .agg parts => uptoBulkAll parts + 1
  | .iface _ d => uptoBulk d + 1
  | .map entries => uptoBulkEntries entries + 1
  | .held _ => 1
def uptoBulkAll {H : Type} : List (DataW H) → Nat
  | [] => 0
  | d :: r => uptoBulk d + uptoBulkAll r
def uptoBulkEntries {H : Type} : List (Lit × DataW H) → Nat
  | [] => 0
  | x :: r => uptoBulkEntry x + uptoBulkEntries r
def uptoBulkEntry {H : Type} : Lit × DataW H → Nat
  | (.string bytes, d) => bytes.length + uptoBulk d + 1
  | (_, d) => uptoBulk d + 1
 end
def uptoSmall : (H : Type) → List (DataW H) → Bool := fun _ ds => decide (uptoBulkAll ds ≤ 1048576)
def OpenSpec.upto (s : _root_.Go.ChangeSpec) : _root_.Go.OpenSpec := { _root_.Go.OpenSpec.ofChange s with cond := some uptoSmall }

/-- 'squintlaw17.CreditAlone', WHERE WHAT IT READS IS OF BULK AT MOST 1048576: true; the input reads as it did. -/
def creditAloneUptoRow : OpenClaim := { program := "ytkjelbnkfnifgaa", sum := "5be87ed1611d446d6dc515f7fdfeacfdbd91dddfa535e9fb7ec84241aae2e282", func := "squint/squintlaw17.CreditAlone", spec := "creditAlone", apart := false, narrowed := true }
def CreditAloneUptoSaid : Prop := creditAloneUptoRow.holds Try.pinned (OpenSpec.upto creditAloneSpec)

/-- 'squintlaw17.CreditPlays', WHERE WHAT IT READS IS OF BULK AT MOST 1048576: true; the input reads as it did. -/
def creditPlaysUptoRow : OpenClaim := { program := "ytkjelbnkfnifgaa", sum := "5be87ed1611d446d6dc515f7fdfeacfdbd91dddfa535e9fb7ec84241aae2e282", func := "squint/squintlaw17.CreditPlays", spec := "creditPlays", apart := false, narrowed := true }
def CreditPlaysUptoSaid : Prop := creditPlaysUptoRow.holds Try.pinned (OpenSpec.upto creditPlaysSpec)

/-- 'squintlaw17.CreditFair', WHERE WHAT IT READS IS OF BULK AT MOST 1048576: true; the input reads as it did. -/
def creditFairUptoRow : OpenClaim := { program := "ytkjelbnkfnifgaa", sum := "5be87ed1611d446d6dc515f7fdfeacfdbd91dddfa535e9fb7ec84241aae2e282", func := "squint/squintlaw17.CreditFair", spec := "creditFair", apart := false, narrowed := true }
def CreditFairUptoSaid : Prop := creditFairUptoRow.holds Try.pinned (OpenSpec.upto creditFairSpec)

/-- 'squintlaw17.CreditCopies', WHERE WHAT IT READS IS OF BULK AT MOST 1048576: true; the input reads as it did. -/
def creditCopiesUptoRow : OpenClaim := { program := "ytkjelbnkfnifgaa", sum := "5be87ed1611d446d6dc515f7fdfeacfdbd91dddfa535e9fb7ec84241aae2e282", func := "squint/squintlaw17.CreditCopies", spec := "creditCopies", apart := false, narrowed := true }
def CreditCopiesUptoSaid : Prop := creditCopiesUptoRow.holds Try.pinned (OpenSpec.upto creditCopiesSpec)

end Rows
end Go.Proofs.Ytkjelbnkfnifgaa
