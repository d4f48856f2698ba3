/-
  No cell of these rows narrows 'for every input' (looked for: loops, veiled, ifaces, maps, wideKeys, modest, calm, conditions, laid).
  DERIVED. THE GIVEN ROWS OF THIS SEAT. 5 by the template 'for every input the law returns true; each argument reads behind the call as it read before'; 0 by the template 'total and deterministic' (their statements: YtkjkekhhhbopcaaTotals.lean).
  GIVEN WITH THE SEED: the statements are not yours to turn. If you find one false, say at which input.
  Laid BY PROGRAM, IN A SANDBOX (cutbox-rows.mjs): the forced cells as the released guide's own fill.sh prints them over the translation 83290855b84af789… (all of the seat's roots in one cut). By AI agents, Wed Nov 11 2026. No macro, syntax, notation, axiom, sorry.
-/
import Derived.Test.YtkjkekhhhbopcaaChecked
import GoSem.Claim
import GoSem.ClaimJoined
import GoSem.ClaimMapViews
import Derived.JoinedTies
import Derived.KernelRfl
namespace Go.Proofs.Ytkjkekhhhbopcaa
/- THE CELL 'sum', in the pinned program and in every row, IS THE sha256 OF THE DUMP (.gsa) THAT YtkjkekhhhbopcaaProg.lean LOADS. Nothing in Lean hashes anything: it is a label: what it is worth is what the hold of that sum in a sandbox is worth. -/
noncomputable def Try.pinned : Pinned := { name := "ytkjkekhhhbopcaa", sum := "83290855b84af789447c5345455546c58f63f6dd04d04da2155da9acef3fadd9", checked := Try.checked }
namespace Rows
def none {H : Type} : Left H := { results := [], args := [] }

/-- 'squintlaw06.DynNew': WHATEVER THE INPUT: true; the input reads as it did. -/
def dynNewSpec : ChangeSpec := { name := "dynNew", fn := fun _ => fun
  | [d1, d2] => { results := [.lit (.bool true)], args := [d1, d2] }
  | _ => none }
def dynNewRow : OpenClaim := { program := "ytkjkekhhhbopcaa", sum := "83290855b84af789447c5345455546c58f63f6dd04d04da2155da9acef3fadd9", func := "squint/squintlaw06.DynNew", spec := "dynNew", apart := false }
def DynNewSaid : Prop := dynNewRow.holds Try.pinned (OpenSpec.ofChange dynNewSpec)

/-- ITS FALSE NEIGHBOUR: 'it returns false'. Refute it at one input. -/
def dynNewWrong : ChangeSpec := { name := "dynNew", fn := fun _ => fun
  | [d1, d2] => { results := [.lit (.bool false)], args := [d1, d2] }
  | _ => none }
def DynNewWrongFalsely : Prop := dynNewRow.holds Try.pinned (OpenSpec.ofChange dynNewWrong)

/-- 'squintlaw06.DynPlays': WHATEVER THE INPUT: true; the input reads as it did. -/
def dynPlaysSpec : ChangeSpec := { name := "dynPlays", fn := fun _ => fun
  | [d1, d2] => { results := [.lit (.bool true)], args := [d1, d2] }
  | _ => none }
def dynPlaysRow : OpenClaim := { program := "ytkjkekhhhbopcaa", sum := "83290855b84af789447c5345455546c58f63f6dd04d04da2155da9acef3fadd9", func := "squint/squintlaw06.DynPlays", spec := "dynPlays", apart := false }
def DynPlaysSaid : Prop := dynPlaysRow.holds Try.pinned (OpenSpec.ofChange dynPlaysSpec)

/-- ITS FALSE NEIGHBOUR: 'it returns false'. Refute it at one input. -/
def dynPlaysWrong : ChangeSpec := { name := "dynPlays", fn := fun _ => fun
  | [d1, d2] => { results := [.lit (.bool false)], args := [d1, d2] }
  | _ => none }
def DynPlaysWrongFalsely : Prop := dynPlaysRow.holds Try.pinned (OpenSpec.ofChange dynPlaysWrong)

/-- 'squintlaw06.DynAll': WHATEVER THE INPUT: true; the input reads as it did. -/
def dynAllSpec : ChangeSpec := { name := "dynAll", fn := fun _ => fun
  | [d] => { results := [.lit (.bool true)], args := [d] }
  | _ => none }
def dynAllRow : OpenClaim := { program := "ytkjkekhhhbopcaa", sum := "83290855b84af789447c5345455546c58f63f6dd04d04da2155da9acef3fadd9", func := "squint/squintlaw06.DynAll", spec := "dynAll", unfollowed := true, recurses := true, apart := false }
def DynAllSaid : Prop := dynAllRow.holds Try.pinned (OpenSpec.ofChange dynAllSpec)

/-- ITS FALSE NEIGHBOUR: 'it returns false'. Refute it at one input. -/
def dynAllWrong : ChangeSpec := { name := "dynAll", fn := fun _ => fun
  | [d] => { results := [.lit (.bool false)], args := [d] }
  | _ => none }
def DynAllWrongFalsely : Prop := dynAllRow.holds Try.pinned (OpenSpec.ofChange dynAllWrong)

/-- 'squintlaw06.DynFinds': WHATEVER THE INPUT: true; the input reads as it did. -/
def dynFindsSpec : ChangeSpec := { name := "dynFinds", fn := fun _ => fun
  | [d1, d2, d3] => { results := [.lit (.bool true)], args := [d1, d2, d3] }
  | _ => none }
def dynFindsRow : OpenClaim := { program := "ytkjkekhhhbopcaa", sum := "83290855b84af789447c5345455546c58f63f6dd04d04da2155da9acef3fadd9", func := "squint/squintlaw06.DynFinds", spec := "dynFinds", unfollowed := true, recurses := true, apart := false }
def DynFindsSaid : Prop := dynFindsRow.holds Try.pinned (OpenSpec.ofChange dynFindsSpec)

/-- ITS FALSE NEIGHBOUR: 'it returns false'. Refute it at one input. -/
def dynFindsWrong : ChangeSpec := { name := "dynFinds", fn := fun _ => fun
  | [d1, d2, d3] => { results := [.lit (.bool false)], args := [d1, d2, d3] }
  | _ => none }
def DynFindsWrongFalsely : Prop := dynFindsRow.holds Try.pinned (OpenSpec.ofChange dynFindsWrong)

/-- 'squintlaw06.DynNewest': WHATEVER THE INPUT: true; the input reads as it did. -/
def dynNewestSpec : ChangeSpec := { name := "dynNewest", fn := fun _ => fun
  | [d1, d2, d3] => { results := [.lit (.bool true)], args := [d1, d2, d3] }
  | _ => none }
def dynNewestRow : OpenClaim := { program := "ytkjkekhhhbopcaa", sum := "83290855b84af789447c5345455546c58f63f6dd04d04da2155da9acef3fadd9", func := "squint/squintlaw06.DynNewest", spec := "dynNewest", unfollowed := true, recurses := true, apart := false }
def DynNewestSaid : Prop := dynNewestRow.holds Try.pinned (OpenSpec.ofChange dynNewestSpec)

/-- ITS FALSE NEIGHBOUR: 'it returns false'. Refute it at one input. -/
def dynNewestWrong : ChangeSpec := { name := "dynNewest", fn := fun _ => fun
  | [d1, d2, d3] => { results := [.lit (.bool false)], args := [d1, d2, d3] }
  | _ => none }
def DynNewestWrongFalsely : Prop := dynNewestRow.holds Try.pinned (OpenSpec.ofChange dynNewestWrong)

/- THE SECOND FORM. 'bulk': how many values and letters a reading holds, each counted each time it is reached (what is shared counts as often as it is met; a slice's spare places count too). A statement '..UptoSaid' is the law's where the arguments, and the package variables that the reading takes, are together of bulk at most 1048576: NARROWER than '..Said'. Prove '..Said' where nothing that the law and all that it calls make is longer than what came in: it says more and counts as full. Else prove '..UptoSaid'. A law counts once. -/
mutual
def uptoBulk {H : Type} : DataW H → Nat
  | .lit (.string bytes) => bytes.length + 1
  | .lit _ => 1
  | .nil => 1
  | .ptr d => uptoBulk d + 1
  | .slice elems spare => uptoBulkAll elems + uptoBulkAll spare + 1
  | .agg parts => uptoBulkAll parts + 1
  | .iface _ d => uptoBulk d + 1
  | .map entries => uptoBulkEntries entries + 1
  | .held _ => 1
def uptoBulkAll {H : Type} : List (DataW H) → Nat
  | [] => 0
  | d :: r => uptoBulk d + uptoBulkAll r
def uptoBulkEntries {H : Type} : List (Lit × DataW H) → Nat
  | [] => 0
  | x :: r => uptoBulkEntry x + uptoBulkEntries r
def uptoBulkEntry {H : Type} : Lit × DataW H → Nat
  | (.string bytes, d) => bytes.length + uptoBulk d + 1
  | (_, d) => uptoBulk d + 1
 end
def uptoSmall : (H : Type) → List (DataW H) → Bool := fun _ ds => decide (uptoBulkAll ds ≤ 1048576)
def OpenSpec.upto (s : _root_.Go.ChangeSpec) : _root_.Go.OpenSpec := { _root_.Go.OpenSpec.ofChange s with cond := some uptoSmall }

/-- 'squintlaw06.DynNew', WHERE WHAT IT READS IS OF BULK AT MOST 1048576: true; the input reads as it did. -/
def dynNewUptoRow : OpenClaim := { program := "ytkjkekhhhbopcaa", sum := "83290855b84af789447c5345455546c58f63f6dd04d04da2155da9acef3fadd9", func := "squint/squintlaw06.DynNew", spec := "dynNew", apart := false, narrowed := true }
def DynNewUptoSaid : Prop := dynNewUptoRow.holds Try.pinned (OpenSpec.upto dynNewSpec)

/-- 'squintlaw06.DynPlays', WHERE WHAT IT READS IS OF BULK AT MOST 1048576: true; the input reads as it did. -/
def dynPlaysUptoRow : OpenClaim := { program := "ytkjkekhhhbopcaa", sum := "83290855b84af789447c5345455546c58f63f6dd04d04da2155da9acef3fadd9", func := "squint/squintlaw06.DynPlays", spec := "dynPlays", apart := false, narrowed := true }
def DynPlaysUptoSaid : Prop := dynPlaysUptoRow.holds Try.pinned (OpenSpec.upto dynPlaysSpec)

/-- 'squintlaw06.DynAll', WHERE WHAT IT READS IS OF BULK AT MOST 1048576: true; the input reads as it did. -/
def dynAllUptoRow : OpenClaim := { program := "ytkjkekhhhbopcaa", sum := "83290855b84af789447c5345455546c58f63f6dd04d04da2155da9acef3fadd9", func := "squint/squintlaw06.DynAll", spec := "dynAll", unfollowed := true, recurses := true, apart := false, narrowed := true }
def DynAllUptoSaid : Prop := dynAllUptoRow.holds Try.pinned (OpenSpec.upto dynAllSpec)

/-- 'squintlaw06.DynFinds', WHERE WHAT IT READS IS OF BULK AT MOST 1048576: true; the input reads as it did. -/
def dynFindsUptoRow : OpenClaim := { program := "ytkjkekhhhbopcaa", sum := "83290855b84af789447c5345455546c58f63f6dd04d04da2155da9acef3fadd9", func := "squint/squintlaw06.DynFinds", spec := "dynFinds", unfollowed := true, recurses := true, apart := false, narrowed := true }
def DynFindsUptoSaid : Prop := dynFindsUptoRow.holds Try.pinned (OpenSpec.upto dynFindsSpec)

/-- 'squintlaw06.DynNewest', WHERE WHAT IT READS IS OF BULK AT MOST 1048576: true; the input reads as it did. -/
def dynNewestUptoRow : OpenClaim := { program := "ytkjkekhhhbopcaa", sum := "83290855b84af789447c5345455546c58f63f6dd04d04da2155da9acef3fadd9", func := "squint/squintlaw06.DynNewest", spec := "dynNewest", unfollowed := true, recurses := true, apart := false, narrowed := true }
def DynNewestUptoSaid : Prop := dynNewestUptoRow.holds Try.pinned (OpenSpec.upto dynNewestSpec)

end Rows
end Go.Proofs.Ytkjkekhhhbopcaa
