/- A guard that does not let its operation run. -/
import Derived.Test.YtecnddhfjjnbkaaDoorOpt
set_option linter.unusedSimpArgs false
set_option linter.unusedVariables false
namespace Go.Proofs.YtecnddhfjjnbkaaDoor
open Go.RowKit

theorem wanted_miss {ops : Array Oper} {o : Oper} {a : Act} {g : Nat} {t : Tmp} {b b' : Bool} (hg : o.guard = some (g, b)) (ht : (ops[g]?).bind (·.dst) = some t) (he : a.eval (.tmp t) = .bool b') (hne : b' ≠ b) : Region.wanted o (yielded ops a.tmps) = false := by
  unfold Region.wanted
  rw [hg]
  simp [yielded_of ht he, hne]
theorem wanted_none {ops : Array Oper} {o : Oper} {a : Act} {g : Nat} {t : Tmp} {b : Bool} (hg : o.guard = some (g, b)) (ht : (ops[g]?).bind (·.dst) = some t) (he : a.eval (.tmp t) = undef) : Region.wanted o (yielded ops a.tmps) = false := by
  have hy : yielded ops a.tmps g = none := by
    unfold yielded
    rw [ht]
    simp only [Act.eval] at he
    cases hv : a.tmps[t]? with
    | none => simp [hv]
    | some v => simp [hv] at he; subst he; simp [hv, undef]
  unfold Region.wanted
  rw [hg]
  simp [hy]
/-- A whole block is loaded, behind a guard. -/
theorem wpOp_rowG {P : Program} {ops : Array Oper} {Q : Exit → Act → World → Prop} {i : Nat} {o : Oper} {K : Act → World → Prop} {a : Act} {w : World} {G : Gnd} {l : List Asrt} (ho : ops[i]? = some o) (hw : Region.wanted o (yielded ops a.tmps) = true) (ty : TypeId) (x : Operand) (hop : o.op = .load ty x)
    (g : Nat) (hx : a.eval x = .pointer (some ⟨g, 0, none⟩)) (t : TypeId) (cs : Array Value) (S : Sat G w (blk g cs t :: l)) (d : TypeDesc) (hu : P.underlying ty = some d) (hd : (match d with | .struct _ | .array _ _ => true | _ => false) = true) (hi : (P.info? ty).map (·.size) = some cs.size)
    (h : K (a.put o.dst (.agg cs)) w) : wpOp P ops Q i K a w := by
  unfold wpOp
  simp only [ho]
  rw [if_pos hw]
  left
  exact wp_load_row ty x hop g hx t cs (0, 0) d S.blk_at hu hd hi h
end Go.Proofs.YtecnddhfjjnbkaaDoor
