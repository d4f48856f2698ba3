/- A guard that does not let its operation run. -/
import Derived.Test.YtidaafpfkbfiaaaOpt
set_option linter.unusedSimpArgs false
set_option linter.unusedVariables false
namespace Go.Proofs.Ytidaafpfkbfiaaa
open Go.RowKit

theorem wanted_miss {ops : Array Oper} {o : Oper} {a : Act} {g : Nat} {t : Tmp} {b b' : Bool} (hg : o.guard = some (g, b)) (ht : (ops[g]?).bind (·.dst) = some t) (he : a.eval (.tmp t) = .bool b') (hne : b' ≠ b) : Region.wanted o (yielded ops a.tmps) = false := by
  unfold Region.wanted
  rw [hg]
  simp [yielded_of ht he, hne]
end Go.Proofs.Ytidaafpfkbfiaaa
