/- Two items are compared. -/
import Derived.Test.YtohknaoklcehaaaParse
import Derived.Test.YtohknaoklcehaaaCat
set_option linter.unusedSimpArgs false
set_option linter.unusedVariables false
namespace Go.Proofs.Ytohknaoklcehaaa
open Go.RowKit

set_option maxHeartbeats 4000000 in
theorem eq_arr2 (p0 p1 q0 q1 : Int) (w : World) : (Op.equalIn 10000 31 (.agg #[.int .i64 p0, .int .i64 p1]) (.agg #[.int .i64 q0, .int .i64 q1])).run Try.prog w = .ok (decide (p0 = q0 ∧ p1 = q1)) w := by
  have hu := Try.underlying3
  have ha := Try.isAgg3
  have hz := Try.sizeOf3
  rw [show (10000 : Nat) = 9999 + 1 from rfl, Op.equalIn]
  simp only [Sem.run_bind, run_underlying Try.underlying31, Result.andThen_ok]
  simp only [Std.Legacy.Range.forIn_eq_forIn_range', Std.Legacy.Range.size, Nat.sub_zero, Nat.add_sub_cancel, Nat.div_one, List.range'_succ, List.range'_zero, List.forIn_cons, List.forIn_nil]
  by_cases e0 : p0 = q0
  rotate_left
  · have b0 : (p0 == q0) = false := by simpa using e0
    rw [decide_eq_false (fun h => e0 h.1)]
    go_simp
  subst e0
  by_cases e1 : p1 = q1
  rotate_left
  · have b1 : (p1 == q1) = false := by simpa using e1
    rw [decide_eq_false (fun h => e1 h.2)]
    go_simp
  subst e1
  rw [decide_eq_true ⟨rfl, rfl⟩]
  go_simp
end Go.Proofs.Ytohknaoklcehaaa
