/- Two items are compared. -/
import Derived.Test.YtdfdcenbpanegaaParse
import Derived.Test.YtdfdcenbpanegaaCat
set_option linter.unusedSimpArgs false
set_option linter.unusedVariables false
namespace Go.Proofs.Ytdfdcenbpanegaa
open Go.RowKit

set_option maxHeartbeats 4000000 in
theorem eq_arr2 (p0 p1 q0 q1 : Int) (w : World) : (Op.equalIn 10000 50 (.agg #[.int .i64 p0, .int .i64 p1]) (.agg #[.int .i64 q0, .int .i64 q1])).run Try.prog w = .ok (decide (p0 = q0 ∧ p1 = q1)) w := by
  have hu := Try.underlying3
  have ha := Try.isAgg3
  have hz := Try.sizeOf3
  rw [show (10000 : Nat) = 9999 + 1 from rfl, Op.equalIn]
  simp only [Sem.run_bind, run_underlying Try.underlying50, Result.andThen_ok]
  simp only [Std.Legacy.Range.forIn_eq_forIn_range', Std.Legacy.Range.size, Nat.sub_zero, Nat.add_sub_cancel, Nat.div_one, List.range'_succ, List.range'_zero, List.forIn_cons, List.forIn_nil]
  by_cases e0 : p0 = q0
  rotate_left
  · have b0 : (p0 == q0) = false := by simpa using e0
    rw [decide_eq_false (fun h => e0 h.1)]
    go_simp
  subst e0
  by_cases e1 : p1 = q1
  rotate_left
  · have b1 : (p1 == q1) = false := by simpa using e1
    rw [decide_eq_false (fun h => e1 h.2)]
    go_simp
  subst e1
  rw [decide_eq_true ⟨rfl, rfl⟩]
  go_simp
set_option maxHeartbeats 4000000 in
theorem eq_arr8 (p0 p1 p2 p3 p4 p5 p6 p7 q0 q1 q2 q3 q4 q5 q6 q7 : Int) (w : World) : (Op.equalIn 10000 51 (.agg #[.int .i64 p0, .int .i64 p1, .int .i64 p2, .int .i64 p3, .int .i64 p4, .int .i64 p5, .int .i64 p6, .int .i64 p7]) (.agg #[.int .i64 q0, .int .i64 q1, .int .i64 q2, .int .i64 q3, .int .i64 q4, .int .i64 q5, .int .i64 q6, .int .i64 q7])).run Try.prog w = .ok (decide (p0 = q0 ∧ p1 = q1 ∧ p2 = q2 ∧ p3 = q3 ∧ p4 = q4 ∧ p5 = q5 ∧ p6 = q6 ∧ p7 = q7)) w := by
  have hu := Try.underlying3
  have ha := Try.isAgg3
  have hz := Try.sizeOf3
  rw [show (10000 : Nat) = 9999 + 1 from rfl, Op.equalIn]
  simp only [Sem.run_bind, run_underlying Try.underlying51, Result.andThen_ok]
  simp only [Std.Legacy.Range.forIn_eq_forIn_range', Std.Legacy.Range.size, Nat.sub_zero, Nat.add_sub_cancel, Nat.div_one, List.range'_succ, List.range'_zero, List.forIn_cons, List.forIn_nil]
  by_cases e0 : p0 = q0
  rotate_left
  · have b0 : (p0 == q0) = false := by simpa using e0
    rw [decide_eq_false (fun h => e0 h.1)]
    go_simp
  subst e0
  by_cases e1 : p1 = q1
  rotate_left
  · have b1 : (p1 == q1) = false := by simpa using e1
    rw [decide_eq_false (fun h => e1 h.2.1)]
    go_simp
  subst e1
  by_cases e2 : p2 = q2
  rotate_left
  · have b2 : (p2 == q2) = false := by simpa using e2
    rw [decide_eq_false (fun h => e2 h.2.2.1)]
    go_simp
  subst e2
  by_cases e3 : p3 = q3
  rotate_left
  · have b3 : (p3 == q3) = false := by simpa using e3
    rw [decide_eq_false (fun h => e3 h.2.2.2.1)]
    go_simp
  subst e3
  by_cases e4 : p4 = q4
  rotate_left
  · have b4 : (p4 == q4) = false := by simpa using e4
    rw [decide_eq_false (fun h => e4 h.2.2.2.2.1)]
    go_simp
  subst e4
  by_cases e5 : p5 = q5
  rotate_left
  · have b5 : (p5 == q5) = false := by simpa using e5
    rw [decide_eq_false (fun h => e5 h.2.2.2.2.2.1)]
    go_simp
  subst e5
  by_cases e6 : p6 = q6
  rotate_left
  · have b6 : (p6 == q6) = false := by simpa using e6
    rw [decide_eq_false (fun h => e6 h.2.2.2.2.2.2.1)]
    go_simp
  subst e6
  by_cases e7 : p7 = q7
  rotate_left
  · have b7 : (p7 == q7) = false := by simpa using e7
    rw [decide_eq_false (fun h => e7 h.2.2.2.2.2.2.2)]
    go_simp
  subst e7
  rw [decide_eq_true ⟨rfl, rfl, rfl, rfl, rfl, rfl, rfl, rfl⟩]
  go_simp
set_option maxHeartbeats 4000000 in
theorem eq_arr5 (p0 p1 p2 p3 p4 q0 q1 q2 q3 q4 : Bool) (w : World) : (Op.equalIn 10000 54 (.agg #[.bool p0, .bool p1, .bool p2, .bool p3, .bool p4]) (.agg #[.bool q0, .bool q1, .bool q2, .bool q3, .bool q4])).run Try.prog w = .ok (decide (p0 = q0 ∧ p1 = q1 ∧ p2 = q2 ∧ p3 = q3 ∧ p4 = q4)) w := by
  have hu := Try.underlying4
  have ha := Try.isAgg4
  have hz := Try.sizeOf4
  rw [show (10000 : Nat) = 9999 + 1 from rfl, Op.equalIn]
  simp only [Sem.run_bind, run_underlying Try.underlying54, Result.andThen_ok]
  simp only [Std.Legacy.Range.forIn_eq_forIn_range', Std.Legacy.Range.size, Nat.sub_zero, Nat.add_sub_cancel, Nat.div_one, List.range'_succ, List.range'_zero, List.forIn_cons, List.forIn_nil]
  by_cases e0 : p0 = q0
  rotate_left
  · have b0 : (p0 == q0) = false := by simpa using e0
    rw [decide_eq_false (fun h => e0 h.1)]
    go_simp
  subst e0
  by_cases e1 : p1 = q1
  rotate_left
  · have b1 : (p1 == q1) = false := by simpa using e1
    rw [decide_eq_false (fun h => e1 h.2.1)]
    go_simp
  subst e1
  by_cases e2 : p2 = q2
  rotate_left
  · have b2 : (p2 == q2) = false := by simpa using e2
    rw [decide_eq_false (fun h => e2 h.2.2.1)]
    go_simp
  subst e2
  by_cases e3 : p3 = q3
  rotate_left
  · have b3 : (p3 == q3) = false := by simpa using e3
    rw [decide_eq_false (fun h => e3 h.2.2.2.1)]
    go_simp
  subst e3
  by_cases e4 : p4 = q4
  rotate_left
  · have b4 : (p4 == q4) = false := by simpa using e4
    rw [decide_eq_false (fun h => e4 h.2.2.2.2)]
    go_simp
  subst e4
  rw [decide_eq_true ⟨rfl, rfl, rfl, rfl, rfl⟩]
  go_simp
end Go.Proofs.Ytdfdcenbpanegaa
