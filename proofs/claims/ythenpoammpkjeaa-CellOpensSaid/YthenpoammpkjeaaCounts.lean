/- The walk of the law CellCounts. -/
import Derived.Test.YthenpoammpkjeaaAw
set_option linter.unusedSimpArgs false
set_option linter.unusedVariables false
namespace Go.Proofs.Ythenpoammpkjeaa
open Go.RowKit

set_option maxHeartbeats 4000000 in
set_option maxRecDepth 100000 in
theorem cellCounts_walk (w : World) (v0 v1 : Value) (h0 : ∃ d, ArgV w (.int .i64) v0 d) (h1 : ∃ d, ArgV w (.int .i64) v1 d) :
    Calls Try.prog 4 #[v0, v1] w fun e w' => e = .returned (.bool true) ∧ Below w.heap.size w w' := by
  refine calls_any fun K hK => ?_
  obtain ⟨_, h0⟩ := h0
  obtain ⟨n, rfl, hn⟩ := arg_int h0
  obtain ⟨_, h1⟩ := h1
  obtain ⟨c, rfl, hc⟩ := arg_int h1
  clear h0 h1
  obtain ⟨n0, n1⟩ := bounds_i64 hn
  obtain ⟨c0, c1⟩ := bounds_i64 hc
  clear hn hc
  by_cases a1 : 3000 < n
  · go_enter Try.func4, Try.ntmps4
    go_wp2_with ((go_at_call 9; (with_reducible refine (law_awake (Sat.start w)).mono ?_); rintro e w9 ⟨rfl, G9, hG9, S9⟩))
    exact hK.out _ _ ⟨rfl, S9.above hG9⟩
  have hcl := fun w => cell_cells n c (by omega) c1 w
  by_cases a2 : n < 1
  · rw [show clCells n c = 0 from if_pos (.inl a2)] at hcl
    go_enter Try.func4, Try.ntmps4
    go_wp2_with fail
    (with_reducible refine (hcl _).mono ?_)
    clear hcl
    rintro e w1 ⟨rfl, rfl⟩
    go_wp2_with ((go_at_call 9; (with_reducible refine (law_awake (Sat.start w)).mono ?_); rintro e w9 ⟨rfl, G9, hG9, S9⟩))
    exact hK.out _ _ ⟨rfl, S9.above hG9⟩
  by_cases a3 : c < 2
  · rw [show clCells n c = 0 from if_pos (.inr a3)] at hcl
    go_enter Try.func4, Try.ntmps4
    go_wp2_with fail
    (with_reducible refine (hcl _).mono ?_)
    clear hcl
    rintro e w1 ⟨rfl, rfl⟩
    go_wp2_with ((go_at_call 9; (with_reducible refine (law_awake (Sat.start w)).mono ?_); rintro e w9 ⟨rfl, G9, hG9, S9⟩))
    exact hK.out _ _ ⟨rfl, S9.above hG9⟩
  by_cases a4 : 5000 < c
  · have e1 : clCells n c = 1 := by
      unfold clCells
      rw [if_neg (by omega), Int.ediv_eq_zero_of_lt (by omega) (by omega), Int.emod_eq_of_lt (by omega) (by omega), if_pos (by omega)]
      rfl
    rw [e1] at hcl
    clear e1
    go_enter Try.func4, Try.ntmps4
    go_wp2_with fail
    (with_reducible refine (hcl _).mono ?_)
    clear hcl
    rintro e w1 ⟨rfl, rfl⟩
    go_wp2_with ((go_at_call 9; (with_reducible refine (law_awake (Sat.start w)).mono ?_); rintro e w9 ⟨rfl, G9, hG9, S9⟩))
    exact hK.out _ _ ⟨rfl, S9.above hG9⟩
  · have hrf := fun w => ref20_cells n c (by omega) (by omega) (by omega) (by omega) w
    generalize clCells n c = k at *
    go_enter Try.func4, Try.ntmps4
    go_wp2_with fail
    (with_reducible refine (hcl _).mono ?_)
    clear hcl
    rintro e w1 ⟨rfl, rfl⟩
    go_wp2_with fail
    (with_reducible refine (hrf _).mono ?_)
    clear hrf
    rintro e w1 ⟨rfl, rfl⟩
    go_wp2_with ((go_at_call 9; (with_reducible refine (law_awake (Sat.start w)).mono ?_); rintro e w9 ⟨rfl, G9, hG9, S9⟩))
    exact hK.out _ _ ⟨rfl, S9.above hG9⟩
end Go.Proofs.Ythenpoammpkjeaa
