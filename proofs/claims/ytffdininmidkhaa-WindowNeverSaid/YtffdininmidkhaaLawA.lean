/- The walks of the laws on windows that take numbers alone. -/
import Derived.Test.YtffdininmidkhaaAw
import Derived.Test.YtffdininmidkhaaArgs
set_option linter.unusedSimpArgs false
set_option linter.unusedVariables false
namespace Go.Proofs.Ytffdininmidkhaa
open Go.RowKit

theorem owed_zero (g l : Int) : winOwed g g l = 0 := by
  unfold winOwed
  rw [if_pos (by omega)]
set_option maxHeartbeats 400000 in
set_option maxRecDepth 100000 in
theorem owed_law (w : World) (g b l : Int) (hl : (Lit.int .i64 l).wf = true) (hg : (Lit.int .i64 g).wf = true) (hb : (Lit.int .i64 b).wf = true) :
    Calls Try.prog 7 #[.int .i64 g, .int .i64 b, .int .i64 l] w fun e w' => e = .returned (.bool true) ∧ Below w.heap.size w w' := by
  refine calls_any fun K hK => ?_
  have hg' := bounds_i64 hg
  have hb' := bounds_i64 hb
  have hl' := bounds_i64 hl
  clear hg hb hl
  obtain ⟨g0, g1⟩ := hg'
  obtain ⟨b0, b1⟩ := hb'
  obtain ⟨l0, l1⟩ := hl'
  by_cases c1 : g < 0
  · go_enter Try.func7, Try.ntmps7
    go_wp2_with ((go_at_call 8; (with_reducible refine (awake_true _).mono ?_); rintro e w9 ⟨rfl, hb9⟩))
    exact hK.out _ _ ⟨rfl, hb9⟩
  by_cases c2 : b < 0
  · go_enter Try.func7, Try.ntmps7
    go_wp2_with ((go_at_call 8; (with_reducible refine (awake_true _).mono ?_); rintro e w9 ⟨rfl, hb9⟩))
    exact hK.out _ _ ⟨rfl, hb9⟩
  by_cases c3 : 1099511627776 < g
  · go_enter Try.func7, Try.ntmps7
    go_wp2_with ((go_at_call 8; (with_reducible refine (awake_true _).mono ?_); rintro e w9 ⟨rfl, hb9⟩))
    exact hK.out _ _ ⟨rfl, hb9⟩
  by_cases c4 : 1099511627776 < b
  · go_enter Try.func7, Try.ntmps7
    go_wp2_with ((go_at_call 8; (with_reducible refine (awake_true _).mono ?_); rintro e w9 ⟨rfl, hb9⟩))
    exact hK.out _ _ ⟨rfl, hb9⟩
  have ho := win_owed g b l
  by_cases c5 : g - b < 1 ∨ g - b < l
  · have e0 : winOwed g b l = 0 := by unfold winOwed; rw [if_pos (by omega)]
    rw [e0] at ho
    clear e0
    by_cases c6 : g - b < 1
    · clear c5
      go_enter Try.func7, Try.ntmps7
      go_wp2_with (first | (go_at_call 8; (with_reducible refine (awake_true _).mono ?_); rintro e w9 ⟨rfl, hb9⟩) | (go_at_call 17; (with_reducible refine (ho _ (by omega) (by omega) (by omega) (by omega)).mono ?_); rintro e w1 ⟨rfl, rfl⟩))
      exact hK.out _ _ ⟨rfl, hb9⟩
    · have c7 : g - b < l := by omega
      clear c5
      go_enter Try.func7, Try.ntmps7
      go_wp2_with (first | (go_at_call 8; (with_reducible refine (awake_true _).mono ?_); rintro e w9 ⟨rfl, hb9⟩) | (go_at_call 17; (with_reducible refine (ho _ (by omega) (by omega) (by omega) (by omega)).mono ?_); rintro e w1 ⟨rfl, rfl⟩))
      exact hK.out _ _ ⟨rfl, hb9⟩
  · have e0 : winOwed g b l = g - b := by unfold winOwed; rw [if_neg (by omega)]
    rw [e0] at ho
    have hz := owed_zero g l
    have ho2 := win_owed g g l
    rw [hz] at ho2
    clear e0 hz
    have c6 : ¬ g - b < 1 := by omega
    have c7 : ¬ g - b < l := by omega
    have hbg : b + (g - b) = g := by omega
    clear c5
    go_enter Try.func7, Try.ntmps7
    go_wp2_with fail
    (with_reducible refine (ho _ (by omega) (by omega) (by omega) (by omega)).mono ?_)
    rintro e w1 ⟨rfl, rfl⟩
    go_wp2_with fail
    (with_reducible refine (ho2 _ (by omega) (by omega) (by omega) (by omega)).mono ?_)
    rintro e w1 ⟨rfl, rfl⟩
    go_wp2_with ((go_at_call 8; (with_reducible refine (awake_true _).mono ?_); rintro e w9 ⟨rfl, hb9⟩))
    exact hK.out _ _ ⟨rfl, hb9⟩
theorem windowOwed_walk (w : World) (v0 v1 v2 : Value) (h0 : ∃ d, ArgV w (.int .i64) v0 d) (h1 : ∃ d, ArgV w (.int .i64) v1 d) (h2 : ∃ d, ArgV w (.int .i64) v2 d) :
    Calls Try.prog 7 #[v0, v1, v2] w fun e w' => e = .returned (.bool true) ∧ Below w.heap.size w w' := by
  obtain ⟨_, h0⟩ := h0
  obtain ⟨_, h1⟩ := h1
  obtain ⟨_, h2⟩ := h2
  obtain ⟨g, rfl, hg⟩ := arg_int h0
  obtain ⟨b, rfl, hb⟩ := arg_int h1
  obtain ⟨l, rfl, hl⟩ := arg_int h2
  exact owed_law w g b l hl hg hb
end Go.Proofs.Ytffdininmidkhaa
