/- The walks over cell: right, Len, Room, Cells. -/
import Derived.Test.YthenpoammpkjeaaRefB
import Derived.Laws.CopyOwn
set_option linter.unusedSimpArgs false
set_option linter.unusedVariables false
namespace Go.Proofs.Ythenpoammpkjeaa
open Go.RowKit

def clRight (n : Int) : Bool := decide (1 ≤ n ∧ n ≤ 1024)
theorem cell_right (n : Int) (w : World) : Calls Try.prog 25 #[.int .i64 n] w fun e w' => e = .returned (.bool (clRight n)) ∧ w = w' := by
  refine calls_any fun K hK => ?_
  by_cases a1 : n ≥ 1
  · by_cases a2 : n ≤ 1024
    · rw [show clRight n = true from decide_eq_true ⟨a1, a2⟩] at hK
      replace a1 := decide_eq_true a1
      replace a2 := decide_eq_true a2
      go_enter Try.func25, Try.ntmps25
      go_wp2_with fail
      exact hK.out _ _ ⟨rfl, rfl⟩
    · rw [show clRight n = false from decide_eq_false fun h => a2 h.2] at hK
      replace a1 := decide_eq_true a1
      replace a2 := decide_eq_false a2
      go_enter Try.func25, Try.ntmps25
      go_wp2_with fail
      exact hK.out _ _ ⟨rfl, rfl⟩
  · rw [show clRight n = false from decide_eq_false fun h => a1 h.1] at hK
    replace a1 := decide_eq_false a1
    go_enter Try.func25, Try.ntmps25
    go_wp2_with fail
    exact hK.out _ _ ⟨rfl, rfl⟩
def clLen (n : Int) : Int := if clRight n then n + 18 else 0
def clRoom (n : Int) : Int := if clRight n then n + 9 else 0
theorem right_bounds {n : Int} (h : clRight n = true) : 1 ≤ n ∧ n ≤ 1024 := of_decide_eq_true h
theorem cell_len (n : Int) (w : World) : Calls Try.prog 12 #[.int .i64 n] w fun e w' => e = .returned (.int .i64 (clLen n)) ∧ w = w' := by
  refine calls_any fun K hK => ?_
  have hr := cell_right n w
  cases h : clRight n with
  | false =>
    rw [h] at hr
    rw [show clLen n = 0 by unfold clLen; rw [h]; rfl] at hK
    go_enter Try.func12, Try.ntmps12
    go_wp2_with fail
    (with_reducible refine hr.mono ?_)
    rintro e w1 ⟨rfl, rfl⟩
    go_wp2_with fail
    exact hK.out _ _ ⟨rfl, rfl⟩
  | true =>
    rw [h] at hr
    obtain ⟨h1, h2⟩ := right_bounds h
    rw [show clLen n = n + 18 by unfold clLen; rw [h]; rfl] at hK
    go_enter Try.func12, Try.ntmps12
    go_wp2_with fail
    (with_reducible refine hr.mono ?_)
    rintro e w1 ⟨rfl, rfl⟩
    go_wp2_with fail
    exact hK.out _ _ ⟨rfl, rfl⟩
theorem cell_room (n : Int) (w : World) : Calls Try.prog 13 #[.int .i64 n] w fun e w' => e = .returned (.int .i64 (clRoom n)) ∧ w = w' := by
  refine calls_any fun K hK => ?_
  have hr := cell_right n w
  cases h : clRight n with
  | false =>
    rw [h] at hr
    rw [show clRoom n = 0 by unfold clRoom; rw [h]; rfl] at hK
    go_enter Try.func13, Try.ntmps13
    go_wp2_with fail
    (with_reducible refine hr.mono ?_)
    rintro e w1 ⟨rfl, rfl⟩
    go_wp2_with fail
    exact hK.out _ _ ⟨rfl, rfl⟩
  | true =>
    rw [h] at hr
    obtain ⟨h1, h2⟩ := right_bounds h
    rw [show clRoom n = n + 9 by unfold clRoom; rw [h]; rfl] at hK
    go_enter Try.func13, Try.ntmps13
    go_wp2_with fail
    (with_reducible refine hr.mono ?_)
    rintro e w1 ⟨rfl, rfl⟩
    go_wp2_with fail
    exact hK.out _ _ ⟨rfl, rfl⟩
/-- How many cells so many bytes take. -/
def clCells (n c : Int) : Int := if n < 1 ∨ c < 2 then 0 else if n % (c - 1) > 0 then n / (c - 1) + 1 else n / (c - 1)
theorem cell_cells (n c : Int) (hn : n ≤ 3000) (hc : c ≤ 9223372036854775807) (w : World) : Calls Try.prog 15 #[.int .i64 n, .int .i64 c] w fun e w' => e = .returned (.int .i64 (clCells n c)) ∧ w = w' := by
  refine calls_any fun K hK => ?_
  by_cases h1 : n < 1
  · rw [show clCells n c = 0 from if_pos (.inl h1)] at hK
    go_enter Try.func15, Try.ntmps15
    go_wp2_with fail
    exact hK.out _ _ ⟨rfl, rfl⟩
  by_cases h2 : c < 2
  · rw [show clCells n c = 0 from if_pos (.inr h2)] at hK
    go_enter Try.func15, Try.ntmps15
    go_wp2_with fail
    exact hK.out _ _ ⟨rfl, rfl⟩
  have e1 : n.tdiv (c - 1) = n / (c - 1) := Int.tdiv_eq_ediv_of_nonneg (by omega)
  have e2 : n.tmod (c - 1) = n % (c - 1) := Int.tmod_eq_emod_of_nonneg (by omega)
  have h3 : 0 ≤ n / (c - 1) := Int.ediv_nonneg (by omega) (by omega)
  have h4 : n / (c - 1) ≤ n := Int.ediv_le_self _ (by omega)
  have h5 : 0 ≤ n % (c - 1) := Int.emod_nonneg _ (by omega)
  have hw : wrap64 (c - 1) = c - 1 := by unfold wrap64; omega
  have hne : ((c - 1) == 0) = false := by simp; omega
  by_cases h7 : n % (c - 1) > 0
  · rw [show clCells n c = n / (c - 1) + 1 by unfold clCells; rw [if_neg (by omega), if_pos h7]] at hK
    go_enter Try.func15, Try.ntmps15
    go_wp2_with fail
    exact hK.out _ _ ⟨rfl, rfl⟩
  · rw [show clCells n c = n / (c - 1) by unfold clCells; rw [if_neg (by omega), if_neg h7]] at hK
    go_enter Try.func15, Try.ntmps15
    go_wp2_with fail
    exact hK.out _ _ ⟨rfl, rfl⟩
end Go.Proofs.Ythenpoammpkjeaa
