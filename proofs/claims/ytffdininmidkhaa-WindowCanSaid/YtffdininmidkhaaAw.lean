/- The walks over the reference's step and over the fixed answer. -/
import Derived.Test.YtffdininmidkhaaParts
set_option linter.unusedSimpArgs false
set_option linter.unusedVariables false
namespace Go.Proofs.Ytffdininmidkhaa
open Go.RowKit

def refStep (n k a b : Int) : Int × Int :=
  if k = 3 then
    if a < 0 ∨ 2147483647 < a ∨ b < 0 ∨ 2147483647 < b then (n, 11)
    else if 2147483647 < n + b - a then (n, 103)
    else if n + b - a < -2147483648 then (n, 11)
    else (n + b - a, 0)
  else if a < 0 ∨ 2147483647 < a then (n, 11)
  else if k = 1 then
    if a = 0 then (n, 11) else if 2147483647 < n + a then (n, 103) else (n + a, 0)
  else if 0 < a ∧ n < a then (n, 15)
  else (n - a, 0)
set_option maxHeartbeats 4000000 in
set_option maxRecDepth 100000 in
theorem ref_step (n k a b : Int) (w : World) (h0 : -2147483648 ≤ n) (h1 : n ≤ 2147483647) :
    Calls Try.prog 14 #[.int .i64 n, .int .i64 k, .int .i64 a, .int .i64 b] w fun e w' => e = .returned (.tuple #[.int .i64 (refStep n k a b).1, .int .i64 (refStep n k a b).2]) ∧ w = w' := by
  refine calls_any fun K hK => ?_
  by_cases hk : k = 3
  · subst hk
    by_cases a1 : a < 0
    · go_enter Try.func14, Try.ntmps14
      go_wp2_with fail
      exact hK.out _ _ ⟨by unfold refStep; (repeat' split) <;> first | rfl | (exfalso; omega), rfl⟩
    by_cases a2 : 2147483647 < a
    · go_enter Try.func14, Try.ntmps14
      go_wp2_with fail
      exact hK.out _ _ ⟨by unfold refStep; (repeat' split) <;> first | rfl | (exfalso; omega), rfl⟩
    by_cases a3 : b < 0
    · go_enter Try.func14, Try.ntmps14
      go_wp2_with fail
      exact hK.out _ _ ⟨by unfold refStep; (repeat' split) <;> first | rfl | (exfalso; omega), rfl⟩
    by_cases a4 : 2147483647 < b
    · go_enter Try.func14, Try.ntmps14
      go_wp2_with fail
      exact hK.out _ _ ⟨by unfold refStep; (repeat' split) <;> first | rfl | (exfalso; omega), rfl⟩
    by_cases a5 : 2147483647 < n + b - a
    · go_enter Try.func14, Try.ntmps14
      go_wp2_with fail
      exact hK.out _ _ ⟨by unfold refStep; (repeat' split) <;> first | rfl | (exfalso; omega), rfl⟩
    by_cases a6 : n + b - a < -2147483648
    · go_enter Try.func14, Try.ntmps14
      go_wp2_with fail
      exact hK.out _ _ ⟨by unfold refStep; (repeat' split) <;> first | rfl | (exfalso; omega), rfl⟩
    · go_enter Try.func14, Try.ntmps14
      go_wp2_with fail
      exact hK.out _ _ ⟨by unfold refStep; (repeat' split) <;> first | rfl | (exfalso; omega), rfl⟩
  have hkb : (k == 3) = false := by simpa using hk
  by_cases a1 : a < 0
  · go_enter Try.func14, Try.ntmps14
    go_wp2_with fail
    exact hK.out _ _ ⟨by unfold refStep; (repeat' split) <;> first | rfl | (exfalso; omega), rfl⟩
  by_cases a2 : 2147483647 < a
  · go_enter Try.func14, Try.ntmps14
    go_wp2_with fail
    exact hK.out _ _ ⟨by unfold refStep; (repeat' split) <;> first | rfl | (exfalso; omega), rfl⟩
  by_cases hk1 : k = 1
  · subst hk1
    by_cases a3 : a = 0
    · subst a3
      go_enter Try.func14, Try.ntmps14
      go_wp2_with fail
      exact hK.out _ _ ⟨by unfold refStep; (repeat' split) <;> first | rfl | (exfalso; omega), rfl⟩
    have a3b : (a == 0) = false := by simpa using a3
    by_cases a4 : 2147483647 < n + a
    · go_enter Try.func14, Try.ntmps14
      go_wp2_with fail
      exact hK.out _ _ ⟨by unfold refStep; (repeat' split) <;> first | rfl | (exfalso; omega), rfl⟩
    · go_enter Try.func14, Try.ntmps14
      go_wp2_with fail
      exact hK.out _ _ ⟨by unfold refStep; (repeat' split) <;> first | rfl | (exfalso; omega), rfl⟩
  have hk1b : (k == 1) = false := by simpa using hk1
  by_cases a3 : 0 < a
  · by_cases a4 : n < a
    · go_enter Try.func14, Try.ntmps14
      go_wp2_with fail
      exact hK.out _ _ ⟨by unfold refStep; (repeat' split) <;> first | rfl | (exfalso; omega), rfl⟩
    · go_enter Try.func14, Try.ntmps14
      go_wp2_with fail
      exact hK.out _ _ ⟨by unfold refStep; (repeat' split) <;> first | rfl | (exfalso; omega), rfl⟩
  · go_enter Try.func14, Try.ntmps14
    go_wp2_with fail
    exact hK.out _ _ ⟨by unfold refStep; (repeat' split) <;> first | rfl | (exfalso; omega), rfl⟩

/-! ### the same, of a window that is a block of its own -/
section
variable {G : Gnd} {w : World} {b : Nat} {m : Int} {t : TypeId} {l : List Asrt}
theorem grow_sat (H : Sat G w (blk b #[.int .i64 m] t :: l)) (n : Int) (h0 : -2147483648 ≤ m) (h1 : m ≤ 2147483647) :
    Calls Try.prog 11 #[.pointer (some ⟨b, 0, none⟩), .int .i64 n] w fun e w' => e = .returned (.int .i64 (winGrow m n).2) ∧ Sat G w' (blk b #[.int .i64 (winGrow m n).1] t :: l) :=
  (win_grow b 0 m n w h0 h1 (H.cell 0) (H.frozen 0)).mono fun e w' ⟨he, hw⟩ => ⟨he, hw ▸ H.setCell 0 _⟩
theorem spend_sat (H : Sat G w (blk b #[.int .i64 m] t :: l)) (n : Int) (h0 : -2147483648 ≤ m) (h1 : m ≤ 2147483647) :
    Calls Try.prog 12 #[.pointer (some ⟨b, 0, none⟩), .int .i64 n] w fun e w' => e = .returned (.int .i64 (winSpend m n).2) ∧ Sat G w' (blk b #[.int .i64 (winSpend m n).1] t :: l) :=
  (win_spend b 0 m n w h0 h1 (H.cell 0) (H.frozen 0)).mono fun e w' ⟨he, w1, hb, hw⟩ => ⟨he, hw ▸ (H.below hb).setCell 0 _⟩
theorem shift_sat (H : Sat G w (blk b #[.int .i64 m] t :: l)) (x y : Int) (h0 : -2147483648 ≤ m) (h1 : m ≤ 2147483647) :
    Calls Try.prog 13 #[.pointer (some ⟨b, 0, none⟩), .int .i64 x, .int .i64 y] w fun e w' => e = .returned (.int .i64 (winShift m x y).2) ∧ Sat G w' (blk b #[.int .i64 (winShift m x y).1] t :: l) :=
  (win_shift b 0 m x y w h0 h1 (H.cell 0) (H.frozen 0)).mono fun e w' ⟨he, hw⟩ => ⟨he, hw ▸ H.setCell 0 _⟩
end

set_option maxHeartbeats 400000 in
set_option maxRecDepth 100000 in
theorem awake_true (w : World) : Calls Try.prog 8 #[] w fun e w' => e = .returned (.bool true) ∧ Below w.heap.size w w' := by
  refine calls_any fun K hK => ?_
  go_enter Try.func8, Try.ntmps8
  go_wp2_with fail
  have c := win_new 10 w
  rw [show winNew 10 = (10, 0) from by decide] at c
  (with_reducible refine c.mono ?_)
  clear c
  rintro e w1 ⟨rfl, hb1⟩
  have S1 := ((Sat.start w).below hb1).newBlk #[.int .i64 10] 25
  clear hb1
  go_wp2_with fail
  generalize w1.heap.size = b at *
  have c := spend_sat S1 7 (by omega) (by omega)
  rw [show winSpend 10 7 = (3, 0) from by decide] at c
  (with_reducible refine c.mono ?_)
  clear c S1
  rintro e w2 ⟨rfl, S2⟩
  go_wp2_with fail
  have c := shift_sat S2 10 5 (by omega) (by omega)
  rw [show winShift 3 10 5 = (-2, 0) from by decide] at c
  (with_reducible refine c.mono ?_)
  clear c S2
  rintro e w3 ⟨rfl, S3⟩
  go_wp2_with fail
  have c := spend_sat S3 1 (by omega) (by omega)
  rw [show winSpend (-2) 1 = (-2, 15) from by decide] at c
  (with_reducible refine c.mono ?_)
  clear c S3
  rintro e w4 ⟨rfl, S4⟩
  go_wp2_with fail
  have c := win_new (-1) w4
  rw [show winNew (-1) = (0, 11) from by decide] at c
  (with_reducible refine c.mono ?_)
  clear c
  rintro e w5 ⟨rfl, hb5⟩
  have S5 := (S4.below hb5).alloc (.cells #[.int .i64 0] 25)
  have h5 := S5.cell 0
  clear hb5 S4
  go_wp2_with fail
  (with_reducible refine (win_size (-2) _).mono ?_)
  rintro e w6 ⟨rfl, hb6⟩
  have S6 := S5.below hb6
  clear hb6 h5 S5
  go_wp2_with fail
  have c := grow_sat S6 2147483647 (by omega) (by omega)
  rw [show winGrow (-2) 2147483647 = (2147483645, 0) from by decide] at c
  (with_reducible refine c.mono ?_)
  clear c S6
  rintro e w7 ⟨rfl, S7⟩
  go_wp2_with fail
  have c := grow_sat S7 3 (by omega) (by omega)
  rw [show winGrow 2147483645 3 = (2147483645, 103) from by decide] at c
  (with_reducible refine c.mono ?_)
  clear c S7
  rintro e w8 ⟨rfl, S8⟩
  go_wp2_with fail
  have c := win_parts 10 3 w8 (by omega) (by omega) (by omega) (by omega)
  rw [show ((3 : Nat) : Int) = 3 from rfl] at c
  (with_reducible refine c.mono ?_)
  clear c
  rintro e w9 ⟨rfl, hb9, _⟩
  have S9 := S8.below hb9
  clear hb9
  go_wp2_with fail
  exact hK.out _ _ ⟨rfl, S9.above Gnd.le.rfl'⟩
end Go.Proofs.Ytffdininmidkhaa
