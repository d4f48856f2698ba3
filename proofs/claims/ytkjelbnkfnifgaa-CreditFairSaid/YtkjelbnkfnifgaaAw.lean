/- The walk over awake of chapter 17. -/
import Derived.Test.YtkjelbnkfnifgaaSame
import Derived.Test.YtkjelbnkfnifgaaOps3
set_option linter.unusedSimpArgs false
set_option linter.unusedVariables false
namespace Go.Proofs.Ytkjelbnkfnifgaa
open Go.RowKit

set_option maxHeartbeats 4000000 in
set_option maxRecDepth 100000 in
theorem law_awake (w : World) : Calls Try.prog 7 #[] w fun e w' => e = .returned (.bool true) ∧ Below w.heap.size w w' := by
  refine calls_any fun K hK => ?_
  have g0 : Good [21845, 21845, 21845] := ⟨by decide, by decide, by decide, by decide⟩
  have g1 : Good [21847, 21846, 21846] := ⟨by decide, by decide, by decide, by decide⟩
  have g2 : Good [21848, 21848, 21847] := ⟨by decide, by decide, by decide, by decide⟩
  have g3 : Good [21848, 21843, 21847] := ⟨by decide, by decide, by decide, by decide⟩
  have hnew := cr_new (Sat.start w) 3 (by decide) (by decide)
  rw [show parts 65535 3 = [21845, 21845, 21845] by decide +kernel, show ((3 : Nat) : Int) = 3 from rfl] at hnew
  go_enter Try.func7, Try.ntmps7
  go_wp2_with fail
  (with_reducible refine hnew.mono ?_)
  clear hnew
  rintro e w1 ⟨p, rfl, S1⟩
  have h1 := cr_grant S1 g0 4
  rw [show crGrant [21845, 21845, 21845] 0 4 = ([21847, 21846, 21846], 1, 0) by decide +kernel] at h1
  clear S1
  go_wp2_with fail
  (with_reducible refine h1.mono ?_)
  clear h1
  rintro e w2 ⟨rfl, S2⟩
  have h2 := cr_grant S2 g1 4
  rw [show crGrant [21847, 21846, 21846] 1 4 = ([21848, 21848, 21847], 2, 0) by decide +kernel] at h2
  clear S2
  go_wp2_with fail
  (with_reducible refine h2.mono ?_)
  clear h2
  rintro e w3 ⟨rfl, S3⟩
  have h3 := cr_spend S3 g2 0 30000
  rw [show crSpend [21848, 21848, 21847] 0 30000 = ([21848, 21848, 21847], 15) by decide +kernel] at h3
  clear S3
  go_wp2_with fail
  (with_reducible refine h3.mono ?_)
  clear h3
  rintro e w4 ⟨rfl, S4⟩
  have h4 := cr_spend S4 g2 1 5
  rw [show crSpend [21848, 21848, 21847] 1 5 = ([21848, 21843, 21847], 0) by decide +kernel] at h4
  clear S4
  go_wp2_with fail
  (with_reducible refine h4.mono ?_)
  clear h4
  rintro e w5 ⟨rfl, S5⟩
  have h5 := cr_left S5 (by decide) 0
  rw [show crLeft [21848, 21843, 21847] 0 = 21848 by decide +kernel] at h5
  go_wp2_with fail
  (with_reducible refine h5.mono ?_)
  clear h5
  rintro e w6 ⟨rfl, hb6⟩
  have S6 := S5.below hb6
  clear hb6 S5
  have h6 := cr_left S6 (by decide) 1
  rw [show crLeft [21848, 21843, 21847] 1 = 21843 by decide +kernel] at h6
  go_wp2_with fail
  (with_reducible refine h6.mono ?_)
  clear h6
  rintro e w7 ⟨rfl, hb7⟩
  have S7 := S6.below hb7
  clear hb7 S6
  have h7 := cr_whole S7
  rw [show isum [21848, 21843, 21847] = 65538 by decide +kernel] at h7
  go_wp2_with fail
  (with_reducible refine h7.mono ?_)
  clear h7
  rintro e w8 ⟨rfl, hb8⟩
  have S8 := S7.below hb8
  clear hb8 S7
  have h8 := cr_left S8 (by decide) 3
  rw [show crLeft [21848, 21843, 21847] 3 = 0 by decide +kernel] at h8
  go_wp2_with fail
  (with_reducible refine h8.mono ?_)
  clear h8
  rintro e w9 ⟨rfl, hb9⟩
  have S9 := S8.below hb9
  clear hb9 S8
  go_wp2_with fail
  exact hK.out _ _ ⟨rfl, S9.above Gnd.le.rfl'⟩
end Go.Proofs.Ytkjelbnkfnifgaa
