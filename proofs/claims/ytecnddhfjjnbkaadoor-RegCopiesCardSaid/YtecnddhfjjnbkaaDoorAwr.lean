/- awake of chapter 14. -/
import Derived.Test.YtecnddhfjjnbkaaDoorOpn
set_option linter.unusedSimpArgs false
set_option linter.unusedVariables false
namespace Go.Proofs.YtecnddhfjjnbkaaDoor
open Go.RowKit

section
variable {G : Gnd} {w w' : World} {l : List Asrt}
set_option maxHeartbeats 4000000 in
set_option maxRecDepth 100000 in
theorem law_awake (H : Sat G w l) (ht : TabG G) : Calls Tryd.prog 8 #[] w fun e w' => e = .returned (.bool true) ∧ Sat G w' l := by
  refine calls_any fun K hK => ?_
  have hn : Calls Tryd.prog 11 #[.int .i64 3, .int .i64 1] w _ := rg_new H 3 1 (by decide)
  have e1 : rOpen 3 1 [] (List.replicate 3 0) 0 1 = ⟨[newE 3], [0, 1, 0], 3, 3, 0⟩ := by rfl
  have e2 : rOpen 3 1 [newE 3] [0, 1, 0] 3 4 = ⟨[newE 3], [0, 1, 0], 3, 0, 33⟩ := by rfl
  have e3 : rOpen 3 1 [newE 3] [0, 1, 0] 3 5 = ⟨[newE 3, newE 11], [0, 1, 1], 11, 11, 0⟩ := by rfl
  have w1 : RWf 3 1 [] (List.replicate 3 0) 0 := ⟨by decide, by decide, by decide, by decide, by decide, by decide, by decide, by decide⟩
  have w2 : RWf 3 1 [newE 3] [0, 1, 0] 3 := ⟨by decide, by decide, by decide, by decide, by decide, by simp, by decide, by decide⟩
  have HE := Lib.hid (And.intro e1 (And.intro e2 e3))
  have HW := Lib.hid (And.intro w1 w2)
  clear H e1 e2 e3 w1 w2
  go_enter Tryd.func8, Tryd.ntmps8
  go_wp2_with fail
  (with_reducible refine hn.mono ?_)
  clear hn
  rintro e wa ⟨g, rfl, S1⟩
  replace S1 : Sat G wa (rgA g 3 1 [] (List.replicate 3 0) 0 :: l) := S1
  have ho := rg_open S1 HW.out.1 ht 1
  rw [HE.out.1] at ho
  clear S1
  go_wp2_with fail
  (with_reducible refine ho.mono ?_)
  clear ho
  rintro e wb ⟨rfl, S1⟩
  have ho := rg_open S1 HW.out.2 ht 4
  rw [HE.out.2.1] at ho
  clear S1
  go_wp2_with fail
  (with_reducible refine ho.mono ?_)
  clear ho
  rintro e wc ⟨rfl, S1⟩
  have ho := rg_open S1 HW.out.2 ht 5
  rw [HE.out.2.2] at ho
  clear S1
  go_wp2_with fail
  (with_reducible refine ho.mono ?_)
  clear ho
  rintro e wd ⟨rfl, S1⟩
  have hw := rg_owner0 11 3 wd
  rw [show ownT 11 3 = 2 by decide, show ownR 11 3 = true by decide] at hw
  have HS := Lib.hid S1
  have hv := rg_live S1 (by decide) 1
  rw [show liveAt [0, 1, 1] 1 = 1 by decide] at hv
  have hl := rg_last S1
  clear S1
  go_wp2_with fail
  (with_reducible refine hw.mono ?_)
  clear hw
  rintro e we ⟨rfl, rfl⟩
  go_wp2_with fail
  (with_reducible refine hv.mono ?_)
  clear hv
  rintro e we ⟨rfl, rfl⟩
  go_wp2_with fail
  (with_reducible refine hl.mono ?_)
  clear hl
  rintro e we ⟨rfl, rfl⟩
  go_wp2_with fail
  exact hK.out _ _ ⟨rfl, HS.out.drop⟩
end
end Go.Proofs.YtecnddhfjjnbkaaDoor
