/- The walk of the law RegOwners. -/
import Derived.Test.YtecnddhfjjnbkaaDoorAwr
import Derived.Test.YtecnddhfjjnbkaaDoorLaid
set_option linter.unusedSimpArgs false
set_option linter.unusedVariables false
namespace Go.Proofs.YtecnddhfjjnbkaaDoor
open Go.RowKit

set_option maxHeartbeats 4000000 in
set_option maxRecDepth 100000 in
theorem regOwners_walk (w : World) (v0 v1 : Value) (h0 : ∃ d, ArgV w (.int .i64) v0 d) (h1 : ∃ d, ArgV w (.int .i64) v1 d) (htab : TabW w) :
    Calls Tryd.prog 3 #[v0, v1] w fun e w' => e = .returned (.bool true) ∧ Below w.heap.size w w' := by
  refine calls_any fun K hK => ?_
  obtain ⟨_, h0⟩ := h0
  obtain ⟨t, rfl, -⟩ := arg_int h0
  obtain ⟨_, h1⟩ := h1
  obtain ⟨n, rfl, -⟩ := arg_int h1
  clear h0 h1
  have HS := Lib.hid (Sat.start w)
  have HT := Lib.hid (TabG.of htab)
  clear htab
  have hid := rg_id t
  by_cases a1 : t < 0
  · rw [show idOf t = 0 from if_neg (by omega)] at hid
    go_enter Tryd.func3, Tryd.ntmps3
    go_wp2_with fail
    (with_reducible refine (hid _).mono ?_); rintro e w1 ⟨rfl, rfl⟩
    go_wp2_with fail
    (with_reducible refine (law_awake HS.out HT.out).mono ?_); rintro e w9 ⟨rfl, S9⟩; go_wp2_with fail; exact hK.out _ _ ⟨rfl, S9.above Gnd.le.rfl'⟩
  by_cases a2 : 1073741823 < t
  · rw [show idOf t = 0 from if_neg (by omega)] at hid
    go_enter Tryd.func3, Tryd.ntmps3
    go_wp2_with fail
    (with_reducible refine (hid _).mono ?_); rintro e w1 ⟨rfl, rfl⟩
    go_wp2_with fail
    (with_reducible refine (law_awake HS.out HT.out).mono ?_); rintro e w9 ⟨rfl, S9⟩; go_wp2_with fail; exact hK.out _ _ ⟨rfl, S9.above Gnd.le.rfl'⟩
  rw [show idOf t = 2 * t + 1 from if_pos (by omega)] at hid
  have ho := rg_owner0 (2 * t + 1) n
  have b1 : ¬ t < 0 := a1
  have b2 : ¬ 1073741823 < t := a2
  by_cases a3 : n < 1
  · rw [show ownR (2 * t + 1) n = false from decide_eq_false (by omega), show ownT (2 * t + 1) n = 0 from if_neg (by rw [show ownR (2 * t + 1) n = false from decide_eq_false (by omega)]; decide)] at ho
    go_enter Tryd.func3, Tryd.ntmps3
    go_wp2_with fail
    (with_reducible refine (hid _).mono ?_); rintro e w1 ⟨rfl, rfl⟩
    go_wp2_with fail
    (with_reducible refine (ho _).mono ?_); rintro e w1 ⟨rfl, rfl⟩
    go_wp2_with fail
    (with_reducible refine (law_awake HS.out HT.out).mono ?_); rintro e w9 ⟨rfl, S9⟩; go_wp2_with fail; exact hK.out _ _ ⟨rfl, S9.above Gnd.le.rfl'⟩
  by_cases a4 : 64 < n
  · rw [show ownR (2 * t + 1) n = false from decide_eq_false (by omega), show ownT (2 * t + 1) n = 0 from if_neg (by rw [show ownR (2 * t + 1) n = false from decide_eq_false (by omega)]; decide)] at ho
    go_enter Tryd.func3, Tryd.ntmps3
    go_wp2_with fail
    (with_reducible refine (hid _).mono ?_); rintro e w1 ⟨rfl, rfl⟩
    go_wp2_with fail
    (with_reducible refine (ho _).mono ?_); rintro e w1 ⟨rfl, rfl⟩
    go_wp2_with fail
    (with_reducible refine (law_awake HS.out HT.out).mono ?_); rintro e w9 ⟨rfl, S9⟩; go_wp2_with fail; exact hK.out _ _ ⟨rfl, S9.above Gnd.le.rfl'⟩
  obtain ⟨t, rfl⟩ : ∃ i : Nat, t = i := ⟨t.toNat, by omega⟩
  obtain ⟨n, rfl⟩ : ∃ i : Nat, n = i := ⟨n.toNat, by omega⟩
  have hR : ownR (2 * (t : Int) + 1) n = true := decide_eq_true (by omega)
  have hT : ownT (2 * (t : Int) + 1) n = (t : Int) % n := by
    unfold ownT
    rw [hR, if_pos rfl, show (2 * (t : Int) + 1) / 2 = t by omega]
  have ho2 := rg_owner0 (2 * (t : Int) + 2) n
  have hR2 : ownR (2 * (t : Int) + 2) n = false := decide_eq_false (by omega)
  rw [hR2, show ownT (2 * (t : Int) + 2) n = 0 from if_neg (by rw [hR2]; decide)] at ho2
  rw [hR, hT] at ho
  clear hR hT hR2
  have hm : Int.tmod (t : Int) (n : Int) = (t : Int) % n := Int.tmod_eq_emod_of_nonneg (by omega)
  have hn0 : ((n : Int) == 0) = false := beq_eq_false_iff_ne.2 (by omega)
  have hadd : 2 * (t : Int) + 1 + 1 = 2 * t + 2 := by omega
  by_cases a5 : t = 0
  · have a6 : ((t : Int) == 0) = true := beq_iff_eq.2 (by omega)
    clear a5
    go_enter Tryd.func3, Tryd.ntmps3
    go_wp2_with fail
    (with_reducible refine (hid _).mono ?_); rintro e w1 ⟨rfl, rfl⟩
    go_wp2_with fail
    (with_reducible refine (ho _).mono ?_); rintro e w1 ⟨rfl, rfl⟩
    go_wp2_with fail
    (with_reducible refine (ho2 _).mono ?_)
    rintro e w1 ⟨rfl, rfl⟩
    go_wp2_with fail
    (with_reducible refine (law_awake HS.out HT.out).mono ?_); rintro e w9 ⟨rfl, S9⟩; go_wp2_with fail; exact hK.out _ _ ⟨rfl, S9.above Gnd.le.rfl'⟩
  · have a6 : ((t : Int) == 0) = false := beq_eq_false_iff_ne.2 (by omega)
    have hid2 := rg_id ((t : Int) - 1)
    rw [show idOf ((t : Int) - 1) = 2 * t - 1 from (if_pos (by omega)).trans (by omega)] at hid2
    have hlt : decide (2 * (t : Int) - 1 < 2 * t + 1) = true := decide_eq_true (by omega)
    go_enter Tryd.func3, Tryd.ntmps3
    go_wp2_with fail
    (with_reducible refine (hid _).mono ?_); rintro e w1 ⟨rfl, rfl⟩
    go_wp2_with fail
    (with_reducible refine (ho _).mono ?_); rintro e w1 ⟨rfl, rfl⟩
    go_wp2_with fail
    (with_reducible refine (ho2 _).mono ?_)
    rintro e w1 ⟨rfl, rfl⟩
    go_wp2_with fail
    (with_reducible refine (hid2 _).mono ?_)
    rintro e w1 ⟨rfl, rfl⟩
    go_wp2_with fail
    (with_reducible refine (law_awake HS.out HT.out).mono ?_); rintro e w9 ⟨rfl, S9⟩; go_wp2_with fail; exact hK.out _ _ ⟨rfl, S9.above Gnd.le.rfl'⟩
end Go.Proofs.YtecnddhfjjnbkaaDoor
