/- States and events: what each call tells; the table lies in the ground. -/
import Derived.Test.YtecnddhfjjnbkaaDoorRegJ
import Derived.Test.YtecnddhfjjnbkaaDoorOpt
import Derived.Deep.Cut
set_option linter.unusedSimpArgs false
set_option linter.unusedVariables false
namespace Go.Proofs.YtecnddhfjjnbkaaDoor
open Go.RowKit

def tabL : List Int := [1, -1, -1, -1, -2, -2, -2, -2, -2, 1, 1, 3, 4, 1, 1, 2, 4, 1, 2, 2, 4, 4, -3, -3, -3, 4, 2, -1, -1, -1, 4, 3, 3, 4, 4, 3, -1, -1, -1, -1, -3, -3, -3, 4, 4]
def tabAt (s e : Int) : Int := tabL.getD (s * 9 + e).toNat 0
def sRight (s : Int) : Bool := decide (0 ≤ s ∧ s < 5)
def eSends (e : Int) : Bool := decide (0 ≤ e ∧ e ≤ 3)
def eGets (e : Int) : Bool := decide (3 < e ∧ e < 9)
def sSend (s e : Int) : Int × Int := if sRight s && eSends e then (if tabAt s e = -1 then (0, 25) else (tabAt s e, 0)) else (0, 11)
def sGet (s e : Int) : Int × Int × Bool := if sRight s && eGets e then (if tabAt s e = -2 then (s, 101, true) else if tabAt s e = -3 then (4, 105, false) else (tabAt s e, 0, false)) else (4, 102, true)
def sMay (s e : Int) : Bool := sRight s && decide (0 ≤ e ∧ e < 9) && decide (0 ≤ tabAt s e)
/-- The table lies in memory as the program's text lays it. -/
def TabW (w : World) : Prop := ∀ k, k < 45 → w.cell? ⟨0, k, none⟩ = some (.int .i64 (tabL.getD k 0))
theorem st_right (s : Int) (w : World) : Calls Tryd.prog 48 #[.int .i64 s] w fun e w' => e = .returned (.bool (sRight s)) ∧ w = w' := by
  refine calls_any fun K hK => ?_
  by_cases a1 : s ≥ 0
  · by_cases a2 : s < 5
    · rw [show sRight s = true from decide_eq_true ⟨a1, a2⟩] at hK
      replace a1 := decide_eq_true a1
      replace a2 := decide_eq_true a2
      go_enter Tryd.func48, Tryd.ntmps48
      go_wp2_with fail
      exact hK.out _ _ ⟨rfl, rfl⟩
    · rw [show sRight s = false from decide_eq_false fun h => a2 h.2] at hK
      replace a1 := decide_eq_true a1
      replace a2 := decide_eq_false a2
      go_enter Tryd.func48, Tryd.ntmps48
      go_wp2_with fail
      exact hK.out _ _ ⟨rfl, rfl⟩
  · rw [show sRight s = false from decide_eq_false fun h => a1 h.1] at hK
    replace a1 := decide_eq_false a1
    go_enter Tryd.func48, Tryd.ntmps48
    go_wp2_with fail
    exact hK.out _ _ ⟨rfl, rfl⟩
theorem ev_sends (s : Int) (w : World) : Calls Tryd.prog 38 #[.int .i64 s] w fun e w' => e = .returned (.bool (eSends s)) ∧ w = w' := by
  refine calls_any fun K hK => ?_
  by_cases a1 : s ≥ 0
  · by_cases a2 : s ≤ 3
    · rw [show eSends s = true from decide_eq_true ⟨a1, a2⟩] at hK
      replace a1 := decide_eq_true a1
      replace a2 := decide_eq_true a2
      go_enter Tryd.func38, Tryd.ntmps38
      go_wp2_with fail
      exact hK.out _ _ ⟨rfl, rfl⟩
    · rw [show eSends s = false from decide_eq_false fun h => a2 h.2] at hK
      replace a1 := decide_eq_true a1
      replace a2 := decide_eq_false a2
      go_enter Tryd.func38, Tryd.ntmps38
      go_wp2_with fail
      exact hK.out _ _ ⟨rfl, rfl⟩
  · rw [show eSends s = false from decide_eq_false fun h => a1 h.1] at hK
    replace a1 := decide_eq_false a1
    go_enter Tryd.func38, Tryd.ntmps38
    go_wp2_with fail
    exact hK.out _ _ ⟨rfl, rfl⟩
theorem ev_gets (s : Int) (w : World) : Calls Tryd.prog 39 #[.int .i64 s] w fun e w' => e = .returned (.bool (eGets s)) ∧ w = w' := by
  refine calls_any fun K hK => ?_
  by_cases a1 : s > 3
  · by_cases a2 : s < 9
    · rw [show eGets s = true from decide_eq_true ⟨a1, a2⟩] at hK
      replace a1 := decide_eq_true a1
      replace a2 := decide_eq_true a2
      go_enter Tryd.func39, Tryd.ntmps39
      go_wp2_with fail
      exact hK.out _ _ ⟨rfl, rfl⟩
    · rw [show eGets s = false from decide_eq_false fun h => a2 h.2] at hK
      replace a1 := decide_eq_true a1
      replace a2 := decide_eq_false a2
      go_enter Tryd.func39, Tryd.ntmps39
      go_wp2_with fail
      exact hK.out _ _ ⟨rfl, rfl⟩
  · rw [show eGets s = false from decide_eq_false fun h => a1 h.1] at hK
    replace a1 := decide_eq_false a1
    go_enter Tryd.func39, Tryd.ntmps39
    go_wp2_with fail
    exact hK.out _ _ ⟨rfl, rfl⟩
theorem tab_cell {w : World} (ht : TabW w) (s e : Nat) (hs : s < 5) (he : e < 9) : w.cell? ⟨0, s * 9 + e, none⟩ = some (.int .i64 (tabAt s e)) := by
  rw [ht (s * 9 + e) (by omega)]
  unfold tabAt
  rw [show ((s : Int) * 9 + (e : Int)).toNat = s * 9 + e by omega]
theorem st_send (s e : Int) (w : World) (ht : TabW w) : Calls Tryd.prog 40 #[.int .i64 s, .int .i64 e] w fun x w' => x = .returned (.tuple #[.int .i64 (sSend s e).1, .int .i64 (sSend s e).2]) ∧ w = w' := by
  refine calls_any fun K hK => ?_
  have h1 := st_right s w
  have h2 := ev_sends e w
  cases hr : sRight s with
  | false =>
    rw [hr] at h1
    rw [show sSend s e = (0, 11) by unfold sSend; rw [hr]; rfl] at hK
    clear ht h2
    go_enter Tryd.func40, Tryd.ntmps40
    go_wp2_with fail
    (with_reducible refine h1.mono ?_)
    rintro e w1 ⟨rfl, rfl⟩
    go_wp2_with fail
    exact hK.out _ _ ⟨rfl, rfl⟩
  | true =>
    rw [hr] at h1
    cases hs : eSends e with
    | false =>
      rw [hs] at h2
      rw [show sSend s e = (0, 11) by unfold sSend; rw [hr, hs]; rfl] at hK
      clear ht
      go_enter Tryd.func40, Tryd.ntmps40
      go_wp2_with fail
      (with_reducible refine h1.mono ?_)
      rintro e w1 ⟨rfl, rfl⟩
      go_wp2_with fail
      (with_reducible refine h2.mono ?_)
      rintro e w1 ⟨rfl, rfl⟩
      go_wp2_with fail
      exact hK.out _ _ ⟨rfl, rfl⟩
    | true =>
      rw [hs] at h2
      obtain ⟨s0, s1⟩ := of_decide_eq_true hr
      obtain ⟨e0, e1⟩ := of_decide_eq_true hs
      obtain ⟨s, rfl⟩ : ∃ j : Nat, s = j := ⟨s.toNat, by omega⟩
      obtain ⟨e, rfl⟩ : ∃ j : Nat, e = j := ⟨e.toNat, by omega⟩
      have hc := tab_cell ht s e (by omega) (by omega)
      have hx : sSend s e = if tabAt s e = -1 then (0, 25) else (tabAt s e, 0) := by unfold sSend; rw [hr, hs]; rfl
      rw [hx] at hK
      clear ht hr hs hx
      generalize tabAt s e = t at *
      by_cases hn : t = -1
      · subst hn
        rw [if_pos rfl] at hK
        go_enter Tryd.func40, Tryd.ntmps40
        go_wp2_with fail
        (with_reducible refine h1.mono ?_)
        rintro e w1 ⟨rfl, rfl⟩
        go_wp2_with fail
        (with_reducible refine h2.mono ?_)
        rintro e w1 ⟨rfl, rfl⟩
        go_wp2_with fail
        exact hK.out _ _ ⟨rfl, rfl⟩
      · rw [if_neg hn] at hK
        have hnb : (t == -1) = false := beq_eq_false_iff_ne.2 hn
        clear hn
        go_enter Tryd.func40, Tryd.ntmps40
        go_wp2_with fail
        (with_reducible refine h1.mono ?_)
        rintro e w1 ⟨rfl, rfl⟩
        go_wp2_with fail
        (with_reducible refine h2.mono ?_)
        rintro e w1 ⟨rfl, rfl⟩
        go_wp2_with fail
        exact hK.out _ _ ⟨rfl, rfl⟩
end Go.Proofs.YtecnddhfjjnbkaaDoor
