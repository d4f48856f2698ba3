/- Get, May, and a stream's run: the walks. -/
import Derived.Test.YtecnddhfjjnbkaaDoorSt
import Derived.StillTailTactics
import Derived.Deep.RegionHeld
set_option linter.unusedSimpArgs false
set_option linter.unusedVariables false
namespace Go.Proofs.YtecnddhfjjnbkaaDoor
open Go.RowKit

theorem results_t_cell {P : Program} {fn : Func} {p1 p2 : Tmp} {y1 : TypeId} (h : fn.results = #[.tmp p2, .cell p1 y1]) (tmps : Array Value) (w : World) (g1 : Nat) (t1 : TypeId) (c1 : Array Value) (d1 : TypeDesc)
    (hp1 : tmps.getD p1 undef = .pointer (some ⟨g1, 0, none⟩)) (hg1 : w.heap[g1]? = some (.cells c1 t1 (0, 0))) (hu1 : P.underlying y1 = some d1) (hd1 : (match d1 with | .struct _ | .array _ _ => true | _ => false) = true) (hi1 : (P.info? y1).map (·.size) = some c1.size) :
    (results fn tmps).run P w = .ok (.tuple #[tmps.getD p2 undef, .agg c1]) w := by
  have h1 : tmps[p1]?.getD undef = .pointer (some ⟨g1, 0, none⟩) := by simpa using hp1
  simp [results, h, h1, asAddr, run_loadVar_row w g1 t1 y1 c1 (0, 0) d1 hg1 hu1 hd1 hi1]
section
variable {G : Gnd} {w : World} {l : List Asrt}
theorem fa_ok (H : Sat G w l) (c : Int) (b : Bool) : Calls Tryd.prog 30 #[.agg #[.int .i64 c, .bool b]] w fun e w' => e = .returned (.bool (c == 0 && !b)) ∧ Sat G w' l := by
  refine calls_any fun K hK => ?_
  have BB : ∀ o, Below w.heap.size w (w.alloc o) := fun o => (Below.refl _ _).alloc (Nat.le_refl _) o
  by_cases hc : c = 0
  · subst hc
    cases b
    · go_enter Tryd.func30, Tryd.ntmps30
      go_wp2_with fail
      exact hK.out _ _ ⟨rfl, H.below (BB _)⟩
    · go_enter Tryd.func30, Tryd.ntmps30
      go_wp2_with fail
      exact hK.out _ _ ⟨rfl, H.below (BB _)⟩
  · have hb : (c == 0) = false := by simpa using hc
    rw [hb] at hK
    clear hc
    go_enter Tryd.func30, Tryd.ntmps30
    go_wp2_with fail
    exact hK.out _ _ ⟨rfl, H.below (BB _)⟩
set_option maxHeartbeats 1000000 in
theorem sta_get (H : Sat G w l) (s e : Int) (ht : TabW w) : Calls Tryd.prog 41 #[.int .i64 s, .int .i64 e] w fun x w' => x = .returned (.tuple #[.int .i64 (sGet s e).1, .agg #[.int .i64 (sGet s e).2.1, .bool (sGet s e).2.2]]) ∧ Sat G w' l := by
  refine calls_any fun K hK => ?_
  have h1 := fun W => st_right s W
  have h2 := fun W => ev_gets e W
  have HST := Lib.hid fun (cs : Array Value) => H.newBlk cs 41
  cases hr : sRight s with
  | false =>
    rw [hr] at h1
    rw [show sGet s e = (4, 102, true) by unfold sGet; rw [hr]; rfl] at hK
    clear ht h2
    go_enter Tryd.func41, Tryd.ntmps41
    go_wp2_with fail
    (with_reducible refine (h1 _).mono ?_)
    rintro e w1 ⟨rfl, rfl⟩
    go_wp2_with fail
    refine bodyPost_ret (results_t_cell rfl _ _ _ _ _ _ rfl (HST.out #[.int .i64 102, .bool true]).blk_at Tryd.underlying41 rfl (by kernel_rfl)) rfl ?_
    exact hK.out _ _ ⟨rfl, (HST.out #[.int .i64 102, .bool true]).drop⟩
  | true =>
    rw [hr] at h1
    cases hs : eGets e with
    | false =>
      rw [hs] at h2
      rw [show sGet s e = (4, 102, true) by unfold sGet; rw [hr, hs]; rfl] at hK
      clear ht
      go_enter Tryd.func41, Tryd.ntmps41
      go_wp2_with fail
      (with_reducible refine (h1 _).mono ?_)
      rintro e w1 ⟨rfl, rfl⟩
      go_wp2_with fail
      (with_reducible refine (h2 _).mono ?_)
      rintro e w1 ⟨rfl, rfl⟩
      go_wp2_with fail
      refine bodyPost_ret (results_t_cell rfl _ _ _ _ _ _ rfl (HST.out #[.int .i64 102, .bool true]).blk_at Tryd.underlying41 rfl (by kernel_rfl)) rfl ?_
      exact hK.out _ _ ⟨rfl, (HST.out #[.int .i64 102, .bool true]).drop⟩
    | true =>
      rw [hs] at h2
      obtain ⟨s0, s1⟩ := of_decide_eq_true hr
      obtain ⟨e0, e1⟩ := of_decide_eq_true hs
      obtain ⟨s, rfl⟩ : ∃ j : Nat, s = j := ⟨s.toNat, by omega⟩
      obtain ⟨e, rfl⟩ : ∃ j : Nat, e = j := ⟨e.toNat, by omega⟩
      have hc := tab_cell ht s e (by omega) (by omega)
      have hx : sGet s e = if tabAt s e = -2 then ((s : Int), 101, true) else if tabAt s e = -3 then (4, 105, false) else (tabAt s e, 0, false) := by unfold sGet; rw [hr, hs]; rfl
      rw [hx] at hK
      have hc2 : (w.alloc (.cells #[.int .i64 0, .bool false] 41)).cell? ⟨0, s * 9 + e, none⟩ = some (.int .i64 (tabAt s e)) := by rw [World.cell?_alloc_some _ _ _ (by rw [hc]; rfl)]; exact hc
      clear ht hr hs hx hc
      generalize tabAt s e = t at *
      by_cases hn : t = -2
      · subst hn
        rw [if_pos rfl] at hK
        go_enter Tryd.func41, Tryd.ntmps41
        go_wp2_with fail
        (with_reducible refine (h1 _).mono ?_)
        rintro e w1 ⟨rfl, rfl⟩
        go_wp2_with fail
        (with_reducible refine (h2 _).mono ?_)
        rintro e w1 ⟨rfl, rfl⟩
        go_wp2_with fail
        refine bodyPost_ret (results_t_cell rfl _ _ _ _ _ _ rfl (HST.out #[.int .i64 101, .bool true]).blk_at Tryd.underlying41 rfl (by kernel_rfl)) rfl ?_
        exact hK.out _ _ ⟨rfl, (HST.out #[.int .i64 101, .bool true]).drop⟩
      · rw [if_neg hn] at hK
        have hnb : (t == -2) = false := beq_eq_false_iff_ne.2 hn
        clear hn
        by_cases hm : t = -3
        · subst hm
          rw [if_pos rfl] at hK
          go_enter Tryd.func41, Tryd.ntmps41
          go_wp2_with fail
          (with_reducible refine (h1 _).mono ?_)
          rintro e w1 ⟨rfl, rfl⟩
          go_wp2_with fail
          (with_reducible refine (h2 _).mono ?_)
          rintro e w1 ⟨rfl, rfl⟩
          go_wp2_with fail
          refine bodyPost_ret (results_t_cell rfl _ _ _ _ _ _ rfl (HST.out #[.int .i64 105, .bool false]).blk_at Tryd.underlying41 rfl (by kernel_rfl)) rfl ?_
          exact hK.out _ _ ⟨rfl, (HST.out #[.int .i64 105, .bool false]).drop⟩
        · rw [if_neg hm] at hK
          have hmb : (t == -3) = false := beq_eq_false_iff_ne.2 hm
          clear hm
          go_enter Tryd.func41, Tryd.ntmps41
          go_wp2_with fail
          (with_reducible refine (h1 _).mono ?_)
          rintro e w1 ⟨rfl, rfl⟩
          go_wp2_with fail
          (with_reducible refine (h2 _).mono ?_)
          rintro e w1 ⟨rfl, rfl⟩
          go_wp2_with fail
          refine bodyPost_ret (results_t_cell rfl _ _ _ _ _ _ rfl (HST.out #[.int .i64 0, .bool false]).blk_at Tryd.underlying41 rfl (by kernel_rfl)) rfl ?_
          exact hK.out _ _ ⟨rfl, (HST.out #[.int .i64 0, .bool false]).drop⟩
theorem st_done (s : Int) (w : World) : Calls Tryd.prog 27 #[.int .i64 s] w fun x w' => x = .returned (.bool (s == 4)) ∧ w = w' := by
  refine calls_any fun K hK => ?_
  cases h : (s == 4) with
  | true =>
    rw [h] at hK
    go_enter Tryd.func27, Tryd.ntmps27
    go_wp2_with fail
    exact hK.out _ _ ⟨rfl, rfl⟩
  | false =>
    rw [h] at hK
    go_enter Tryd.func27, Tryd.ntmps27
    go_wp2_with fail
    exact hK.out _ _ ⟨rfl, rfl⟩
/-! ### the run -/
def ints (L : List Int) : List Value := L.map (Value.int .i64)
def runC (n : Int) (C : List Int) : Array Value := (Value.int .i64 n :: ints C).toArray
theorem runC_get (n : Int) (C : List Int) (k : Nat) (h : k < C.length) : (runC n C)[1 + k]? = some (.int .i64 (C.getD k 0)) := by
  simp [runC, ints, Nat.add_comm 1 k, h]
theorem runC_set (n : Int) (C : List Int) (k : Nat) (x : Int) : (runC n C).setIfInBounds (1 + k) (.int .i64 x) = runC n (C.set k x) := by
  simp [runC, ints, Nat.add_comm 1 k, List.map_set]
theorem runC_at (n m : Int) (C : List Int) : (runC n C).setIfInBounds 0 (.int .i64 m) = runC m C := by simp [runC]
/-- A stream's run: where it is, how many of each event it had. -/
def runA (r : Nat) (n : Int) (C : List Int) : Asrt := blk r (runC n C) 70
variable {r : Nat} {n : Int} {C : List Int}
theorem rn_at (H : Sat G w (runA r n C :: l)) : Calls Tryd.prog 26 #[.pointer (some ⟨r, 0, none⟩)] w fun x w' => x = .returned (.int .i64 n) ∧ w = w' := by
  refine calls_any fun K hK => ?_
  have c0 : w.cell? ⟨r, 0, none⟩ = some (.int .i64 n) := (Sat.cell H 0).trans (by simp [runC])
  clear H
  go_enter Tryd.func26, Tryd.ntmps26
  go_wp2_with fail
  exact hK.out _ _ ⟨rfl, rfl⟩
def cntAt (C : List Int) (e : Int) : Int := if 0 ≤ e ∧ e < 9 then C.getD e.toNat 0 else 0
end
end Go.Proofs.YtecnddhfjjnbkaaDoor
