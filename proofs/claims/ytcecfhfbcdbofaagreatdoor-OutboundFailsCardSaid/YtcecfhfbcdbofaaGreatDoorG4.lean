/- States and events: what each call tells; the table lies in the ground. Get, May, and a stream's run: the walks. An event: the walk. reg: what a registry holds; whose a stream is; New, Last, Live. reg: New and Open, walked. reg: where a stream is (slices.BinarySearchFunc). slices.Delete at reg.one. reg: an event of a stream, walked. reg: a stream as an entry; the document's stream as one: the walks. reg: Get, Copy: the walks. -/
import Derived.Test.YtcecfhfbcdbofaaGreatDoorG3
import Derived.Deep.Cut
import Derived.StillTailTactics
import Derived.Deep.RegionHeld
import Derived.Deep.QuietTactic
import Derived.BigQuiet
import Derived.IntWalk
import Derived.Room.AppendZeros
import Derived.Laws.Cover3
set_option linter.unusedSimpArgs false
set_option linter.unusedVariables false
namespace Go.Proofs.YtcecfhfbcdbofaaGreatDoor
open Go.RowKit

def tabL : List Int := [1, -1, -1, -1, -2, -2, -2, -2, -2, 1, 1, 3, 4, 1, 1, 2, 4, 1, 2, 2, 4, 4, -3, -3, -3, 4, 2, -1, -1, -1, 4, 3, 3, 4, 4, 3, -1, -1, -1, -1, -3, -3, -3, 4, 4]
def tabAt (s e : Int) : Int := tabL.getD (s * 9 + e).toNat 0
def sRight (s : Int) : Bool := decide (0 ≤ s ∧ s < 5)
def eSends (e : Int) : Bool := decide (0 ≤ e ∧ e ≤ 3)
def eGets (e : Int) : Bool := decide (3 < e ∧ e < 9)
def sSend (s e : Int) : Int × Int := if sRight s && eSends e then (if tabAt s e = -1 then (0, 25) else (tabAt s e, 0)) else (0, 11)
def sGet (s e : Int) : Int × Int × Bool := if sRight s && eGets e then (if tabAt s e = -2 then (s, 101, true) else if tabAt s e = -3 then (4, 105, false) else (tabAt s e, 0, false)) else (4, 102, true)
def sMay (s e : Int) : Bool := sRight s && decide (0 ≤ e ∧ e < 9) && decide (0 ≤ tabAt s e)
/-- The table lies in memory as the program's text lays it. -/
def TabW (w : World) : Prop := ∀ k, k < 45 → w.cell? ⟨0, k, none⟩ = some (.int .i64 (tabL.getD k 0))
theorem st_right (s : Int) (w : World) : Calls Tryz.prog 120 #[.int .i64 s] w fun e w' => e = .returned (.bool (sRight s)) ∧ w = w' := by
  refine calls_any fun K hK => ?_
  by_cases a1 : s ≥ 0
  · by_cases a2 : s < 5
    · rw [show sRight s = true from decide_eq_true ⟨a1, a2⟩] at hK
      replace a1 := decide_eq_true a1
      replace a2 := decide_eq_true a2
      go_enter Tryz.func120, Tryz.ntmps120
      go_wp2_with fail
      exact hK.out _ _ ⟨rfl, rfl⟩
    · rw [show sRight s = false from decide_eq_false fun h => a2 h.2] at hK
      replace a1 := decide_eq_true a1
      replace a2 := decide_eq_false a2
      go_enter Tryz.func120, Tryz.ntmps120
      go_wp2_with fail
      exact hK.out _ _ ⟨rfl, rfl⟩
  · rw [show sRight s = false from decide_eq_false fun h => a1 h.1] at hK
    replace a1 := decide_eq_false a1
    go_enter Tryz.func120, Tryz.ntmps120
    go_wp2_with fail
    exact hK.out _ _ ⟨rfl, rfl⟩
theorem ev_sends (s : Int) (w : World) : Calls Tryz.prog 102 #[.int .i64 s] w fun e w' => e = .returned (.bool (eSends s)) ∧ w = w' := by
  refine calls_any fun K hK => ?_
  by_cases a1 : s ≥ 0
  · by_cases a2 : s ≤ 3
    · rw [show eSends s = true from decide_eq_true ⟨a1, a2⟩] at hK
      replace a1 := decide_eq_true a1
      replace a2 := decide_eq_true a2
      go_enter Tryz.func102, Tryz.ntmps102
      go_wp2_with fail
      exact hK.out _ _ ⟨rfl, rfl⟩
    · rw [show eSends s = false from decide_eq_false fun h => a2 h.2] at hK
      replace a1 := decide_eq_true a1
      replace a2 := decide_eq_false a2
      go_enter Tryz.func102, Tryz.ntmps102
      go_wp2_with fail
      exact hK.out _ _ ⟨rfl, rfl⟩
  · rw [show eSends s = false from decide_eq_false fun h => a1 h.1] at hK
    replace a1 := decide_eq_false a1
    go_enter Tryz.func102, Tryz.ntmps102
    go_wp2_with fail
    exact hK.out _ _ ⟨rfl, rfl⟩
theorem ev_gets (s : Int) (w : World) : Calls Tryz.prog 103 #[.int .i64 s] w fun e w' => e = .returned (.bool (eGets s)) ∧ w = w' := by
  refine calls_any fun K hK => ?_
  by_cases a1 : s > 3
  · by_cases a2 : s < 9
    · rw [show eGets s = true from decide_eq_true ⟨a1, a2⟩] at hK
      replace a1 := decide_eq_true a1
      replace a2 := decide_eq_true a2
      go_enter Tryz.func103, Tryz.ntmps103
      go_wp2_with fail
      exact hK.out _ _ ⟨rfl, rfl⟩
    · rw [show eGets s = false from decide_eq_false fun h => a2 h.2] at hK
      replace a1 := decide_eq_true a1
      replace a2 := decide_eq_false a2
      go_enter Tryz.func103, Tryz.ntmps103
      go_wp2_with fail
      exact hK.out _ _ ⟨rfl, rfl⟩
  · rw [show eGets s = false from decide_eq_false fun h => a1 h.1] at hK
    replace a1 := decide_eq_false a1
    go_enter Tryz.func103, Tryz.ntmps103
    go_wp2_with fail
    exact hK.out _ _ ⟨rfl, rfl⟩
theorem tab_cell {w : World} (ht : TabW w) (s e : Nat) (hs : s < 5) (he : e < 9) : w.cell? ⟨0, s * 9 + e, none⟩ = some (.int .i64 (tabAt s e)) := by
  rw [ht (s * 9 + e) (by omega)]
  unfold tabAt
  rw [show ((s : Int) * 9 + (e : Int)).toNat = s * 9 + e by omega]
theorem st_send (s e : Int) (w : World) (ht : TabW w) : Calls Tryz.prog 104 #[.int .i64 s, .int .i64 e] w fun x w' => x = .returned (.tuple #[.int .i64 (sSend s e).1, .int .i64 (sSend s e).2]) ∧ w = w' := by
  refine calls_any fun K hK => ?_
  have h1 := st_right s w
  have h2 := ev_sends e w
  cases hr : sRight s with
  | false =>
    rw [hr] at h1
    rw [show sSend s e = (0, 11) by unfold sSend; rw [hr]; rfl] at hK
    clear ht h2
    go_enter Tryz.func104, Tryz.ntmps104
    go_wp2_with fail
    (with_reducible refine h1.mono ?_)
    rintro e w1 ⟨rfl, rfl⟩
    go_wp2_with fail
    exact hK.out _ _ ⟨rfl, rfl⟩
  | true =>
    rw [hr] at h1
    cases hs : eSends e with
    | false =>
      rw [hs] at h2
      rw [show sSend s e = (0, 11) by unfold sSend; rw [hr, hs]; rfl] at hK
      clear ht
      go_enter Tryz.func104, Tryz.ntmps104
      go_wp2_with fail
      (with_reducible refine h1.mono ?_)
      rintro e w1 ⟨rfl, rfl⟩
      go_wp2_with fail
      (with_reducible refine h2.mono ?_)
      rintro e w1 ⟨rfl, rfl⟩
      go_wp2_with fail
      exact hK.out _ _ ⟨rfl, rfl⟩
    | true =>
      rw [hs] at h2
      obtain ⟨s0, s1⟩ := of_decide_eq_true hr
      obtain ⟨e0, e1⟩ := of_decide_eq_true hs
      obtain ⟨s, rfl⟩ : ∃ j : Nat, s = j := ⟨s.toNat, by omega⟩
      obtain ⟨e, rfl⟩ : ∃ j : Nat, e = j := ⟨e.toNat, by omega⟩
      have hc := tab_cell ht s e (by omega) (by omega)
      have hx : sSend s e = if tabAt s e = -1 then (0, 25) else (tabAt s e, 0) := by unfold sSend; rw [hr, hs]; rfl
      rw [hx] at hK
      clear ht hr hs hx
      generalize tabAt s e = t at *
      by_cases hn : t = -1
      · subst hn
        rw [if_pos rfl] at hK
        go_enter Tryz.func104, Tryz.ntmps104
        go_wp2_with fail
        (with_reducible refine h1.mono ?_)
        rintro e w1 ⟨rfl, rfl⟩
        go_wp2_with fail
        (with_reducible refine h2.mono ?_)
        rintro e w1 ⟨rfl, rfl⟩
        go_wp2_with fail
        exact hK.out _ _ ⟨rfl, rfl⟩
      · rw [if_neg hn] at hK
        have hnb : (t == -1) = false := beq_eq_false_iff_ne.2 hn
        clear hn
        go_enter Tryz.func104, Tryz.ntmps104
        go_wp2_with fail
        (with_reducible refine h1.mono ?_)
        rintro e w1 ⟨rfl, rfl⟩
        go_wp2_with fail
        (with_reducible refine h2.mono ?_)
        rintro e w1 ⟨rfl, rfl⟩
        go_wp2_with fail
        exact hK.out _ _ ⟨rfl, rfl⟩
end Go.Proofs.YtcecfhfbcdbofaaGreatDoor
set_option linter.unusedSimpArgs false
set_option linter.unusedVariables false
namespace Go.Proofs.YtcecfhfbcdbofaaGreatDoor
open Go.RowKit

theorem results_t_cell {P : Program} {fn : Func} {p1 p2 : Tmp} {y1 : TypeId} (h : fn.results = #[.tmp p2, .cell p1 y1]) (tmps : Array Value) (w : World) (g1 : Nat) (t1 : TypeId) (c1 : Array Value) (d1 : TypeDesc)
    (hp1 : tmps.getD p1 undef = .pointer (some ⟨g1, 0, none⟩)) (hg1 : w.heap[g1]? = some (.cells c1 t1 (0, 0))) (hu1 : P.underlying y1 = some d1) (hd1 : (match d1 with | .struct _ | .array _ _ => true | _ => false) = true) (hi1 : (P.info? y1).map (·.size) = some c1.size) :
    (results fn tmps).run P w = .ok (.tuple #[tmps.getD p2 undef, .agg c1]) w := by
  have h1 : tmps[p1]?.getD undef = .pointer (some ⟨g1, 0, none⟩) := by simpa using hp1
  simp [results, h, h1, asAddr, run_loadVar_row w g1 t1 y1 c1 (0, 0) d1 hg1 hu1 hd1 hi1]
section
variable {G : Gnd} {w : World} {l : List Asrt}
theorem fa_ok (H : Sat G w l) (c : Int) (b : Bool) : Calls Tryz.prog 106 #[.agg #[.int .i64 c, .bool b]] w fun e w' => e = .returned (.bool (c == 0 && !b)) ∧ Sat G w' l := by
  refine calls_any fun K hK => ?_
  have BB : ∀ o, Below w.heap.size w (w.alloc o) := fun o => (Below.refl _ _).alloc (Nat.le_refl _) o
  by_cases hc : c = 0
  · subst hc
    cases b
    · go_enter Tryz.func106, Tryz.ntmps106
      go_wp2_with fail
      exact hK.out _ _ ⟨rfl, H.below (BB _)⟩
    · go_enter Tryz.func106, Tryz.ntmps106
      go_wp2_with fail
      exact hK.out _ _ ⟨rfl, H.below (BB _)⟩
  · have hb : (c == 0) = false := by simpa using hc
    rw [hb] at hK
    clear hc
    go_enter Tryz.func106, Tryz.ntmps106
    go_wp2_with fail
    exact hK.out _ _ ⟨rfl, H.below (BB _)⟩
set_option maxHeartbeats 1000000 in
theorem sta_get (H : Sat G w l) (s e : Int) (ht : TabW w) : Calls Tryz.prog 105 #[.int .i64 s, .int .i64 e] w fun x w' => x = .returned (.tuple #[.int .i64 (sGet s e).1, .agg #[.int .i64 (sGet s e).2.1, .bool (sGet s e).2.2]]) ∧ Sat G w' l := by
  refine calls_any fun K hK => ?_
  have h1 := fun W => st_right s W
  have h2 := fun W => ev_gets e W
  have HST := Lib.hid fun (cs : Array Value) => H.newBlk cs 95
  cases hr : sRight s with
  | false =>
    rw [hr] at h1
    rw [show sGet s e = (4, 102, true) by unfold sGet; rw [hr]; rfl] at hK
    clear ht h2
    go_enter Tryz.func105, Tryz.ntmps105
    go_wp2_with fail
    (with_reducible refine (h1 _).mono ?_)
    rintro e w1 ⟨rfl, rfl⟩
    go_wp2_with fail
    refine bodyPost_ret (results_t_cell rfl _ _ _ _ _ _ rfl (HST.out #[.int .i64 102, .bool true]).blk_at Tryz.underlying95 rfl (by kernel_rfl)) rfl ?_
    exact hK.out _ _ ⟨rfl, (HST.out #[.int .i64 102, .bool true]).drop⟩
  | true =>
    rw [hr] at h1
    cases hs : eGets e with
    | false =>
      rw [hs] at h2
      rw [show sGet s e = (4, 102, true) by unfold sGet; rw [hr, hs]; rfl] at hK
      clear ht
      go_enter Tryz.func105, Tryz.ntmps105
      go_wp2_with fail
      (with_reducible refine (h1 _).mono ?_)
      rintro e w1 ⟨rfl, rfl⟩
      go_wp2_with fail
      (with_reducible refine (h2 _).mono ?_)
      rintro e w1 ⟨rfl, rfl⟩
      go_wp2_with fail
      refine bodyPost_ret (results_t_cell rfl _ _ _ _ _ _ rfl (HST.out #[.int .i64 102, .bool true]).blk_at Tryz.underlying95 rfl (by kernel_rfl)) rfl ?_
      exact hK.out _ _ ⟨rfl, (HST.out #[.int .i64 102, .bool true]).drop⟩
    | true =>
      rw [hs] at h2
      obtain ⟨s0, s1⟩ := of_decide_eq_true hr
      obtain ⟨e0, e1⟩ := of_decide_eq_true hs
      obtain ⟨s, rfl⟩ : ∃ j : Nat, s = j := ⟨s.toNat, by omega⟩
      obtain ⟨e, rfl⟩ : ∃ j : Nat, e = j := ⟨e.toNat, by omega⟩
      have hc := tab_cell ht s e (by omega) (by omega)
      have hx : sGet s e = if tabAt s e = -2 then ((s : Int), 101, true) else if tabAt s e = -3 then (4, 105, false) else (tabAt s e, 0, false) := by unfold sGet; rw [hr, hs]; rfl
      rw [hx] at hK
      have hc2 : (w.alloc (.cells #[.int .i64 0, .bool false] 95)).cell? ⟨0, s * 9 + e, none⟩ = some (.int .i64 (tabAt s e)) := by rw [World.cell?_alloc_some _ _ _ (by rw [hc]; rfl)]; exact hc
      clear ht hr hs hx hc
      generalize tabAt s e = t at *
      by_cases hn : t = -2
      · subst hn
        rw [if_pos rfl] at hK
        go_enter Tryz.func105, Tryz.ntmps105
        go_wp2_with fail
        (with_reducible refine (h1 _).mono ?_)
        rintro e w1 ⟨rfl, rfl⟩
        go_wp2_with fail
        (with_reducible refine (h2 _).mono ?_)
        rintro e w1 ⟨rfl, rfl⟩
        go_wp2_with fail
        refine bodyPost_ret (results_t_cell rfl _ _ _ _ _ _ rfl (HST.out #[.int .i64 101, .bool true]).blk_at Tryz.underlying95 rfl (by kernel_rfl)) rfl ?_
        exact hK.out _ _ ⟨rfl, (HST.out #[.int .i64 101, .bool true]).drop⟩
      · rw [if_neg hn] at hK
        have hnb : (t == -2) = false := beq_eq_false_iff_ne.2 hn
        clear hn
        by_cases hm : t = -3
        · subst hm
          rw [if_pos rfl] at hK
          go_enter Tryz.func105, Tryz.ntmps105
          go_wp2_with fail
          (with_reducible refine (h1 _).mono ?_)
          rintro e w1 ⟨rfl, rfl⟩
          go_wp2_with fail
          (with_reducible refine (h2 _).mono ?_)
          rintro e w1 ⟨rfl, rfl⟩
          go_wp2_with fail
          refine bodyPost_ret (results_t_cell rfl _ _ _ _ _ _ rfl (HST.out #[.int .i64 105, .bool false]).blk_at Tryz.underlying95 rfl (by kernel_rfl)) rfl ?_
          exact hK.out _ _ ⟨rfl, (HST.out #[.int .i64 105, .bool false]).drop⟩
        · rw [if_neg hm] at hK
          have hmb : (t == -3) = false := beq_eq_false_iff_ne.2 hm
          clear hm
          go_enter Tryz.func105, Tryz.ntmps105
          go_wp2_with fail
          (with_reducible refine (h1 _).mono ?_)
          rintro e w1 ⟨rfl, rfl⟩
          go_wp2_with fail
          (with_reducible refine (h2 _).mono ?_)
          rintro e w1 ⟨rfl, rfl⟩
          go_wp2_with fail
          refine bodyPost_ret (results_t_cell rfl _ _ _ _ _ _ rfl (HST.out #[.int .i64 0, .bool false]).blk_at Tryz.underlying95 rfl (by kernel_rfl)) rfl ?_
          exact hK.out _ _ ⟨rfl, (HST.out #[.int .i64 0, .bool false]).drop⟩
theorem st_done (s : Int) (w : World) : Calls Tryz.prog 83 #[.int .i64 s] w fun x w' => x = .returned (.bool (s == 4)) ∧ w = w' := by
  refine calls_any fun K hK => ?_
  cases h : (s == 4) with
  | true =>
    rw [h] at hK
    go_enter Tryz.func83, Tryz.ntmps83
    go_wp2_with fail
    exact hK.out _ _ ⟨rfl, rfl⟩
  | false =>
    rw [h] at hK
    go_enter Tryz.func83, Tryz.ntmps83
    go_wp2_with fail
    exact hK.out _ _ ⟨rfl, rfl⟩
/-! ### the run -/
def ints_r (L : List Int) : List Value := L.map (Value.int .i64)
def runC (n : Int) (C : List Int) : Array Value := (Value.int .i64 n :: ints_r C).toArray
theorem runC_get (n : Int) (C : List Int) (k : Nat) (h : k < C.length) : (runC n C)[1 + k]? = some (.int .i64 (C.getD k 0)) := by
  simp [runC, ints_r, Nat.add_comm 1 k, h]
theorem runC_set (n : Int) (C : List Int) (k : Nat) (x : Int) : (runC n C).setIfInBounds (1 + k) (.int .i64 x) = runC n (C.set k x) := by
  simp [runC, ints_r, Nat.add_comm 1 k, List.map_set]
theorem runC_at (n m : Int) (C : List Int) : (runC n C).setIfInBounds 0 (.int .i64 m) = runC m C := by simp [runC]
/-- A stream's run: where it is, how many of each event it had. -/
def runA (r : Nat) (n : Int) (C : List Int) : Asrt := blk r (runC n C) 158
variable {r : Nat} {n : Int} {C : List Int}
theorem rn_at (H : Sat G w (runA r n C :: l)) : Calls Tryz.prog 82 #[.pointer (some ⟨r, 0, none⟩)] w fun x w' => x = .returned (.int .i64 n) ∧ w = w' := by
  refine calls_any fun K hK => ?_
  have c0 : w.cell? ⟨r, 0, none⟩ = some (.int .i64 n) := (Sat.cell H 0).trans (by simp [runC])
  clear H
  go_enter Tryz.func82, Tryz.ntmps82
  go_wp2_with fail
  exact hK.out _ _ ⟨rfl, rfl⟩
def cntAt (C : List Int) (e : Int) : Int := if 0 ≤ e ∧ e < 9 then C.getD e.toNat 0 else 0
end
end Go.Proofs.YtcecfhfbcdbofaaGreatDoor
set_option linter.unusedSimpArgs false
set_option linter.unusedVariables false
namespace Go.Proofs.YtcecfhfbcdbofaaGreatDoor
open Go.RowKit

/-- The table lies in the ground. -/
def TabG (G : Gnd) : Prop := ∀ k, k < 45 → cellR G.ro ⟨0, k, none⟩ = some (.int .i64 (tabL.getD k 0))
theorem TabG.mono {G G' : Gnd} (h : TabG G) (hG : G.le G') : TabG G' := fun k hk => cellR_mono hG.ro (h k hk)
theorem TabG.of {w : World} (h : TabW w) : TabG (Gnd.of w) := fun k hk => h k hk
theorem Sat.tab {G : Gnd} {w : World} {l : List Asrt} (H : Sat G w l) (h : TabG G) : TabW w := fun k hk => H.cellR (h k hk)
/-- A run that lies within a block, behind `pre`. -/
def runD (pre : List Value) (n : Int) (C : List Int) (post : List Value) : Array Value := (pre ++ (Value.int .i64 n :: (ints_r C ++ post))).toArray
theorem runD_at0 (pre : List Value) (n : Int) (C : List Int) (post : List Value) {off : Nat} (ho : pre.length = off) : (runD pre n C post)[off]? = some (.int .i64 n) := by
  subst ho
  simp [runD]
theorem runD_get (pre : List Value) (n : Int) (C : List Int) (post : List Value) {off : Nat} (ho : pre.length = off) (k : Nat) (h : k < C.length) : (runD pre n C post)[off + 1 + k]? = some (.int .i64 (C.getD k 0)) := by
  subst ho
  rw [Nat.add_assoc]
  have e : (pre ++ (Value.int .i64 n :: (ints_r C ++ post)))[pre.length + (1 + k)]? = (Value.int .i64 n :: (ints_r C ++ post))[1 + k]? := by
    rw [List.getElem?_append_right (by omega)]; congr 1; omega
  simp only [runD, List.getElem?_toArray, e]
  rw [Nat.add_comm 1 k, List.getElem?_cons_succ, List.getElem?_append_left (by simpa [ints_r] using h)]
  simp [ints_r, h]
theorem runD_set (pre : List Value) (n : Int) (C : List Int) (post : List Value) {off : Nat} (ho : pre.length = off) (k : Nat) (h : k < C.length) (x : Int) : (runD pre n C post).setIfInBounds (off + 1 + k) (.int .i64 x) = runD pre n (C.set k x) post := by
  subst ho
  rw [Nat.add_assoc]
  have hi : k < (ints_r C).length := by simpa [ints_r] using h
  simp only [runD, List.setIfInBounds_toArray]
  rw [List.set_append_right _ _ (by omega), show pre.length + (1 + k) - pre.length = k + 1 by omega, List.set_cons_succ, List.set_append_left _ _ hi]
  simp [ints_r, List.map_set]
theorem runD_at (pre : List Value) (n m : Int) (C : List Int) (post : List Value) {off : Nat} (ho : pre.length = off) : (runD pre n C post).setIfInBounds off (.int .i64 m) = runD pre m C post := by
  subst ho
  simp [runD]
def runO (r : Nat) (t : TypeId) (pre : List Value) (n : Int) (C : List Int) (post : List Value) : Asrt := blk r (runD pre n C post) t
structure PRes where
  n : Int
  err : Int
  code : Int
  conn : Bool
  cnt : Bool
def pDo (n e : Int) : PRes :=
  if eSends e then (if (sSend n e).2 = 0 then ⟨(sSend n e).1, 0, 0, false, true⟩ else ⟨n, (sSend n e).2, 0, false, false⟩)
  else if eGets e then ⟨(sGet n e).1, 0, (sGet n e).2.1, (sGet n e).2.2, (sGet n e).2.1 == 0 && !(sGet n e).2.2⟩
  else ⟨n, 11, 0, false, false⟩
def bump (C : List Int) (e : Int) (b : Bool) : List Int := if b then C.set e.toNat (C.getD e.toNat 0 + 1) else C
section
variable {G : Gnd} {w : World} {l : List Asrt} {r off : Nat} {n : Int} {C : List Int} {pre post : List Value} {t : TypeId}
set_option maxHeartbeats 4000000 in
set_option maxRecDepth 100000 in
theorem rn_do (H : Sat G w (runO r t pre n C post :: l)) (hoff : pre.length = off) (ht : TabG G) (hC : C.length = 9) (hb : ∀ x ∈ C, 0 ≤ x ∧ x ≤ 1000) (e : Int) :
    Calls Tryz.prog 81 #[.pointer (some ⟨r, off, none⟩), .int .i64 e] w fun x w' => x = .returned (.tuple #[.int .i64 (pDo n e).err, .agg #[.int .i64 (pDo n e).code, .bool (pDo n e).conn]]) ∧ Sat G w' (runO r t pre (pDo n e).n (bump C e (pDo n e).cnt) post :: l) := by
  refine calls_any fun K hK => ?_
  have h1 := fun W => ev_sends e W
  have h2 := fun W => ev_gets e W
  have S1 := H.newBlk #[.int .i64 0, .bool false] 95
  have HO := Lib.hid hoff
  cases hs : eSends e with
  | true =>
    rw [hs] at h1
    obtain ⟨e0, e1⟩ := of_decide_eq_true hs
    obtain ⟨e, rfl⟩ : ∃ j : Nat, e = j := ⟨e.toNat, by omega⟩
    have hsd := st_send n e _ (S1.tab ht)
    have hp : pDo n e = if (sSend n e).2 = 0 then ⟨(sSend n e).1, 0, 0, false, true⟩ else ⟨n, (sSend n e).2, 0, false, false⟩ := by unfold pDo; rw [hs]; rfl
    rw [hp] at hK
    clear h2 hs hp
    generalize sSend n e = q at *
    obtain ⟨to, er⟩ := q
    simp only at hK hsd
    have c0 : (w.alloc (.cells #[.int .i64 0, .bool false] 95)).cell? ⟨r, off, none⟩ = some (.int .i64 n) := (Sat.cell S1.swap off).trans (runD_at0 _ _ _ _ hoff)
    by_cases her : er = 0
    · subst her
      rw [if_pos rfl] at hK
      have hce := hb _ (List.getElem_mem (show e < C.length by omega))
      have S2 := Sat.setCell S1.swap off (.int .i64 to)
      rw [runD_at _ _ _ _ _ hoff] at S2
      have f0 := Sat.frozen S1.swap off
      clear H
      go_enter Tryz.func81, Tryz.ntmps81
      go_wp2_with fail
      (with_reducible refine (h1 _).mono ?_)
      rintro x w1 ⟨rfl, rfl⟩
      go_wp2_with fail
      (with_reducible refine (h1 _).mono ?_)
      rintro x w1 ⟨rfl, rfl⟩
      clear h1
      go_wp2_with fail
      (with_reducible refine hsd.mono ?_)
      rintro x w1 ⟨rfl, rfl⟩
      clear hsd
      go_upto_region 8 with fail
      generalize w.heap.size = a at *
      refine wp_world S2 fun W S3 => ?_
      clear S1 S2 c0 f0
      have S4 := S3.drew
      have c0 := (Sat.cell S3 (off + 1 + e)).trans (runD_get pre to C post HO.out e (by omega))
      have c1 := (Sat.cell S4 (off + 1 + e)).trans (runD_get pre to C post HO.out e (by omega))
      have f1 := Sat.frozen S4 (off + 1 + e)
      have HS := Lib.hid (Sat.setCell S4 (off + 1 + e) (.int .i64 (C.getD e 0 + 1)))
      have hx : 0 ≤ C.getD e 0 ∧ C.getD e 0 ≤ 1000 := by rw [List.getD_eq_getElem?_getD, List.getElem?_eq_getElem (by omega)]; exact hce
      have hbm : bump C e true = C.set e (C.getD e 0 + 1) := rfl
      rw [hbm] at hK
      obtain ⟨hx0, hx1⟩ := hx
      clear hce hb S3 S4 hbm
      rw [runD_set _ _ _ _ HO.out _ (by omega)] at HS
      generalize C.getD e 0 = x at *
      have hlt : e < 9 := by omega
      have hlt2 : (e : Int) < 9 := by omega
      go_still_tail 10, (by kernel_rfl)
      change wpList _ _ _ _ _ W.drew
      have hwr : IntKind.i64.wrap (x + 1) = x + 1 := IntWalk.i64_in _ (by omega)
      go_upto_region 9 with fail
      rw [hwr]
      refine wp_world HS.out fun W2 S5 => ?_
      clear c0 c1 f1 HS hwr
      have S6 := S5.swap
      have d0 := S6.cell 0
      have d1 := S6.cell 1
      have g0 := S6.frozen 0
      have g1 := S6.frozen 1
      have S7 := (S6.setCell 0 (.int .i64 0)).setCell 1 (.bool false)
      change Sat _ _ (blk a #[.int .i64 0, .bool false] _ :: _) at S7
      clear S5 S6
      go_wp2_with fail
      refine bodyPost_ret (results_t_cell rfl _ _ _ _ _ _ rfl (S7).blk_at Tryz.underlying95 rfl (by kernel_rfl)) rfl ?_
      exact hK.out _ _ ⟨rfl, S7.drop⟩
    · rw [if_neg her] at hK
      have herb : (er != 0) = true := by simpa using her
      have HST := Lib.hid fun (cs : Array Value) => H.newBlk cs 95
      clear H her S1 hb
      go_enter Tryz.func81, Tryz.ntmps81
      go_wp2_with fail
      (with_reducible refine (h1 _).mono ?_)
      rintro x w1 ⟨rfl, rfl⟩
      go_wp2_with fail
      (with_reducible refine (h1 _).mono ?_)
      rintro x w1 ⟨rfl, rfl⟩
      clear h1
      go_wp2_with fail
      (with_reducible refine hsd.mono ?_)
      rintro x w1 ⟨rfl, rfl⟩
      clear hsd
      go_wp2_with fail
      refine bodyPost_ret (results_t_cell rfl _ _ _ _ _ _ rfl (HST.out #[.int .i64 0, .bool false]).blk_at Tryz.underlying95 rfl (by kernel_rfl)) rfl ?_
      exact hK.out _ _ ⟨rfl, (HST.out #[.int .i64 0, .bool false]).drop⟩
  | false =>
    rw [hs] at h1
    cases hg : eGets e with
    | false =>
      rw [hg] at h2
      rw [show pDo n e = ⟨n, 11, 0, false, false⟩ by unfold pDo; rw [hs, hg]; rfl] at hK
      have HST := Lib.hid fun (cs : Array Value) => H.newBlk cs 95
      clear H S1 hb
      go_enter Tryz.func81, Tryz.ntmps81
      go_wp2_with fail
      (with_reducible refine (h1 _).mono ?_)
      rintro x w1 ⟨rfl, rfl⟩
      go_wp2_with fail
      (with_reducible refine (h2 _).mono ?_)
      rintro x w1 ⟨rfl, rfl⟩
      go_wp2_with fail
      refine bodyPost_ret (results_t_cell rfl _ _ _ _ _ _ rfl (HST.out #[.int .i64 0, .bool false]).blk_at Tryz.underlying95 rfl (by kernel_rfl)) rfl ?_
      exact hK.out _ _ ⟨rfl, (HST.out #[.int .i64 0, .bool false]).drop⟩
    | true =>
      rw [hg] at h2
      obtain ⟨e0, e1⟩ := of_decide_eq_true hg
      obtain ⟨e, rfl⟩ : ∃ j : Nat, e = j := ⟨e.toNat, by omega⟩
      have hgt := sta_get S1 n e (S1.tab ht)
      have hp : pDo n e = ⟨(sGet n e).1, 0, (sGet n e).2.1, (sGet n e).2.2, (sGet n e).2.1 == 0 && !(sGet n e).2.2⟩ := by unfold pDo; rw [hs, hg]; rfl
      rw [hp] at hK
      clear hs hp hg
      generalize sGet n e = q at *
      obtain ⟨to, cd, cn⟩ := q
      simp only at hK hgt
      have c0 : (w.alloc (.cells #[.int .i64 0, .bool false] 95)).cell? ⟨r, off, none⟩ = some (.int .i64 n) := (Sat.cell S1.swap off).trans (runD_at0 _ _ _ _ hoff)
      have hlt : e < 9 := by omega
      have hlt2 : (e : Int) < 9 := by omega
      have hce := hb _ (List.getElem_mem (show e < C.length by omega))
      have hx : 0 ≤ C.getD e 0 ∧ C.getD e 0 ≤ 1000 := by rw [List.getD_eq_getElem?_getD, List.getElem?_eq_getElem (by omega)]; exact hce
      clear H S1 hb hce
      go_enter Tryz.func81, Tryz.ntmps81
      go_wp2_with fail
      (with_reducible refine (h1 _).mono ?_)
      rintro x w1 ⟨rfl, rfl⟩
      go_wp2_with fail
      (with_reducible refine (h2 _).mono ?_)
      rintro x w1 ⟨rfl, rfl⟩
      go_wp2_with fail
      (with_reducible refine (h1 _).mono ?_)
      rintro x w1 ⟨rfl, rfl⟩
      clear h1 h2
      go_wp2_with fail
      (with_reducible refine hgt.mono ?_)
      rintro x w1 ⟨rfl, S2⟩
      clear hgt c0
      generalize w.heap.size = a at *
      have S3 := S2.newBlk #[.int .i64 cd, .bool cn] 95
      clear S2
      go_upto_region 11 with fail
      generalize w1.heap.size = b at *
      refine wp_world S3 fun w2 S4 => ?_
      clear S3
      have S5 := S4.pull2
      have c0 : w2.cell? ⟨r, off, none⟩ = some (.int .i64 n) := (Sat.cell S5 off).trans (runD_at0 _ _ _ _ HO.out)
      have f0 := Sat.frozen S5 off
      have S6 := Sat.setCell S5 off (.int .i64 to)
      rw [runD_at _ _ _ _ _ HO.out] at S6
      clear S4 S5
      go_upto_region 12 with fail
      refine wp_world S6 fun w3 S7 => ?_
      clear c0 f0 S6
      have b0 := S7.swap.cell 0
      have b1 := S7.swap.cell 1
      have hok := fa_ok S7 cd cn
      clear S7
      go_wp2_with fail
      (with_reducible refine hok.mono ?_)
      rintro x w4 ⟨rfl, S8⟩
      clear hok b0 b1
      have e0' : (cd == 0 && !cn) = (cd == 0 && !cn) := rfl
      cases hq : (cd == 0 && !cn) with
      | true =>
        rw [hq] at hK
        rw [show bump C e true = C.set e (C.getD e 0 + 1) from rfl] at hK
        have S9 := S8.drew
        have c0 := (Sat.cell S8 (off + 1 + e)).trans (runD_get pre to C post HO.out e (by omega))
        have c1 := (Sat.cell S9 (off + 1 + e)).trans (runD_get pre to C post HO.out e (by omega))
        have f1 := Sat.frozen S9 (off + 1 + e)
        have HS := Lib.hid (Sat.setCell S9 (off + 1 + e) (.int .i64 (C.getD e 0 + 1)))
        obtain ⟨hx0, hx1⟩ := hx
        rw [runD_set _ _ _ _ HO.out _ (by omega)] at HS
        generalize hC2 : C.set e (C.getD e 0 + 1) = C2 at *
        clear hC2
        generalize C.getD e 0 = x at *
        have hwr : IntKind.i64.wrap (x + 1) = x + 1 := IntWalk.i64_in _ (by omega)
        clear S8 S9 e0'
        go_upto_region 13 with fail
        go_still_tail 10, (by kernel_rfl)
        change wpList _ _ _ _ _ w4.drew
        go_upto_region 14 with fail
        refine wp_world HS.out fun W2 T => ?_
        have T1 := T.pull2
        change Sat _ _ (_ :: _ :: _) at T1
        clear c0 c1 f1 HS hwr T
        have T1 := T1.re [0, 2, 1]
        refine wp_act fun a0 ha0 => ?_
        have HSZ : a0.tmps.size = 75 := by rw [ha0]; rfl
        have E9 : a0.eval (.tmp 9) = .pointer (some ⟨b, 0, none⟩) := by rw [ha0]; rfl
        have E5 : a0.eval (.tmp 5) = .pointer (some ⟨a, 0, none⟩) := by rw [ha0]; rfl
        refine wp_region_sat (by kernel_rfl) 3 (by kernel_rfl) [[], [], [0, 1, 0, 1]] (by kernel_rfl) (by kernel_rfl) [(0, 74, .agg #[.int .i64 cd, .bool cn]), (1, 4, .int .i64 0)] (fun f => blk a (cond (f 2) #[.int .i64 cd, .bool cn] #[.int .i64 0, .bool false]) 95 :: blk b #[.int .i64 cd, .bool cn] 95 :: runO r t pre to C2 post :: l) (by kernel_rfl) T1 ?_ ?_
        · refine ⟨?_, ?_, ?_, trivial⟩
          · intro f W h0 hd S
            refine wpOp_list rfl ?_
            refine st_load rfl _ _ rfl _ ((acts_eval_tmp 9 (by kernel_rfl)).trans E9) _ _ (S.swap) _ rfl rfl rfl ?_
            exact ⟨(acts_some 0 rfl (by kernel_rfl) (by kernel_rfl)).symm, S⟩
          · intro f W h1 hd S
            refine wpOp_run (v := .int .i64 0) rfl rfl (fun ρ hρ => ?_) ⟨(acts_some 1 rfl (by kernel_rfl) (by kernel_rfl)).symm, S⟩
            have ec : ∀ v, ρ (.const v) = v := by rw [hρ]; exact fun _ => rfl
            clear hρ
            go_simp
          · intro f W h2 hd S
            rw [h2] at S
            refine wpOp_list rfl ?_
            refine st_store rfl _ _ _ rfl _ _ ((acts_eval_tmp 5 (by kernel_rfl)).trans E5) (acts_eval_hit 0 rfl hd.1 (by rw [HSZ]; rfl) (by kernel_rfl)) _ _ (S) rfl rfl (by simp [Value.oneCell']) fun W' S' => ?_
            exact ⟨(acts_none 2 (by kernel_rfl)).symm, S'⟩
        intro W3 T2
        subst ha0
        simp only [acts, if_true, Act.put, List.setIfInBounds_toArray, List.set_cons_succ, List.set_cons_zero]
        change Sat _ _ (blk a #[.int .i64 cd, .bool cn] _ :: _) at T2
        have HT2 := Lib.hid T2
        clear T2 T1 HSZ E9 E5
        go_wp2_with fail
        refine bodyPost_ret (results_t_cell rfl _ _ _ _ _ _ rfl (HT2.out).blk_at Tryz.underlying95 rfl (by kernel_rfl)) rfl ?_
        exact hK.out _ _ ⟨rfl, HT2.out.drop.drop⟩
      | false =>
        rw [hq] at hK
        rw [show bump C e false = C from rfl] at hK
        clear e0'
        go_upto_region 14 with fail
        have T1 := S8.re [2, 1, 0]
        clear S8
        refine wp_act fun a0 ha0 => ?_
        have HSZ : a0.tmps.size = 75 := by rw [ha0]; rfl
        have E9 : a0.eval (.tmp 9) = .pointer (some ⟨b, 0, none⟩) := by rw [ha0]; rfl
        have E5 : a0.eval (.tmp 5) = .pointer (some ⟨a, 0, none⟩) := by rw [ha0]; rfl
        refine wp_region_sat (by kernel_rfl) 3 (by kernel_rfl) [[], [], [0, 1, 0, 1]] (by kernel_rfl) (by kernel_rfl) [(0, 74, .agg #[.int .i64 cd, .bool cn]), (1, 4, .int .i64 0)] (fun f => blk a (cond (f 2) #[.int .i64 cd, .bool cn] #[.int .i64 0, .bool false]) 95 :: blk b #[.int .i64 cd, .bool cn] 95 :: runO r t pre to C post :: l) (by kernel_rfl) T1 ?_ ?_
        · refine ⟨?_, ?_, ?_, trivial⟩
          · intro f W h0 hd S
            refine wpOp_list rfl ?_
            refine st_load rfl _ _ rfl _ ((acts_eval_tmp 9 (by kernel_rfl)).trans E9) _ _ (S.swap) _ rfl rfl rfl ?_
            exact ⟨(acts_some 0 rfl (by kernel_rfl) (by kernel_rfl)).symm, S⟩
          · intro f W h1 hd S
            refine wpOp_run (v := .int .i64 0) rfl rfl (fun ρ hρ => ?_) ⟨(acts_some 1 rfl (by kernel_rfl) (by kernel_rfl)).symm, S⟩
            have ec : ∀ v, ρ (.const v) = v := by rw [hρ]; exact fun _ => rfl
            clear hρ
            go_simp
          · intro f W h2 hd S
            rw [h2] at S
            refine wpOp_list rfl ?_
            refine st_store rfl _ _ _ rfl _ _ ((acts_eval_tmp 5 (by kernel_rfl)).trans E5) (acts_eval_hit 0 rfl hd.1 (by rw [HSZ]; rfl) (by kernel_rfl)) _ _ (S) rfl rfl (by simp [Value.oneCell']) fun W' S' => ?_
            exact ⟨(acts_none 2 (by kernel_rfl)).symm, S'⟩
        intro W3 T2
        subst ha0
        simp only [acts, if_true, Act.put, List.setIfInBounds_toArray, List.set_cons_succ, List.set_cons_zero]
        change Sat _ _ (blk a #[.int .i64 cd, .bool cn] _ :: _) at T2
        have HT2 := Lib.hid T2
        clear T2 T1 HSZ E9 E5
        go_wp2_with fail
        refine bodyPost_ret (results_t_cell rfl _ _ _ _ _ _ rfl (HT2.out).blk_at Tryz.underlying95 rfl (by kernel_rfl)) rfl ?_
        exact hK.out _ _ ⟨rfl, HT2.out.drop.drop⟩
end
end Go.Proofs.YtcecfhfbcdbofaaGreatDoor
set_option linter.unusedSimpArgs false
set_option linter.unusedVariables false
namespace Go.Proofs.YtcecfhfbcdbofaaGreatDoor
open Go.RowKit

/-- A live stream with its run. -/
structure Ent where
  id : Int
  n : Int
  C : List Int
  hC : C.length = 9
def Ent.enc (x : Ent) : List Value := Value.int .i64 x.id :: Value.int .i64 x.n :: ints_r x.C
theorem ent_len (x : Ent) : x.enc.length = 11 := by simp [Ent.enc, ints_r, x.hC]
def lenc_r (x : Int) : List Value := [.int .i64 x]
theorem lenc_len (x : Int) : (lenc_r x).length = 1 := rfl
/-- A registry: its streams F, how many each tenant has: L. -/
def rgA (g : Nat) (ten quo : Int) (F : List Ent) (L : List Int) (last : Int) : Asrt :=
  ex fun v : Value => ex fun u : Value => star [blk g #[.int .i64 ten, .int .i64 quo, v, u, .int .i64 last] 114, ownS 160 11 v F.length (encs Ent.enc F), ownS 3 1 u L.length (encs lenc_r L)]
/-- Whose a stream is: what the program says. -/
def ownR (id ten : Int) : Bool := decide (1 ≤ id ∧ id ≤ 2147483647 ∧ id % 2 = 1 ∧ 1 ≤ ten ∧ ten ≤ 64)
def ownT (id ten : Int) : Int := if ownR id ten then id / 2 % ten else 0
def idOf (tick : Int) : Int := if 0 ≤ tick ∧ tick ≤ 1073741823 then 2 * tick + 1 else 0
theorem i64_mask1 (n : Int) : bits .and .i64 n 1 = n % 2 := by
  have h1 : (BitVec.ofInt 64 1).toNat = 2 ^ 1 - 1 := by decide
  have key : (BitVec.ofInt 64 n &&& BitVec.ofInt 64 1).toNat = (n % ((2 ^ 64 : Nat) : Int)).toNat % 2 ^ 1 := by
    rw [BitVec.toNat_and, BitVec.toNat_ofInt, h1, Nat.and_two_pow_sub_one_eq_mod]
  show IntKind.i64.wrap ((BitVec.ofInt 64 n &&& BitVec.ofInt 64 1).toNat : Nat) = n % 2
  rw [key, IntKind.wrap_i64]
  omega
section
variable {G : Gnd} {w w' : World} {l : List Asrt} {g : Nat} {ten quo last : Int} {F : List Ent} {L : List Int}
theorem rg_iff : Sat G w (rgA g ten quo F L last :: l) ↔ ∃ v u, Sat G w (blk g #[.int .i64 ten, .int .i64 quo, v, u, .int .i64 last] 114 :: ownS 160 11 v F.length (encs Ent.enc F) :: ownS 3 1 u L.length (encs lenc_r L) :: l) := by
  unfold rgA
  rw [Sat.ex_iff]
  simp only [Sat.ex_iff, Sat.star_iff, List.cons_append, List.nil_append]
theorem rg_some (t : Int) (w : World) : Calls Tryz.prog 40 #[.int .i64 t] w fun e w' => e = .returned (.bool (decide (1 ≤ t ∧ t ≤ 64))) ∧ w = w' := by
  refine calls_any fun K hK => ?_
  by_cases a1 : 1 ≤ t
  · by_cases a2 : t ≤ 64
    · rw [decide_eq_true ⟨a1, a2⟩] at hK
      have z1 : decide (t ≥ 1) = true := decide_eq_true (by omega)
      have z2 : decide (t ≤ 64) = true := decide_eq_true (by omega)
      go_enter Tryz.func40, Tryz.ntmps40
      go_wp2_with fail
      exact hK.out _ _ ⟨rfl, rfl⟩
    · rw [decide_eq_false fun h => a2 h.2] at hK
      have z1 : decide (t ≥ 1) = true := decide_eq_true (by omega)
      have z2 : decide (t ≤ 64) = false := decide_eq_false (by omega)
      go_enter Tryz.func40, Tryz.ntmps40
      go_wp2_with fail
      exact hK.out _ _ ⟨rfl, rfl⟩
  · rw [decide_eq_false fun h => a1 h.1] at hK
    have z1 : decide (t ≥ 1) = false := decide_eq_false (by omega)
    go_enter Tryz.func40, Tryz.ntmps40
    go_wp2_with fail
    exact hK.out _ _ ⟨rfl, rfl⟩
theorem rg_id (t : Int) (w : World) : Calls Tryz.prog 97 #[.int .i64 t] w fun e w' => e = .returned (.int .i64 (idOf t)) ∧ w = w' := by
  refine calls_any fun K hK => ?_
  unfold idOf at hK
  by_cases a1 : t < 0
  · rw [if_neg (by omega)] at hK
    go_enter Tryz.func97, Tryz.ntmps97
    go_wp2_with fail
    exact hK.out _ _ ⟨rfl, rfl⟩
  by_cases a2 : 1073741823 < t
  · rw [if_neg (by omega)] at hK
    go_enter Tryz.func97, Tryz.ntmps97
    go_wp2_with fail
    exact hK.out _ _ ⟨rfl, rfl⟩
  · rw [if_pos (by omega)] at hK
    go_enter Tryz.func97, Tryz.ntmps97
    go_wp2_with fail
    exact hK.out _ _ ⟨rfl, rfl⟩
set_option maxHeartbeats 2000000 in
theorem rg_owner0 (id t : Int) (w : World) : Calls Tryz.prog 59 #[.int .i64 id, .int .i64 t] w fun e w' => e = .returned (.tuple #[.int .i64 (ownT id t), .bool (ownR id t)]) ∧ w = w' := by
  refine calls_any fun K hK => ?_
  unfold ownT at hK
  have hm := i64_mask1 id
  have hs := rg_some t
  by_cases a1 : id < 1
  · rw [show ownR id t = false from decide_eq_false (by omega)] at hK
    go_enter Tryz.func59, Tryz.ntmps59
    go_wp2_with fail
    exact hK.out _ _ ⟨rfl, rfl⟩
  by_cases a2 : 2147483647 < id
  · rw [show ownR id t = false from decide_eq_false (by omega)] at hK
    go_enter Tryz.func59, Tryz.ntmps59
    go_wp2_with fail
    exact hK.out _ _ ⟨rfl, rfl⟩
  by_cases a3 : id % 2 = 0
  · rw [show ownR id t = false from decide_eq_false (by omega)] at hK
    rw [a3] at hm
    go_enter Tryz.func59, Tryz.ntmps59
    go_wp2_with fail
    exact hK.out _ _ ⟨rfl, rfl⟩
  rw [show id % 2 = 1 by omega] at hm
  by_cases a4 : 1 ≤ t ∧ t ≤ 64
  · rw [show ownR id t = true from decide_eq_true (by omega)] at hK
    have hs := hs w
    rw [decide_eq_true a4] at hs
    obtain ⟨b1, b2⟩ := a4
    obtain ⟨i, rfl⟩ : ∃ i : Nat, id = i := ⟨id.toNat, by omega⟩
    obtain ⟨t, rfl⟩ : ∃ i : Nat, t = i := ⟨t.toNat, by omega⟩
    have hq : Int.tdiv (i : Int) 2 = (i : Int) / 2 := Int.tdiv_eq_ediv_of_nonneg (by omega)
    have hr : Int.tmod ((i : Int) / 2) (t : Int) = (i : Int) / 2 % t := Int.tmod_eq_emod_of_nonneg (by omega)
    have ht0 : ((t : Int) == 0) = false := beq_eq_false_iff_ne.2 (by omega)
    go_enter Tryz.func59, Tryz.ntmps59
    go_wp2_with fail
    (with_reducible refine hs.mono ?_)
    rintro e w1 ⟨rfl, rfl⟩
    go_wp2_with fail
    exact hK.out _ _ ⟨rfl, rfl⟩
  · rw [show ownR id t = false from decide_eq_false (by omega)] at hK
    have hs := hs w
    rw [decide_eq_false a4] at hs
    go_enter Tryz.func59, Tryz.ntmps59
    go_wp2_with fail
    (with_reducible refine hs.mono ?_)
    rintro e w1 ⟨rfl, rfl⟩
    go_wp2_with fail
    exact hK.out _ _ ⟨rfl, rfl⟩
theorem rg_owner {w : World} {g : Nat} {ten : Int} (c0 : w.cell? ⟨g, 0, none⟩ = some (.int .i64 ten)) (id : Int) : Calls Tryz.prog 84 #[.pointer (some ⟨g, 0, none⟩), .int .i64 id] w fun e w' => e = .returned (.int .i64 (ownT id ten)) ∧ w = w' := by
  refine calls_any fun K hK => ?_
  have ho := rg_owner0 id ten w
  go_enter Tryz.func84, Tryz.ntmps84
  go_wp2_with fail
  (with_reducible refine ho.mono ?_)
  rintro e w1 ⟨rfl, rfl⟩
  go_wp2_with fail
  exact hK.out _ _ ⟨rfl, rfl⟩
theorem rg_last (H : Sat G w (rgA g ten quo F L last :: l)) : Calls Tryz.prog 28 #[.pointer (some ⟨g, 0, none⟩)] w fun e w' => e = .returned (.int .i64 last) ∧ w = w' := by
  refine calls_any fun K hK => ?_
  obtain ⟨v, u, S⟩ := rg_iff.1 H
  have c4 := S.cell 4
  clear H S
  go_enter Tryz.func28, Tryz.ntmps28
  go_wp2_with fail
  exact hK.out _ _ ⟨rfl, rfl⟩
def liveAt (L : List Int) (t : Int) : Int := if 0 ≤ t then L.getD t.toNat 0 else 0
theorem rg_live (H : Sat G w (rgA g ten quo F L last :: l)) (hL : (L.length : Int) = ten) (t : Int) : Calls Tryz.prog 33 #[.pointer (some ⟨g, 0, none⟩), .int .i64 t] w fun e w' => e = .returned (.int .i64 (liveAt L t)) ∧ w = w' := by
  refine calls_any fun K hK => ?_
  obtain ⟨v, u, S⟩ := rg_iff.1 H
  have c0 := S.cell 0
  have c3 := S.cell 3
  unfold liveAt at hK
  by_cases a1 : t < 0
  · rw [if_neg (by omega)] at hK
    clear H S
    go_enter Tryz.func33, Tryz.ntmps33
    go_wp2_with fail
    exact hK.out _ _ ⟨rfl, rfl⟩
  rw [if_pos (by omega)] at hK
  by_cases a2 : ten ≤ t
  · rw [List.getD_eq_getElem?_getD, List.getElem?_eq_none (by omega)] at hK
    clear H S
    go_enter Tryz.func33, Tryz.ntmps33
    go_wp2_with fail
    exact hK.out _ _ ⟨rfl, rfl⟩
  · obtain ⟨t, rfl⟩ : ∃ j : Nat, t = j := ⟨t.toNat, by omega⟩
    obtain ⟨x, hx⟩ : ∃ x, L[t]? = some x := ⟨_, List.getElem?_eq_getElem (by omega)⟩
    rw [List.getD_eq_getElem?_getD, show (t : Int).toNat = t by omega, hx] at hK
    obtain ⟨p, cap, cur, rfl, hcap, La, S2⟩ := (S.re [2, 0, 1]).layOpen lenc_len (by omega)
    have d := (S2.cell (t * 1 + 0)).trans (La.get hx (j := 0) (by decide))
    simp only [Nat.mul_one, Nat.add_zero, lenc_r, List.getElem?_cons_zero] at d
    obtain ⟨N, hN⟩ : ∃ N, N = L.length := ⟨_, rfl⟩
    rw [← hN] at c3
    have a4 : (t : Int) < (N : Int) := by omega
    have a5 : t < N := by omega
    clear H S S2 hx hN hL La
    go_enter Tryz.func33, Tryz.ntmps33
    go_wp2_with fail
    exact hK.out _ _ ⟨rfl, rfl⟩
end
end Go.Proofs.YtcecfhfbcdbofaaGreatDoor
set_option linter.unusedSimpArgs false
set_option linter.unusedVariables false
namespace Go.Proofs.YtcecfhfbcdbofaaGreatDoor
open Go.RowKit

theorem no_of_r {f : Nat → Bool} {i j : Nat} (h : f i = true → f j = true) (hj : f j = false) : f i = false := by
  cases hx : f i with
  | false => rfl
  | true => rw [h hx] at hj; cases hj
theorem info_one : (Tryz.prog.info? 160).map (fun i => (i.zero, i.size, i.bytes)) = some (some (.agg #[.int .i64 0, .int .i64 0, .int .i64 0, .int .i64 0, .int .i64 0, .int .i64 0, .int .i64 0, .int .i64 0, .int .i64 0, .int .i64 0, .int .i64 0]), 11, 88) := by kernel_rfl
theorem info_int_r : (Tryz.prog.info? 3).map (fun i => (i.zero, i.size, i.bytes)) = some (some (.int .i64 0), 1, 8) := by kernel_rfl
/-- A stream that was opened. -/
def newE (id : Int) : Ent := ⟨id, 1, [1, 0, 0, 0, 0, 0, 0, 0, 0], rfl⟩
def rRight (ten quo : Int) : Bool := decide (1 ≤ ten ∧ ten ≤ 64 ∧ 1 ≤ quo ∧ quo ≤ 65536)
/-- What a registry may hold. -/
structure RWf (ten quo : Int) (F : List Ent) (L : List Int) (last : Int) : Prop where
  t0 : 1 ≤ ten
  t1 : ten ≤ 64
  q0 : 1 ≤ quo
  q1 : quo ≤ 65536
  len : (L.length : Int) = ten
  few : F.length ≤ 10000
  lo : ∀ x ∈ L, -10000 ≤ x ∧ x ≤ 1000000
  last0 : 0 ≤ last
structure OpnRes where
  F : List Ent
  L : List Int
  last : Int
  id : Int
  err : Int
def rOpen (ten quo : Int) (F : List Ent) (L : List Int) (last tick : Int) : OpnRes :=
  if idOf tick = 0 then ⟨F, L, last, 0, 11⟩
  else if idOf tick ≤ last then ⟨F, L, last, 0, 25⟩
  else if quo ≤ liveAt L (ownT (idOf tick) ten) then ⟨F, L, last, 0, 33⟩
  else ⟨F ++ [newE (idOf tick)], L.set (ownT (idOf tick) ten).toNat (liveAt L (ownT (idOf tick) ten) + 1), idOf tick, idOf tick, 0⟩
section
variable {G : Gnd} {w w' : World} {l : List Asrt} {g : Nat} {ten quo last : Int} {F : List Ent} {L : List Int}
theorem rg_new_not (t q : Int) (h : rRight t q = false) (w : World) : Calls Tryz.prog 26 #[.int .i64 t, .int .i64 q] w fun e w' => e = .returned (.tuple #[.pointer none, .int .i64 11]) ∧ w = w' := by
  refine calls_any fun K hK => ?_
  have h := of_decide_eq_false h
  have hs := rg_some t w
  by_cases a1 : 1 ≤ t ∧ t ≤ 64
  · rw [decide_eq_true a1] at hs
    by_cases a2 : q < 1
    · go_enter Tryz.func26, Tryz.ntmps26
      go_wp2_with fail
      (with_reducible refine hs.mono ?_)
      rintro e w1 ⟨rfl, rfl⟩
      go_wp2_with fail
      exact hK.out _ _ ⟨rfl, rfl⟩
    · have a3 : 65536 < q := by omega
      go_enter Tryz.func26, Tryz.ntmps26
      go_wp2_with fail
      (with_reducible refine hs.mono ?_)
      rintro e w1 ⟨rfl, rfl⟩
      go_wp2_with fail
      exact hK.out _ _ ⟨rfl, rfl⟩
  · rw [decide_eq_false a1] at hs
    go_enter Tryz.func26, Tryz.ntmps26
    go_wp2_with fail
    (with_reducible refine hs.mono ?_)
    rintro e w1 ⟨rfl, rfl⟩
    go_wp2_with fail
    exact hK.out _ _ ⟨rfl, rfl⟩
set_option maxHeartbeats 1000000 in
theorem rg_new (H : Sat G w l) (t : Nat) (q : Int) (h : rRight t q = true) : Calls Tryz.prog 26 #[.int .i64 t, .int .i64 q] w fun e w' => ∃ g, e = .returned (.tuple #[.pointer (some ⟨g, 0, none⟩), .int .i64 0]) ∧ Sat G w' (rgA g t q [] (List.replicate t 0) 0 :: l) := by
  refine calls_any fun K hK => ?_
  obtain ⟨a1, a2, a3, a4⟩ := of_decide_eq_true h
  clear h
  have hs := rg_some t w
  rw [decide_eq_true ⟨a1, a2⟩] at hs
  have hmk := run_make_any (P := Tryz.prog) 43 3 (.int .i64 0) 1 8 Tryz.underlying43 info_int_r t (by omega) (by omega)
  have S1 := H.newBlk (madeCells #[.int .i64 0] t) 3
  have hme := made_encs lenc_len (by decide) (0 : Int) #[.int .i64 0] rfl t
  rw [Nat.mul_one] at hme
  have S2 := (S1.ownBlk (size := 1) t (by simp [madeCells]) (Nat.le_trans (show t ≤ 64 by omega) (by decide))).newBlk #[.int .i64 t, .int .i64 q, .slice none 0 0, .slice (some ⟨w.heap.size, 0, none⟩) t t, .int .i64 0] 114
  rw [hme] at S2
  simp only [World.size_alloc] at S2
  have HS : Hid (Sat G _ (rgA _ t q [] (List.replicate t 0) 0 :: l)) := Lib.hid (rg_iff.2 ⟨.slice none 0 0, .slice (some ⟨w.heap.size, 0, none⟩) t t, by
    rw [List.length_replicate]
    exact (S2.swap.ownNil 160 11).re [2, 0, 1]⟩)
  clear S1 S2 hme
  go_enter Tryz.func26, Tryz.ntmps26
  go_wp2_with fail
  (with_reducible refine hs.mono ?_)
  rintro e w1 ⟨rfl, rfl⟩
  go_wp2_with fail
  exact hK.out _ _ ⟨_, rfl, HS.out⟩
def HNo (f : Nat → Bool) : Prop := (f 7 = true → f 6 = true) ∧ (f 7 = true → f 4 = true) ∧ (f 10 = true → f 7 = true)
theorem rg_open_early (H : Sat G w (rgA g ten quo F L last :: l)) (tick : Int) (h : idOf tick = 0 ∨ idOf tick ≤ last) (hl0 : 0 ≤ last) : Calls Tryz.prog 74 #[.pointer (some ⟨g, 0, none⟩), .int .i64 tick] w fun e w' => e = .returned (.tuple #[.int .i64 (rOpen ten quo F L last tick).id, .int .i64 (rOpen ten quo F L last tick).err]) ∧ w = w' := by
  refine calls_any fun K hK => ?_
  have hid := rg_id tick w
  unfold rOpen at hK
  generalize idOf tick = id at *
  obtain ⟨v, u, S⟩ := rg_iff.1 H
  have c4 := S.cell 4
  clear H S
  by_cases h0 : id = 0
  · rw [if_pos h0] at hK
    subst h0
    clear h
    go_enter Tryz.func74, Tryz.ntmps74
    go_wp2_with fail
    (with_reducible refine hid.mono ?_)
    rintro e w1 ⟨rfl, rfl⟩
    go_wp2_with fail
    exact hK.out _ _ ⟨rfl, rfl⟩
  · have h1 : id ≤ last := by omega
    rw [if_neg h0, if_pos h1] at hK
    have h0b : (id == 0) = false := beq_eq_false_iff_ne.2 h0
    clear h
    go_enter Tryz.func74, Tryz.ntmps74
    go_wp2_with fail
    (with_reducible refine hid.mono ?_)
    rintro e w1 ⟨rfl, rfl⟩
    go_wp2_with fail
    exact hK.out _ _ ⟨rfl, rfl⟩
set_option maxHeartbeats 8000000 in
set_option maxRecDepth 100000 in
theorem rg_open_full (H : Sat G w (rgA g ten quo F L last :: l)) (hw : RWf ten quo F L last) (ht : TabG G) (tick : Int) (h0 : ¬ idOf tick = 0) (h1 : ¬ idOf tick ≤ last) (h2 : quo ≤ liveAt L (ownT (idOf tick) ten)) : Calls Tryz.prog 74 #[.pointer (some ⟨g, 0, none⟩), .int .i64 tick] w fun e w' => e = .returned (.tuple #[.int .i64 (rOpen ten quo F L last tick).id, .int .i64 (rOpen ten quo F L last tick).err]) ∧ Sat G w' (rgA g ten quo (rOpen ten quo F L last tick).F (rOpen ten quo F L last tick).L (rOpen ten quo F L last tick).last :: l) := by
  refine calls_any fun K hK => ?_
  have hid := rg_id tick w
  have HID := Lib.hid (show idOf tick = 2 * tick + 1 ∧ 0 ≤ tick ∧ tick ≤ 1073741823 by unfold idOf at h0 ⊢; split at h0 <;> simp_all)
  unfold rOpen at hK
  rw [if_neg h0, if_neg h1, if_pos h2] at hK
  generalize idOf tick = id at *
  have HFW := Lib.hid hw.few
  have HLAST := Lib.hid hw.last0
  have h0b : (id == 0) = false := beq_eq_false_iff_ne.2 h0
  have hlt : ¬ id ≤ last := h1
  have htn := hw.t0
  have hlen := hw.len
  obtain ⟨T, hT⟩ : ∃ T : Nat, ownT id ten = T := ⟨(ownT id ten).toNat, by
    have : 0 ≤ ownT id ten := by
      unfold ownT
      split
      · exact Int.emod_nonneg _ (by omega)
      · omega
    omega⟩
  have hTl : T < L.length := by
    have : ownT id ten < ten := by
      unfold ownT
      split
      · exact Int.emod_lt_of_pos _ (by omega)
      · omega
    omega
  obtain ⟨x, hx⟩ : ∃ x, L[T]? = some x := ⟨_, List.getElem?_eq_getElem hTl⟩
  have hla : liveAt L (ownT id ten) = x := by
    unfold liveAt
    rw [hT, if_pos (by omega), List.getD_eq_getElem?_getD, show (T : Int).toNat = T by omega, hx]; rfl
  rw [hla] at h2
  try rw [hla] at hK
  have hxb := hw.lo x (List.mem_of_getElem? hx)
  obtain ⟨v, u, S⟩ := rg_iff.1 H
  obtain ⟨b, cap, cur, rfl, hcap, La, S2⟩ := (S.re [2, 0, 1]).layOpen lenc_len (by omega)
  have HCX := Lib.hid (La.get hx (j := 0) (by decide))
  simp only [Nat.mul_one, Nat.add_zero, lenc_r, List.getElem?_cons_zero] at HCX
  have hTc := La.room hTl
  have HLA := Lib.hid La
  have HCP := Lib.hid hcap
  have HTC : Hid (T < cur.size) := Lib.hid (by omega)
  have c4 := S2.swap.cell 4
  obtain ⟨N, hN⟩ : ∃ N, N = L.length := ⟨_, rfl⟩
  rw [← hN] at S2 c4
  have a4 : (T : Int) < (N : Int) := by omega
  have a5 : T < N := by omega
  have HN := Lib.hid hN
  have HOT := Lib.hid hT
  have HX := Lib.hid hx
  have HTL := Lib.hid hTl
  have HTAB := Lib.hid ht
  replace S2 := S2.re [1, 0, 2]
  clear H S La hcap hTc hN hT hx hw hlen hla hTl ht h0 h1
  obtain ⟨hx0, hx1⟩ := hxb
  go_enter Tryz.func74, Tryz.ntmps74
  go_wp2_with fail
  (with_reducible refine hid.mono ?_)
  rintro e w1 ⟨rfl, rfl⟩
  go_upto_region 6 with fail
  clear hid c4
  have hge : decide (x ≥ quo) = true := decide_eq_true (by omega)
  refine wp_act fun a0 ha0 => ?_
  have HSZ : a0.tmps.size = 65 := by rw [ha0]; rfl
  have E0 : a0.eval (.tmp 0) = .pointer (some ⟨g, 0, none⟩) := by rw [ha0]; rfl
  have E6 : a0.eval (.tmp 6) = .int .i64 id := by rw [ha0]; rfl
  refine wp_region_J (by kernel_rfl) 15 (by kernel_rfl) [[], [0], [1], [2], [], [], [4, 5], [3, 6], [7], [], [9], [10], [11], [8, 12], [13, 6]] (by kernel_rfl) (by kernel_rfl) (fun f a' W => a' = acts [(0, 21, .pointer (some ⟨g, 0, none⟩)), (1, 22, .pointer (some ⟨g, 0, none⟩)), (2, 23, .pointer (some ⟨g, 3, none⟩)), (3, 24, .slice (some ⟨b, 0, none⟩) N cap), (4, 25, .pointer (some ⟨g, 0, none⟩)), (5, 26, .int .i64 id), (6, 27, .int .i64 T), (7, 28, .pointer (some ⟨b, T, none⟩)), (8, 29, .int .i64 x), (9, 30, .pointer (some ⟨g, 0, none⟩)), (10, 31, .pointer (some ⟨g, 0, none⟩)), (11, 32, .pointer (some ⟨g, 1, none⟩)), (12, 33, .int .i64 quo), (13, 34, .bool true), (14, 20, .bool true)] f a0 ∧ Sat G W (blk g #[.int .i64 ten, .int .i64 quo, v, .slice (some ⟨b, 0, none⟩) N cap, .int .i64 last] 114 :: blk b cur 3 :: ownS 160 11 v F.length (encs Ent.enc F) :: l)) ?_ ?_ ?_
  · exact ⟨rfl, S2.drew⟩
  · refine ⟨?_, ?_, ?_, ?_, ?_, ?_, ?_, ?_, ?_, ?_, ?_, ?_, ?_, ?_, ?_, trivial⟩
    · rintro f a' W h0 hd ⟨rfl, S⟩
      refine wpOp_run (v := .pointer (some ⟨g, 0, none⟩)) rfl rfl (fun ρ hρ => ?_) ⟨(acts_some 0 rfl (by kernel_rfl) (by kernel_rfl)).symm, S⟩
      have e0 : ρ (.tmp 0) = .pointer (some ⟨g, 0, none⟩) := by rw [hρ]; exact (acts_eval_tmp 0 (by kernel_rfl)).trans E0
      clear hρ
      go_simp
    · rintro f a' W h1 hd ⟨rfl, S⟩
      refine wpOp_run (v := .pointer (some ⟨g, 0, none⟩)) rfl rfl (fun ρ hρ => ?_) ⟨(acts_some 1 rfl (by kernel_rfl) (by kernel_rfl)).symm, S⟩
      have e0 : ρ (.tmp 21) = .pointer (some ⟨g, 0, none⟩) := by rw [hρ]; exact acts_eval_hit 0 rfl hd.1 (by rw [HSZ]; rfl) (by kernel_rfl)
      clear hρ
      go_simp
    · rintro f a' W h2 hd ⟨rfl, S⟩
      refine wpOp_run (v := .pointer (some ⟨g, 3, none⟩)) rfl rfl (fun ρ hρ => ?_) ⟨(acts_some 2 rfl (by kernel_rfl) (by kernel_rfl)).symm, S⟩
      have e0 : ρ (.tmp 22) = .pointer (some ⟨g, 0, none⟩) := by rw [hρ]; exact acts_eval_hit 1 rfl hd.1 (by rw [HSZ]; rfl) (by kernel_rfl)
      clear hρ
      go_simp
    · rintro f a' W h3 hd ⟨rfl, S⟩
      refine wpOp_run (v := .slice (some ⟨b, 0, none⟩) N cap) rfl rfl (fun ρ hρ => ?_) ⟨(acts_some 3 rfl (by kernel_rfl) (by kernel_rfl)).symm, S⟩
      have e0 : ρ (.tmp 23) = .pointer (some ⟨g, 3, none⟩) := by rw [hρ]; exact acts_eval_hit 2 rfl hd.1 (by rw [HSZ]; rfl) (by kernel_rfl)
      clear hρ
      (have z : W.cell? ⟨g, 3, none⟩ = some (.slice (some ⟨b, 0, none⟩) N cap) := S.cell 3)
      go_simp
    · rintro f a' W h4 hd ⟨rfl, S⟩
      refine wpOp_run (v := .pointer (some ⟨g, 0, none⟩)) rfl rfl (fun ρ hρ => ?_) ⟨(acts_some 4 rfl (by kernel_rfl) (by kernel_rfl)).symm, S⟩
      have e0 : ρ (.tmp 0) = .pointer (some ⟨g, 0, none⟩) := by rw [hρ]; exact (acts_eval_tmp 0 (by kernel_rfl)).trans E0
      clear hρ
      go_simp
    · rintro f a' W h5 hd ⟨rfl, S⟩
      refine wpOp_run (v := .int .i64 id) rfl rfl (fun ρ hρ => ?_) ⟨(acts_some 5 rfl (by kernel_rfl) (by kernel_rfl)).symm, S⟩
      have e0 : ρ (.tmp 6) = .int .i64 id := by rw [hρ]; exact (acts_eval_tmp 6 (by kernel_rfl)).trans E6
      clear hρ
      go_simp
    · rintro f a' W h6 hd ⟨rfl, S⟩
      refine wpOp_call rfl rfl (fun ρ hρ => ?_) ((rg_owner (S.cell 0) id)) ?_
      · skip
        have e0 : ρ (.tmp 25) = .pointer (some ⟨g, 0, none⟩) := by rw [hρ]; exact acts_eval_hit 4 rfl hd.1 (by rw [HSZ]; rfl) (by kernel_rfl)
        have e1 : ρ (.tmp 26) = .int .i64 id := by rw [hρ]; exact acts_eval_hit 5 rfl hd.2.1 (by rw [HSZ]; rfl) (by kernel_rfl)
        have ef : ρ (.func 84) = .func (.func 84) #[] #[] := by rw [hρ]; rfl
        clear hρ
        go_simp
      · (rintro e W' ⟨rfl, rfl⟩; rw [HOT.out]; exact ⟨_, rfl, acts_swap rfl (k := 6) rfl (by kernel_rfl) (by kernel_rfl), S⟩)
    · rintro f a' W h7 hd ⟨rfl, S⟩
      refine wpOp_run (v := .pointer (some ⟨b, T, none⟩)) rfl rfl (fun ρ hρ => ?_) ⟨(acts_some 7 rfl (by kernel_rfl) (by kernel_rfl)).symm, S⟩
      have e0 : ρ (.tmp 24) = .slice (some ⟨b, 0, none⟩) N cap := by rw [hρ]; exact acts_eval_hit 3 rfl hd.1 (by rw [HSZ]; rfl) (by kernel_rfl)
      have e1 : ρ (.tmp 27) = .int .i64 T := by rw [hρ]; exact acts_eval_hit 6 rfl hd.2.1 (by rw [HSZ]; rfl) (by kernel_rfl)
      clear hρ
      go_simp
    · rintro f a' W h8 hd ⟨rfl, S⟩
      refine wpOp_run (v := .int .i64 x) rfl rfl (fun ρ hρ => ?_) ⟨(acts_some 8 rfl (by kernel_rfl) (by kernel_rfl)).symm, S⟩
      have e0 : ρ (.tmp 28) = .pointer (some ⟨b, T, none⟩) := by rw [hρ]; exact acts_eval_hit 7 rfl hd.1 (by rw [HSZ]; rfl) (by kernel_rfl)
      clear hρ
      (have z : W.cell? ⟨b, T, none⟩ = some (.int .i64 x) := (S.swap.cell T).trans HCX.out)
      go_simp
    · rintro f a' W h9 hd ⟨rfl, S⟩
      refine wpOp_run (v := .pointer (some ⟨g, 0, none⟩)) rfl rfl (fun ρ hρ => ?_) ⟨(acts_some 9 rfl (by kernel_rfl) (by kernel_rfl)).symm, S⟩
      have e0 : ρ (.tmp 0) = .pointer (some ⟨g, 0, none⟩) := by rw [hρ]; exact (acts_eval_tmp 0 (by kernel_rfl)).trans E0
      clear hρ
      go_simp
    · rintro f a' W h10 hd ⟨rfl, S⟩
      refine wpOp_run (v := .pointer (some ⟨g, 0, none⟩)) rfl rfl (fun ρ hρ => ?_) ⟨(acts_some 10 rfl (by kernel_rfl) (by kernel_rfl)).symm, S⟩
      have e0 : ρ (.tmp 30) = .pointer (some ⟨g, 0, none⟩) := by rw [hρ]; exact acts_eval_hit 9 rfl hd.1 (by rw [HSZ]; rfl) (by kernel_rfl)
      clear hρ
      go_simp
    · rintro f a' W h11 hd ⟨rfl, S⟩
      refine wpOp_run (v := .pointer (some ⟨g, 1, none⟩)) rfl rfl (fun ρ hρ => ?_) ⟨(acts_some 11 rfl (by kernel_rfl) (by kernel_rfl)).symm, S⟩
      have e0 : ρ (.tmp 31) = .pointer (some ⟨g, 0, none⟩) := by rw [hρ]; exact acts_eval_hit 10 rfl hd.1 (by rw [HSZ]; rfl) (by kernel_rfl)
      clear hρ
      go_simp
    · rintro f a' W h12 hd ⟨rfl, S⟩
      refine wpOp_run (v := .int .i64 quo) rfl rfl (fun ρ hρ => ?_) ⟨(acts_some 12 rfl (by kernel_rfl) (by kernel_rfl)).symm, S⟩
      have e0 : ρ (.tmp 32) = .pointer (some ⟨g, 1, none⟩) := by rw [hρ]; exact acts_eval_hit 11 rfl hd.1 (by rw [HSZ]; rfl) (by kernel_rfl)
      clear hρ
      (have z : W.cell? ⟨g, 1, none⟩ = some (.int .i64 quo) := S.cell 1)
      go_simp
    · rintro f a' W h13 hd ⟨rfl, S⟩
      refine wpOp_run (v := .bool true) rfl rfl (fun ρ hρ => ?_) ⟨(acts_some 13 rfl (by kernel_rfl) (by kernel_rfl)).symm, S⟩
      have e0 : ρ (.tmp 29) = .int .i64 x := by rw [hρ]; exact acts_eval_hit 8 rfl hd.1 (by rw [HSZ]; rfl) (by kernel_rfl)
      have e1 : ρ (.tmp 33) = .int .i64 quo := by rw [hρ]; exact acts_eval_hit 12 rfl hd.2.1 (by rw [HSZ]; rfl) (by kernel_rfl)
      clear hρ
      go_simp
    · rintro f a' W h14 hd ⟨rfl, S⟩
      refine wpOp_run (v := .bool true) rfl rfl (fun ρ hρ => ?_) ⟨(acts_some 14 rfl (by kernel_rfl) (by kernel_rfl)).symm, S⟩
      have e0 : ρ (.tmp 34) = .bool true := by rw [hρ]; exact acts_eval_hit 13 rfl hd.1 (by rw [HSZ]; rfl) (by kernel_rfl)
      clear hρ
      go_simp
  rintro a' W ⟨rfl, S3⟩
  subst ha0
  simp only [acts, if_true, Act.put, List.setIfInBounds_toArray, List.set_cons_succ, List.set_cons_zero]
  clear S2 HSZ E0 E6
  go_wp2_with fail
  refine hK.out _ _ ⟨rfl, rg_iff.2 ⟨v, .slice (some ⟨b, 0, none⟩) N cap, ?_⟩⟩
  exact ((S3.re [1, 0, 2]).layClose HLA.out HCP.out N HN.out).re [1, 2, 0]
set_option maxHeartbeats 8000000 in
set_option maxRecDepth 100000 in
theorem rg_open_ok (H : Sat G w (rgA g ten quo F L last :: l)) (hw : RWf ten quo F L last) (ht : TabG G) (tick : Int) (h0 : ¬ idOf tick = 0) (h1 : ¬ idOf tick ≤ last) (h2 : ¬ quo ≤ liveAt L (ownT (idOf tick) ten)) : Calls Tryz.prog 74 #[.pointer (some ⟨g, 0, none⟩), .int .i64 tick] w fun e w' => e = .returned (.tuple #[.int .i64 (rOpen ten quo F L last tick).id, .int .i64 (rOpen ten quo F L last tick).err]) ∧ Sat G w' (rgA g ten quo (rOpen ten quo F L last tick).F (rOpen ten quo F L last tick).L (rOpen ten quo F L last tick).last :: l) := by
  refine calls_any fun K hK => ?_
  have hid := rg_id tick w
  have HID := Lib.hid (show idOf tick = 2 * tick + 1 ∧ 0 ≤ tick ∧ tick ≤ 1073741823 by unfold idOf at h0 ⊢; split at h0 <;> simp_all)
  unfold rOpen at hK
  rw [if_neg h0, if_neg h1, if_neg h2] at hK
  generalize idOf tick = id at *
  have HFW := Lib.hid hw.few
  have HLAST := Lib.hid hw.last0
  have h0b : (id == 0) = false := beq_eq_false_iff_ne.2 h0
  have hlt : ¬ id ≤ last := h1
  have htn := hw.t0
  have hlen := hw.len
  obtain ⟨T, hT⟩ : ∃ T : Nat, ownT id ten = T := ⟨(ownT id ten).toNat, by
    have : 0 ≤ ownT id ten := by
      unfold ownT
      split
      · exact Int.emod_nonneg _ (by omega)
      · omega
    omega⟩
  have hTl : T < L.length := by
    have : ownT id ten < ten := by
      unfold ownT
      split
      · exact Int.emod_lt_of_pos _ (by omega)
      · omega
    omega
  obtain ⟨x, hx⟩ : ∃ x, L[T]? = some x := ⟨_, List.getElem?_eq_getElem hTl⟩
  have hla : liveAt L (ownT id ten) = x := by
    unfold liveAt
    rw [hT, if_pos (by omega), List.getD_eq_getElem?_getD, show (T : Int).toNat = T by omega, hx]; rfl
  rw [hla] at h2
  try rw [hla] at hK
  have hxb := hw.lo x (List.mem_of_getElem? hx)
  obtain ⟨v, u, S⟩ := rg_iff.1 H
  obtain ⟨b, cap, cur, rfl, hcap, La, S2⟩ := (S.re [2, 0, 1]).layOpen lenc_len (by omega)
  have HCX := Lib.hid (La.get hx (j := 0) (by decide))
  simp only [Nat.mul_one, Nat.add_zero, lenc_r, List.getElem?_cons_zero] at HCX
  have hTc := La.room hTl
  have HLA := Lib.hid La
  have HCP := Lib.hid hcap
  have HTC : Hid (T < cur.size) := Lib.hid (by omega)
  have c4 := S2.swap.cell 4
  obtain ⟨N, hN⟩ : ∃ N, N = L.length := ⟨_, rfl⟩
  rw [← hN] at S2 c4
  have a4 : (T : Int) < (N : Int) := by omega
  have a5 : T < N := by omega
  have HN := Lib.hid hN
  have HOT := Lib.hid hT
  have HX := Lib.hid hx
  have HTL := Lib.hid hTl
  have HTAB := Lib.hid ht
  replace S2 := S2.re [1, 0, 2]
  clear H S La hcap hTc hN hT hx hw hlen hla hTl ht h0 h1
  obtain ⟨hx0, hx1⟩ := hxb
  go_enter Tryz.func74, Tryz.ntmps74
  go_wp2_with fail
  (with_reducible refine hid.mono ?_)
  rintro e w1 ⟨rfl, rfl⟩
  go_upto_region 6 with fail
  clear hid c4
  have hge : decide (x ≥ quo) = false := decide_eq_false (by omega)
  refine wp_act fun a0 ha0 => ?_
  have HSZ : a0.tmps.size = 65 := by rw [ha0]; rfl
  have E0 : a0.eval (.tmp 0) = .pointer (some ⟨g, 0, none⟩) := by rw [ha0]; rfl
  have E6 : a0.eval (.tmp 6) = .int .i64 id := by rw [ha0]; rfl
  refine wp_region_J (by kernel_rfl) 15 (by kernel_rfl) [[], [0], [1], [2], [], [], [4, 5], [3, 6], [7], [], [9], [10], [11], [8, 12], [13, 6]] (by kernel_rfl) (by kernel_rfl) (fun f a' W => a' = acts [(0, 21, .pointer (some ⟨g, 0, none⟩)), (1, 22, .pointer (some ⟨g, 0, none⟩)), (2, 23, .pointer (some ⟨g, 3, none⟩)), (3, 24, .slice (some ⟨b, 0, none⟩) N cap), (4, 25, .pointer (some ⟨g, 0, none⟩)), (5, 26, .int .i64 id), (6, 27, .int .i64 T), (7, 28, .pointer (some ⟨b, T, none⟩)), (8, 29, .int .i64 x), (9, 30, .pointer (some ⟨g, 0, none⟩)), (10, 31, .pointer (some ⟨g, 0, none⟩)), (11, 32, .pointer (some ⟨g, 1, none⟩)), (12, 33, .int .i64 quo), (13, 34, .bool false), (14, 20, .bool false)] f a0 ∧ Sat G W (blk g #[.int .i64 ten, .int .i64 quo, v, .slice (some ⟨b, 0, none⟩) N cap, .int .i64 last] 114 :: blk b cur 3 :: ownS 160 11 v F.length (encs Ent.enc F) :: l)) ?_ ?_ ?_
  · exact ⟨rfl, S2.drew⟩
  · refine ⟨?_, ?_, ?_, ?_, ?_, ?_, ?_, ?_, ?_, ?_, ?_, ?_, ?_, ?_, ?_, trivial⟩
    · rintro f a' W h0 hd ⟨rfl, S⟩
      refine wpOp_run (v := .pointer (some ⟨g, 0, none⟩)) rfl rfl (fun ρ hρ => ?_) ⟨(acts_some 0 rfl (by kernel_rfl) (by kernel_rfl)).symm, S⟩
      have e0 : ρ (.tmp 0) = .pointer (some ⟨g, 0, none⟩) := by rw [hρ]; exact (acts_eval_tmp 0 (by kernel_rfl)).trans E0
      clear hρ
      go_simp
    · rintro f a' W h1 hd ⟨rfl, S⟩
      refine wpOp_run (v := .pointer (some ⟨g, 0, none⟩)) rfl rfl (fun ρ hρ => ?_) ⟨(acts_some 1 rfl (by kernel_rfl) (by kernel_rfl)).symm, S⟩
      have e0 : ρ (.tmp 21) = .pointer (some ⟨g, 0, none⟩) := by rw [hρ]; exact acts_eval_hit 0 rfl hd.1 (by rw [HSZ]; rfl) (by kernel_rfl)
      clear hρ
      go_simp
    · rintro f a' W h2 hd ⟨rfl, S⟩
      refine wpOp_run (v := .pointer (some ⟨g, 3, none⟩)) rfl rfl (fun ρ hρ => ?_) ⟨(acts_some 2 rfl (by kernel_rfl) (by kernel_rfl)).symm, S⟩
      have e0 : ρ (.tmp 22) = .pointer (some ⟨g, 0, none⟩) := by rw [hρ]; exact acts_eval_hit 1 rfl hd.1 (by rw [HSZ]; rfl) (by kernel_rfl)
      clear hρ
      go_simp
    · rintro f a' W h3 hd ⟨rfl, S⟩
      refine wpOp_run (v := .slice (some ⟨b, 0, none⟩) N cap) rfl rfl (fun ρ hρ => ?_) ⟨(acts_some 3 rfl (by kernel_rfl) (by kernel_rfl)).symm, S⟩
      have e0 : ρ (.tmp 23) = .pointer (some ⟨g, 3, none⟩) := by rw [hρ]; exact acts_eval_hit 2 rfl hd.1 (by rw [HSZ]; rfl) (by kernel_rfl)
      clear hρ
      (have z : W.cell? ⟨g, 3, none⟩ = some (.slice (some ⟨b, 0, none⟩) N cap) := S.cell 3)
      go_simp
    · rintro f a' W h4 hd ⟨rfl, S⟩
      refine wpOp_run (v := .pointer (some ⟨g, 0, none⟩)) rfl rfl (fun ρ hρ => ?_) ⟨(acts_some 4 rfl (by kernel_rfl) (by kernel_rfl)).symm, S⟩
      have e0 : ρ (.tmp 0) = .pointer (some ⟨g, 0, none⟩) := by rw [hρ]; exact (acts_eval_tmp 0 (by kernel_rfl)).trans E0
      clear hρ
      go_simp
    · rintro f a' W h5 hd ⟨rfl, S⟩
      refine wpOp_run (v := .int .i64 id) rfl rfl (fun ρ hρ => ?_) ⟨(acts_some 5 rfl (by kernel_rfl) (by kernel_rfl)).symm, S⟩
      have e0 : ρ (.tmp 6) = .int .i64 id := by rw [hρ]; exact (acts_eval_tmp 6 (by kernel_rfl)).trans E6
      clear hρ
      go_simp
    · rintro f a' W h6 hd ⟨rfl, S⟩
      refine wpOp_call rfl rfl (fun ρ hρ => ?_) ((rg_owner (S.cell 0) id)) ?_
      · skip
        have e0 : ρ (.tmp 25) = .pointer (some ⟨g, 0, none⟩) := by rw [hρ]; exact acts_eval_hit 4 rfl hd.1 (by rw [HSZ]; rfl) (by kernel_rfl)
        have e1 : ρ (.tmp 26) = .int .i64 id := by rw [hρ]; exact acts_eval_hit 5 rfl hd.2.1 (by rw [HSZ]; rfl) (by kernel_rfl)
        have ef : ρ (.func 84) = .func (.func 84) #[] #[] := by rw [hρ]; rfl
        clear hρ
        go_simp
      · (rintro e W' ⟨rfl, rfl⟩; rw [HOT.out]; exact ⟨_, rfl, acts_swap rfl (k := 6) rfl (by kernel_rfl) (by kernel_rfl), S⟩)
    · rintro f a' W h7 hd ⟨rfl, S⟩
      refine wpOp_run (v := .pointer (some ⟨b, T, none⟩)) rfl rfl (fun ρ hρ => ?_) ⟨(acts_some 7 rfl (by kernel_rfl) (by kernel_rfl)).symm, S⟩
      have e0 : ρ (.tmp 24) = .slice (some ⟨b, 0, none⟩) N cap := by rw [hρ]; exact acts_eval_hit 3 rfl hd.1 (by rw [HSZ]; rfl) (by kernel_rfl)
      have e1 : ρ (.tmp 27) = .int .i64 T := by rw [hρ]; exact acts_eval_hit 6 rfl hd.2.1 (by rw [HSZ]; rfl) (by kernel_rfl)
      clear hρ
      go_simp
    · rintro f a' W h8 hd ⟨rfl, S⟩
      refine wpOp_run (v := .int .i64 x) rfl rfl (fun ρ hρ => ?_) ⟨(acts_some 8 rfl (by kernel_rfl) (by kernel_rfl)).symm, S⟩
      have e0 : ρ (.tmp 28) = .pointer (some ⟨b, T, none⟩) := by rw [hρ]; exact acts_eval_hit 7 rfl hd.1 (by rw [HSZ]; rfl) (by kernel_rfl)
      clear hρ
      (have z : W.cell? ⟨b, T, none⟩ = some (.int .i64 x) := (S.swap.cell T).trans HCX.out)
      go_simp
    · rintro f a' W h9 hd ⟨rfl, S⟩
      refine wpOp_run (v := .pointer (some ⟨g, 0, none⟩)) rfl rfl (fun ρ hρ => ?_) ⟨(acts_some 9 rfl (by kernel_rfl) (by kernel_rfl)).symm, S⟩
      have e0 : ρ (.tmp 0) = .pointer (some ⟨g, 0, none⟩) := by rw [hρ]; exact (acts_eval_tmp 0 (by kernel_rfl)).trans E0
      clear hρ
      go_simp
    · rintro f a' W h10 hd ⟨rfl, S⟩
      refine wpOp_run (v := .pointer (some ⟨g, 0, none⟩)) rfl rfl (fun ρ hρ => ?_) ⟨(acts_some 10 rfl (by kernel_rfl) (by kernel_rfl)).symm, S⟩
      have e0 : ρ (.tmp 30) = .pointer (some ⟨g, 0, none⟩) := by rw [hρ]; exact acts_eval_hit 9 rfl hd.1 (by rw [HSZ]; rfl) (by kernel_rfl)
      clear hρ
      go_simp
    · rintro f a' W h11 hd ⟨rfl, S⟩
      refine wpOp_run (v := .pointer (some ⟨g, 1, none⟩)) rfl rfl (fun ρ hρ => ?_) ⟨(acts_some 11 rfl (by kernel_rfl) (by kernel_rfl)).symm, S⟩
      have e0 : ρ (.tmp 31) = .pointer (some ⟨g, 0, none⟩) := by rw [hρ]; exact acts_eval_hit 10 rfl hd.1 (by rw [HSZ]; rfl) (by kernel_rfl)
      clear hρ
      go_simp
    · rintro f a' W h12 hd ⟨rfl, S⟩
      refine wpOp_run (v := .int .i64 quo) rfl rfl (fun ρ hρ => ?_) ⟨(acts_some 12 rfl (by kernel_rfl) (by kernel_rfl)).symm, S⟩
      have e0 : ρ (.tmp 32) = .pointer (some ⟨g, 1, none⟩) := by rw [hρ]; exact acts_eval_hit 11 rfl hd.1 (by rw [HSZ]; rfl) (by kernel_rfl)
      clear hρ
      (have z : W.cell? ⟨g, 1, none⟩ = some (.int .i64 quo) := S.cell 1)
      go_simp
    · rintro f a' W h13 hd ⟨rfl, S⟩
      refine wpOp_run (v := .bool false) rfl rfl (fun ρ hρ => ?_) ⟨(acts_some 13 rfl (by kernel_rfl) (by kernel_rfl)).symm, S⟩
      have e0 : ρ (.tmp 29) = .int .i64 x := by rw [hρ]; exact acts_eval_hit 8 rfl hd.1 (by rw [HSZ]; rfl) (by kernel_rfl)
      have e1 : ρ (.tmp 33) = .int .i64 quo := by rw [hρ]; exact acts_eval_hit 12 rfl hd.2.1 (by rw [HSZ]; rfl) (by kernel_rfl)
      clear hρ
      go_simp
    · rintro f a' W h14 hd ⟨rfl, S⟩
      refine wpOp_run (v := .bool false) rfl rfl (fun ρ hρ => ?_) ⟨(acts_some 14 rfl (by kernel_rfl) (by kernel_rfl)).symm, S⟩
      have e0 : ρ (.tmp 34) = .bool false := by rw [hρ]; exact acts_eval_hit 13 rfl hd.1 (by rw [HSZ]; rfl) (by kernel_rfl)
      clear hρ
      go_simp
  rintro a' W ⟨rfl, S3⟩
  subst ha0
  simp only [acts, if_true, Act.put, List.setIfInBounds_toArray, List.set_cons_succ, List.set_cons_zero]
  clear S2 HSZ E0 E6
  go_upto_region 8 with fail
  refine wp_world S3 fun w2 S4 => ?_
  clear S3
  have S5 := S4.newBlk #[.int .i64 id, .int .i64 0, .int .i64 0, .int .i64 0, .int .i64 0, .int .i64 0, .int .i64 0, .int .i64 0, .int .i64 0, .int .i64 0, .int .i64 0] 160
  clear S4
  go_upto_region 9 with fail
  generalize w2.heap.size = z at *
  refine wp_world S5 fun w3 S6 => ?_
  clear S5
  have hd := rn_do (off := 1) (pre := [.int .i64 id]) (n := 0) (C := [0, 0, 0, 0, 0, 0, 0, 0, 0]) (post := []) (t := 160) S6 rfl HTAB.out rfl (by decide) 0
  rw [show pDo 0 0 = ⟨1, 0, 0, false, true⟩ from by rfl] at hd
  clear S6
  go_wp2_with fail
  (with_reducible refine hd.mono ?_)
  clear hd
  rintro e w4 ⟨rfl, S7⟩
  have S8 : Sat G w4 (blk z #[.int .i64 id, .int .i64 1, .int .i64 1, .int .i64 0, .int .i64 0, .int .i64 0, .int .i64 0, .int .i64 0, .int .i64 0, .int .i64 0, .int .i64 0] 160 :: blk g #[.int .i64 ten, .int .i64 quo, v, .slice (some ⟨b, 0, none⟩) N cap, .int .i64 last] 114 :: blk b cur 3 :: ownS 160 11 v F.length (encs Ent.enc F) :: l) := S7
  clear S7
  go_upto_region 10 with fail
  refine wp_world S8 fun w5 S9 => ?_
  have S2 := S9.re [0, 1, 3, 2]
  have HBK : Hid (F.length + 1 ≤ 10001) := Lib.hid (by have := HFW.out; omega)
  clear S8 S9
  refine wp_act fun a0 ha0 => ?_
  have HSZ : a0.tmps.size = 65 := by rw [ha0]; rfl
  have E0 : a0.eval (.tmp 0) = .pointer (some ⟨g, 0, none⟩) := by rw [ha0]; rfl
  have E7 : a0.eval (.tmp 7) = .pointer (some ⟨z, 0, none⟩) := by rw [ha0]; rfl
  refine wp_region_J (by kernel_rfl) 11 (by kernel_rfl) [[], [], [1], [2], [3], [], [5], [4, 6], [0, 0, 1, 2, 3, 4, 5, 6, 7], [8, 0, 1, 2, 3, 4, 5, 6, 7], [9, 7, 7, 0, 1, 2, 3, 4, 5, 6, 7]] (by kernel_rfl) (by kernel_rfl) (fun f a' W => ∃ q v', HNo f ∧ a' = acts [(0, 39, .pointer (some ⟨g, 0, none⟩)), (1, 40, .pointer (some ⟨g, 0, none⟩)), (2, 41, .pointer (some ⟨g, 0, none⟩)), (3, 42, .pointer (some ⟨g, 2, none⟩)), (4, 43, v), (5, 44, .agg #[.int .i64 id, .int .i64 1, .int .i64 1, .int .i64 0, .int .i64 0, .int .i64 0, .int .i64 0, .int .i64 0, .int .i64 0, .int .i64 0, .int .i64 0]), (6, 45, .slice (some ⟨q, 0, none⟩) 1 1), (7, 46, v'), (8, 47, .pointer (some ⟨g, 0, none⟩)), (9, 48, .pointer (some ⟨g, 2, none⟩))] f a0 ∧ Sat G W (opt (f 6) (blk q #[.int .i64 id, .int .i64 1, .int .i64 1, .int .i64 0, .int .i64 0, .int .i64 0, .int .i64 0, .int .i64 0, .int .i64 0, .int .i64 0, .int .i64 0] 160) :: blk z #[.int .i64 id, .int .i64 1, .int .i64 1, .int .i64 0, .int .i64 0, .int .i64 0, .int .i64 0, .int .i64 0, .int .i64 0, .int .i64 0, .int .i64 0] 160 :: blk g #[.int .i64 ten, .int .i64 quo, cond (f 10) v' v, .slice (some ⟨b, 0, none⟩) N cap, .int .i64 last] 114 :: ownS 160 11 (cond (f 7) v' v) (cond (f 7) (F.length + 1) F.length) (cond (f 7) (encs Ent.enc F ++ Ent.enc (newE id)) (encs Ent.enc F)) :: blk b cur 3 :: l)) ?_ ?_ ?_
  · exact ⟨0, undef, (by unfold HNo; decide), rfl, S2.drew.opt0⟩
  · refine ⟨?_, ?_, ?_, ?_, ?_, ?_, ?_, ?_, ?_, ?_, ?_, trivial⟩
    · rintro f a' W h0 hd ⟨q, v', hh, rfl, S⟩
      refine wpOp_run (v := .pointer (some ⟨g, 0, none⟩)) rfl rfl (fun ρ hρ => ?_) ⟨q, v', hh, (acts_some 0 rfl (by kernel_rfl) (by kernel_rfl)).symm, S⟩
      have e0 : ρ (.tmp 0) = .pointer (some ⟨g, 0, none⟩) := by rw [hρ]; exact (acts_eval_tmp 0 (by kernel_rfl)).trans E0
      clear hρ
      go_simp
    · rintro f a' W h1 hd ⟨q, v', hh, rfl, S⟩
      refine wpOp_run (v := .pointer (some ⟨g, 0, none⟩)) rfl rfl (fun ρ hρ => ?_) ⟨q, v', hh, (acts_some 1 rfl (by kernel_rfl) (by kernel_rfl)).symm, S⟩
      have e0 : ρ (.tmp 0) = .pointer (some ⟨g, 0, none⟩) := by rw [hρ]; exact (acts_eval_tmp 0 (by kernel_rfl)).trans E0
      clear hρ
      go_simp
    · rintro f a' W h2 hd ⟨q, v', hh, rfl, S⟩
      refine wpOp_run (v := .pointer (some ⟨g, 0, none⟩)) rfl rfl (fun ρ hρ => ?_) ⟨q, v', hh, (acts_some 2 rfl (by kernel_rfl) (by kernel_rfl)).symm, S⟩
      have e0 : ρ (.tmp 40) = .pointer (some ⟨g, 0, none⟩) := by rw [hρ]; exact acts_eval_hit 1 rfl hd.1 (by rw [HSZ]; rfl) (by kernel_rfl)
      clear hρ
      go_simp
    · rintro f a' W h3 hd ⟨q, v', hh, rfl, S⟩
      refine wpOp_run (v := .pointer (some ⟨g, 2, none⟩)) rfl rfl (fun ρ hρ => ?_) ⟨q, v', hh, (acts_some 3 rfl (by kernel_rfl) (by kernel_rfl)).symm, S⟩
      have e0 : ρ (.tmp 41) = .pointer (some ⟨g, 0, none⟩) := by rw [hρ]; exact acts_eval_hit 2 rfl hd.1 (by rw [HSZ]; rfl) (by kernel_rfl)
      clear hρ
      go_simp
    · rintro f a' W h4 hd ⟨q, v', hh, rfl, S⟩
      (have z7 := no_of_r hh.2.1 h4; have z10 := no_of_r hh.2.2 z7)
      refine wpOp_run (v := v) rfl rfl (fun ρ hρ => ?_) ⟨q, v', ⟨hh.1, fun _ => rfl, hh.2.2⟩, (acts_some 4 rfl (by kernel_rfl) (by kernel_rfl)).symm, S⟩
      have e0 : ρ (.tmp 42) = .pointer (some ⟨g, 2, none⟩) := by rw [hρ]; exact acts_eval_hit 3 rfl hd.1 (by rw [HSZ]; rfl) (by kernel_rfl)
      clear hρ
      (have hcl : W.cell? ⟨g, 2, none⟩ = some v := (by have := S.pull2.cell 2; rw [z10] at this; exact this))
      go_simp
    · rintro f a' W h5 hd ⟨q, v', hh, rfl, S⟩
      refine wpOp_list rfl ?_
      refine st_load rfl _ _ rfl _ ((acts_eval_tmp 7 (by kernel_rfl)).trans E7) _ _ (S.swap) _ rfl rfl rfl ?_
      exact ⟨q, v', hh, (acts_some 5 rfl (by kernel_rfl) (by kernel_rfl)).symm, S⟩
    · rintro f a' W h6 hd ⟨q, v', hh, rfl, S⟩
      (have z7 := no_of_r hh.1 h6)
      refine wpOp_mem (v := .slice (some ⟨W.heap.size, 0, none⟩) 1 1) (w' := W.alloc (.cells #[.int .i64 id, .int .i64 1, .int .i64 1, .int .i64 0, .int .i64 0, .int .i64 0, .int .i64 0, .int .i64 0, .int .i64 0, .int .i64 0, .int .i64 0] 160)) rfl rfl (fun ρ hρ => ?_) (⟨W.heap.size, v', ⟨fun _ => rfl, hh.2⟩, acts_swap (by simp only [acts, h6, Bool.false_eq_true, if_false]) (k := 6) rfl (by kernel_rfl) (by kernel_rfl), Sat.optI rfl (S.newBlk _ _).drop2⟩)
      have e0 : ρ (.tmp 44) = .agg #[.int .i64 id, .int .i64 1, .int .i64 1, .int .i64 0, .int .i64 0, .int .i64 0, .int .i64 0, .int .i64 0, .int .i64 0, .int .i64 0, .int .i64 0] := by rw [hρ]; exact acts_eval_hit 5 rfl hd.1 (by rw [HSZ]; rfl) (by kernel_rfl)
      clear hρ
      go_simp
    · rintro f a' W h7 hd ⟨q, v', hh, rfl, S⟩
      have q43 : (acts [(0, 39, .pointer (some ⟨g, 0, none⟩)), (1, 40, .pointer (some ⟨g, 0, none⟩)), (2, 41, .pointer (some ⟨g, 0, none⟩)), (3, 42, .pointer (some ⟨g, 2, none⟩)), (4, 43, v), (5, 44, .agg #[.int .i64 id, .int .i64 1, .int .i64 1, .int .i64 0, .int .i64 0, .int .i64 0, .int .i64 0, .int .i64 0, .int .i64 0, .int .i64 0, .int .i64 0]), (6, 45, .slice (some ⟨q, 0, none⟩) 1 1), (7, 46, v'), (8, 47, .pointer (some ⟨g, 0, none⟩)), (9, 48, .pointer (some ⟨g, 2, none⟩))] f a0).eval (.tmp 43) = v := acts_eval_hit 4 rfl hd.1 (by rw [HSZ]; rfl) (by kernel_rfl)
      have q45 : (acts [(0, 39, .pointer (some ⟨g, 0, none⟩)), (1, 40, .pointer (some ⟨g, 0, none⟩)), (2, 41, .pointer (some ⟨g, 0, none⟩)), (3, 42, .pointer (some ⟨g, 2, none⟩)), (4, 43, v), (5, 44, .agg #[.int .i64 id, .int .i64 1, .int .i64 1, .int .i64 0, .int .i64 0, .int .i64 0, .int .i64 0, .int .i64 0, .int .i64 0, .int .i64 0, .int .i64 0]), (6, 45, .slice (some ⟨q, 0, none⟩) 1 1), (7, 46, v'), (8, 47, .pointer (some ⟨g, 0, none⟩)), (9, 48, .pointer (some ⟨g, 2, none⟩))] f a0).eval (.tmp 45) = .slice (some ⟨q, 0, none⟩) 1 1 := acts_eval_hit 6 rfl hd.2.1 (by rw [HSZ]; rfl) (by kernel_rfl)
      (have z10 := no_of_r hh.2.2 h7; simp only [hd.2.1, h7, z10, cond_false] at S; have S2 := (opt_iff.1 S).pull3; refine wpOp_list rfl ?_; refine st_append rfl _ _ 112 rfl 160 _ 11 88 Tryz.underlying112 info_one rfl (by omega) v F.length (encs Ent.enc F) q43 S2 ⟨q, 0, none⟩ 1 1 (Ent.enc (newE id)) q45 rfl (fun j u hj => blk_cells (opt_iff.1 S) j u hj) rfl (Nat.le_trans HBK.out (by decide)) (by have := HBK.out; omega) ?_; intro v2 w2 S3; refine ⟨q, v2, ⟨fun _ => hd.2.1, fun _ => hd.1, fun _ => rfl⟩, acts_swap (by simp only [acts, h7, Bool.false_eq_true, if_false]) (k := 7) rfl (by kernel_rfl) (by kernel_rfl), ?_⟩; show Sat G w2 (opt (f 6) _ :: _ :: blk g #[_, _, cond (f 10) v2 v, _, _] _ :: _); rw [hd.2.1, z10]; exact opt_iff.2 S3.push3)
    · rintro f a' W h8 hd ⟨q, v', hh, rfl, S⟩
      refine wpOp_run (v := .pointer (some ⟨g, 0, none⟩)) rfl rfl (fun ρ hρ => ?_) ⟨q, v', hh, (acts_some 8 rfl (by kernel_rfl) (by kernel_rfl)).symm, S⟩
      have e0 : ρ (.tmp 39) = .pointer (some ⟨g, 0, none⟩) := by rw [hρ]; exact acts_eval_hit 0 rfl hd.1 (by rw [HSZ]; rfl) (by kernel_rfl)
      clear hρ
      go_simp
    · rintro f a' W h9 hd ⟨q, v', hh, rfl, S⟩
      refine wpOp_run (v := .pointer (some ⟨g, 2, none⟩)) rfl rfl (fun ρ hρ => ?_) ⟨q, v', hh, (acts_some 9 rfl (by kernel_rfl) (by kernel_rfl)).symm, S⟩
      have e0 : ρ (.tmp 47) = .pointer (some ⟨g, 0, none⟩) := by rw [hρ]; exact acts_eval_hit 8 rfl hd.1 (by rw [HSZ]; rfl) (by kernel_rfl)
      clear hρ
      go_simp
    · rintro f a' W h10 hd ⟨q, v', hh, rfl, S⟩
      have q48 : (acts [(0, 39, .pointer (some ⟨g, 0, none⟩)), (1, 40, .pointer (some ⟨g, 0, none⟩)), (2, 41, .pointer (some ⟨g, 0, none⟩)), (3, 42, .pointer (some ⟨g, 2, none⟩)), (4, 43, v), (5, 44, .agg #[.int .i64 id, .int .i64 1, .int .i64 1, .int .i64 0, .int .i64 0, .int .i64 0, .int .i64 0, .int .i64 0, .int .i64 0, .int .i64 0, .int .i64 0]), (6, 45, .slice (some ⟨q, 0, none⟩) 1 1), (7, 46, v'), (8, 47, .pointer (some ⟨g, 0, none⟩)), (9, 48, .pointer (some ⟨g, 2, none⟩))] f a0).eval (.tmp 48) = .pointer (some ⟨g, 2, none⟩) := acts_eval_hit 9 rfl hd.1 (by rw [HSZ]; rfl) (by kernel_rfl)
      have q46 : (acts [(0, 39, .pointer (some ⟨g, 0, none⟩)), (1, 40, .pointer (some ⟨g, 0, none⟩)), (2, 41, .pointer (some ⟨g, 0, none⟩)), (3, 42, .pointer (some ⟨g, 2, none⟩)), (4, 43, v), (5, 44, .agg #[.int .i64 id, .int .i64 1, .int .i64 1, .int .i64 0, .int .i64 0, .int .i64 0, .int .i64 0, .int .i64 0, .int .i64 0, .int .i64 0, .int .i64 0]), (6, 45, .slice (some ⟨q, 0, none⟩) 1 1), (7, 46, v'), (8, 47, .pointer (some ⟨g, 0, none⟩)), (9, 48, .pointer (some ⟨g, 2, none⟩))] f a0).eval (.tmp 46) = v' := acts_eval_hit 7 rfl hd.2.1 (by rw [HSZ]; rfl) (by kernel_rfl)
      (simp only [hd.2.1, h10, cond_true, cond_false] at S; obtain ⟨A', c', rfl, -⟩ := (S.pull3).ownSlice; refine wpOp_list rfl ?_; refine st_set rfl _ _ _ rfl _ _ _ q48 q46 rfl _ _ S.pull2 (by kernel_rfl) (by simp) fun W' S' => ?_; refine ⟨q, _, ⟨hh.1, hh.2.1, fun _ => hd.2.1⟩, (acts_none 10 (by kernel_rfl)).symm, ?_⟩; show Sat G W' (_ :: _ :: _ :: ownS _ _ (cond (f 7) _ _) (cond (f 7) _ _) (cond (f 7) _ _) :: _); rw [hd.2.1]; exact S'.push2)
  rintro a' W ⟨q, v', -, rfl, S3⟩
  subst ha0
  simp only [acts, if_true, Act.put, List.setIfInBounds_toArray, List.set_cons_succ, List.set_cons_zero]
  have S4 := (S3.drop.drop).re [2, 0, 1]
  clear S3 S2 HSZ E0 E7
  go_upto_region 11 with fail
  refine wp_world S4 fun w6 S2 => ?_
  clear S4
  refine wp_act fun a0 ha0 => ?_
  have HSZ : a0.tmps.size = 65 := by rw [ha0]; rfl
  have E0 : a0.eval (.tmp 0) = .pointer (some ⟨g, 0, none⟩) := by rw [ha0]; rfl
  have E6 : a0.eval (.tmp 6) = .int .i64 id := by rw [ha0]; rfl
  refine wp_region_J (by kernel_rfl) 12 (by kernel_rfl) [[], [0], [1], [2], [], [], [4, 5], [3, 6], [7], [8], [3, 6, 0, 1, 2, 3, 4, 5, 6, 7, 8, 9], [10, 9, 6, 0, 1, 2, 3, 4, 5, 6, 7, 8, 9]] (by kernel_rfl) (by kernel_rfl) (fun f a' W => (f 11 = true → f 8 = true) ∧ a' = acts [(0, 49, .pointer (some ⟨g, 0, none⟩)), (1, 50, .pointer (some ⟨g, 0, none⟩)), (2, 51, .pointer (some ⟨g, 3, none⟩)), (3, 52, .slice (some ⟨b, 0, none⟩) N cap), (4, 53, .pointer (some ⟨g, 0, none⟩)), (5, 54, .int .i64 id), (6, 55, .int .i64 T), (7, 56, .pointer (some ⟨b, T, none⟩)), (8, 57, .int .i64 x), (9, 58, .int .i64 (x + 1)), (10, 59, .pointer (some ⟨b, T, none⟩))] f a0 ∧ Sat G W (blk b (cond (f 11) (cur.setIfInBounds T (.int .i64 (x + 1))) cur) 3 :: blk g #[.int .i64 ten, .int .i64 quo, v', .slice (some ⟨b, 0, none⟩) N cap, .int .i64 last] 114 :: ownS 160 11 v' (F.length + 1) (encs Ent.enc F ++ Ent.enc (newE id)) :: l)) ?_ ?_ ?_
  · exact ⟨fun h => (by cases h), rfl, S2.drew⟩
  · refine ⟨?_, ?_, ?_, ?_, ?_, ?_, ?_, ?_, ?_, ?_, ?_, ?_, trivial⟩
    · rintro f a' W h0 hd ⟨hh, rfl, S⟩
      refine wpOp_run (v := .pointer (some ⟨g, 0, none⟩)) rfl rfl (fun ρ hρ => ?_) ⟨hh, (acts_some 0 rfl (by kernel_rfl) (by kernel_rfl)).symm, S⟩
      have e0 : ρ (.tmp 0) = .pointer (some ⟨g, 0, none⟩) := by rw [hρ]; exact (acts_eval_tmp 0 (by kernel_rfl)).trans E0
      clear hρ
      go_simp
    · rintro f a' W h1 hd ⟨hh, rfl, S⟩
      refine wpOp_run (v := .pointer (some ⟨g, 0, none⟩)) rfl rfl (fun ρ hρ => ?_) ⟨hh, (acts_some 1 rfl (by kernel_rfl) (by kernel_rfl)).symm, S⟩
      have e0 : ρ (.tmp 49) = .pointer (some ⟨g, 0, none⟩) := by rw [hρ]; exact acts_eval_hit 0 rfl hd.1 (by rw [HSZ]; rfl) (by kernel_rfl)
      clear hρ
      go_simp
    · rintro f a' W h2 hd ⟨hh, rfl, S⟩
      refine wpOp_run (v := .pointer (some ⟨g, 3, none⟩)) rfl rfl (fun ρ hρ => ?_) ⟨hh, (acts_some 2 rfl (by kernel_rfl) (by kernel_rfl)).symm, S⟩
      have e0 : ρ (.tmp 50) = .pointer (some ⟨g, 0, none⟩) := by rw [hρ]; exact acts_eval_hit 1 rfl hd.1 (by rw [HSZ]; rfl) (by kernel_rfl)
      clear hρ
      go_simp
    · rintro f a' W h3 hd ⟨hh, rfl, S⟩
      refine wpOp_run (v := .slice (some ⟨b, 0, none⟩) N cap) rfl rfl (fun ρ hρ => ?_) ⟨hh, (acts_some 3 rfl (by kernel_rfl) (by kernel_rfl)).symm, S⟩
      have e0 : ρ (.tmp 51) = .pointer (some ⟨g, 3, none⟩) := by rw [hρ]; exact acts_eval_hit 2 rfl hd.1 (by rw [HSZ]; rfl) (by kernel_rfl)
      clear hρ
      (have z : W.cell? ⟨g, 3, none⟩ = some (.slice (some ⟨b, 0, none⟩) N cap) := S.swap.cell 3)
      go_simp
    · rintro f a' W h4 hd ⟨hh, rfl, S⟩
      refine wpOp_run (v := .pointer (some ⟨g, 0, none⟩)) rfl rfl (fun ρ hρ => ?_) ⟨hh, (acts_some 4 rfl (by kernel_rfl) (by kernel_rfl)).symm, S⟩
      have e0 : ρ (.tmp 0) = .pointer (some ⟨g, 0, none⟩) := by rw [hρ]; exact (acts_eval_tmp 0 (by kernel_rfl)).trans E0
      clear hρ
      go_simp
    · rintro f a' W h5 hd ⟨hh, rfl, S⟩
      refine wpOp_run (v := .int .i64 id) rfl rfl (fun ρ hρ => ?_) ⟨hh, (acts_some 5 rfl (by kernel_rfl) (by kernel_rfl)).symm, S⟩
      have e0 : ρ (.tmp 6) = .int .i64 id := by rw [hρ]; exact (acts_eval_tmp 6 (by kernel_rfl)).trans E6
      clear hρ
      go_simp
    · rintro f a' W h6 hd ⟨hh, rfl, S⟩
      refine wpOp_call rfl rfl (fun ρ hρ => ?_) ((rg_owner (S.swap.cell 0) id)) ?_
      · skip
        have e0 : ρ (.tmp 53) = .pointer (some ⟨g, 0, none⟩) := by rw [hρ]; exact acts_eval_hit 4 rfl hd.1 (by rw [HSZ]; rfl) (by kernel_rfl)
        have e1 : ρ (.tmp 54) = .int .i64 id := by rw [hρ]; exact acts_eval_hit 5 rfl hd.2.1 (by rw [HSZ]; rfl) (by kernel_rfl)
        have ef : ρ (.func 84) = .func (.func 84) #[] #[] := by rw [hρ]; rfl
        clear hρ
        go_simp
      · (rintro e W' ⟨rfl, rfl⟩; rw [HOT.out]; exact ⟨_, rfl, hh, acts_swap rfl (k := 6) rfl (by kernel_rfl) (by kernel_rfl), S⟩)
    · rintro f a' W h7 hd ⟨hh, rfl, S⟩
      refine wpOp_run (v := .pointer (some ⟨b, T, none⟩)) rfl rfl (fun ρ hρ => ?_) ⟨hh, (acts_some 7 rfl (by kernel_rfl) (by kernel_rfl)).symm, S⟩
      have e0 : ρ (.tmp 52) = .slice (some ⟨b, 0, none⟩) N cap := by rw [hρ]; exact acts_eval_hit 3 rfl hd.1 (by rw [HSZ]; rfl) (by kernel_rfl)
      have e1 : ρ (.tmp 55) = .int .i64 T := by rw [hρ]; exact acts_eval_hit 6 rfl hd.2.1 (by rw [HSZ]; rfl) (by kernel_rfl)
      clear hρ
      go_simp
    · rintro f a' W h8 hd ⟨hh, rfl, S⟩
      (have z11 := no_of_r hh h8)
      refine wpOp_run (v := .int .i64 x) rfl rfl (fun ρ hρ => ?_) ⟨fun _ => rfl, (acts_some 8 rfl (by kernel_rfl) (by kernel_rfl)).symm, S⟩
      have e0 : ρ (.tmp 56) = .pointer (some ⟨b, T, none⟩) := by rw [hρ]; exact acts_eval_hit 7 rfl hd.1 (by rw [HSZ]; rfl) (by kernel_rfl)
      clear hρ
      (have z : W.cell? ⟨b, T, none⟩ = some (.int .i64 x) := (by have z := S.cell T; rw [z11] at z; exact z.trans HCX.out))
      go_simp
    · rintro f a' W h9 hd ⟨hh, rfl, S⟩
      refine wpOp_run (v := .int .i64 (x + 1)) rfl rfl (fun ρ hρ => ?_) ⟨hh, (acts_some 9 rfl (by kernel_rfl) (by kernel_rfl)).symm, S⟩
      have e0 : ρ (.tmp 57) = .int .i64 x := by rw [hρ]; exact acts_eval_hit 8 rfl hd.1 (by rw [HSZ]; rfl) (by kernel_rfl)
      have ec : ∀ v, ρ (.const v) = v := by rw [hρ]; exact fun _ => rfl
      clear hρ
      (have hwr : IntKind.i64.wrap (x + 1) = x + 1 := IntWalk.i64_in _ (by omega))
      go_simp
    · rintro f a' W h10 hd ⟨hh, rfl, S⟩
      refine wpOp_run (v := .pointer (some ⟨b, T, none⟩)) rfl rfl (fun ρ hρ => ?_) ⟨hh, (acts_some 10 rfl (by kernel_rfl) (by kernel_rfl)).symm, S⟩
      have e0 : ρ (.tmp 52) = .slice (some ⟨b, 0, none⟩) N cap := by rw [hρ]; exact acts_eval_hit 3 rfl hd.1 (by rw [HSZ]; rfl) (by kernel_rfl)
      have e1 : ρ (.tmp 55) = .int .i64 T := by rw [hρ]; exact acts_eval_hit 6 rfl hd.2.1 (by rw [HSZ]; rfl) (by kernel_rfl)
      clear hρ
      go_simp
    · rintro f a' W h11 hd ⟨hh, rfl, S⟩
      have q59 : (acts [(0, 49, .pointer (some ⟨g, 0, none⟩)), (1, 50, .pointer (some ⟨g, 0, none⟩)), (2, 51, .pointer (some ⟨g, 3, none⟩)), (3, 52, .slice (some ⟨b, 0, none⟩) N cap), (4, 53, .pointer (some ⟨g, 0, none⟩)), (5, 54, .int .i64 id), (6, 55, .int .i64 T), (7, 56, .pointer (some ⟨b, T, none⟩)), (8, 57, .int .i64 x), (9, 58, .int .i64 (x + 1)), (10, 59, .pointer (some ⟨b, T, none⟩))] f a0).eval (.tmp 59) = .pointer (some ⟨b, T, none⟩) := acts_eval_hit 10 rfl hd.1 (by rw [HSZ]; rfl) (by kernel_rfl)
      have q58 : (acts [(0, 49, .pointer (some ⟨g, 0, none⟩)), (1, 50, .pointer (some ⟨g, 0, none⟩)), (2, 51, .pointer (some ⟨g, 3, none⟩)), (3, 52, .slice (some ⟨b, 0, none⟩) N cap), (4, 53, .pointer (some ⟨g, 0, none⟩)), (5, 54, .int .i64 id), (6, 55, .int .i64 T), (7, 56, .pointer (some ⟨b, T, none⟩)), (8, 57, .int .i64 x), (9, 58, .int .i64 (x + 1)), (10, 59, .pointer (some ⟨b, T, none⟩))] f a0).eval (.tmp 58) = .int .i64 (x + 1) := acts_eval_hit 9 rfl hd.2.1 (by rw [HSZ]; rfl) (by kernel_rfl)
      (simp only [h11, cond_false] at S; refine wpOp_list rfl ?_; refine st_set rfl _ _ _ rfl _ _ _ q59 q58 rfl _ _ S (by kernel_rfl) HTC.out fun W' S' => ?_; exact ⟨fun _ => hd.2.2.2.2.2.2.2.2.2.2.2.1, (acts_none 11 (by kernel_rfl)).symm, S'⟩)
  rintro a' W ⟨-, rfl, S3⟩
  subst ha0
  simp only [acts, if_true, Act.put, List.setIfInBounds_toArray, List.set_cons_succ, List.set_cons_zero]
  clear S2 HSZ E0 E6
  have S5 := S3.swap
  clear S3
  have d4 := S5.cell 4
  have f4 := S5.frozen 4
  have S6 := S5.setCell 4 (.int .i64 id)
  have HS := Lib.hid S6
  clear S5 S6
  go_wp2_with fail
  refine hK.out _ _ ⟨rfl, rg_iff.2 ⟨v', .slice (some ⟨b, 0, none⟩) N cap, ?_⟩⟩
  have S7 := HS.out
  have hset := HLA.out.set (i := T) HTL.out (x + 1)
  have S8 := (S7.re [1, 0, 2]).layClose (cur := cur.setIfInBounds T (.int .i64 (x + 1))) (F := L.set T (x + 1)) (by simpa [lenc_r, setMid] using hset) HCP.out N (by rw [List.length_set]; exact HN.out)
  rw [HOT.out, show (T : Int).toNat = T by omega]
  have e1 : (F ++ [newE id]).length = F.length + 1 := by simp
  rw [e1, encs_append, encs_one]
  exact S8.re [1, 2, 0]
theorem rg_open (H : Sat G w (rgA g ten quo F L last :: l)) (hw : RWf ten quo F L last) (ht : TabG G) (tick : Int) : Calls Tryz.prog 74 #[.pointer (some ⟨g, 0, none⟩), .int .i64 tick] w fun e w' => e = .returned (.tuple #[.int .i64 (rOpen ten quo F L last tick).id, .int .i64 (rOpen ten quo F L last tick).err]) ∧ Sat G w' (rgA g ten quo (rOpen ten quo F L last tick).F (rOpen ten quo F L last tick).L (rOpen ten quo F L last tick).last :: l) := by
  by_cases h : idOf tick = 0 ∨ idOf tick ≤ last
  · refine (rg_open_early H tick h hw.last0).mono ?_
    rintro e w' ⟨rfl, rfl⟩
    have e1 : (rOpen ten quo F L last tick).F = F ∧ (rOpen ten quo F L last tick).L = L ∧ (rOpen ten quo F L last tick).last = last := by
      unfold rOpen
      rcases h with h | h
      · rw [if_pos h]; exact ⟨rfl, rfl, rfl⟩
      · by_cases h0 : idOf tick = 0
        · rw [if_pos h0]; exact ⟨rfl, rfl, rfl⟩
        · rw [if_neg h0, if_pos h]; exact ⟨rfl, rfl, rfl⟩
    rw [e1.1, e1.2.1, e1.2.2]
    exact ⟨rfl, H⟩
  · by_cases h2 : quo ≤ liveAt L (ownT (idOf tick) ten)
    · have e1 : (rOpen ten quo F L last tick).F = F ∧ (rOpen ten quo F L last tick).L = L ∧ (rOpen ten quo F L last tick).last = last := by
        unfold rOpen
        rw [if_neg (fun e => h (.inl e)), if_neg (fun e => h (.inr e)), if_pos h2]; exact ⟨rfl, rfl, rfl⟩
      exact rg_open_full H hw ht tick (fun e => h (.inl e)) (fun e => h (.inr e)) h2
    · exact rg_open_ok H hw ht tick (fun e => h (.inl e)) (fun e => h (.inr e)) h2
end
end Go.Proofs.YtcecfhfbcdbofaaGreatDoor
set_option linter.unusedSimpArgs false
set_option linter.unusedVariables false
namespace Go.Proofs.YtcecfhfbcdbofaaGreatDoor
open Go.RowKit

def cmpR (a b : Int) : Int := if a < b then -1 else if b < a then 1 else 0
section
variable {G : Gnd} {w w' : World} {l : List Asrt} {g : Nat} {ten quo last : Int} {F : List Ent} {L : List Int}
theorem cm_nan (a : Int) (w : World) : Calls Tryz.prog 119 #[.int .i64 a] w fun e w' => e = .returned (.bool false) ∧ w = w' := by
  refine calls_any fun K hK => ?_
  have z : (a != a) = false := by simp
  go_enter Tryz.func119, Tryz.ntmps119
  go_wp2_with fail
  exact hK.out _ _ ⟨rfl, rfl⟩
theorem cm_compare (a b : Int) (w : World) : Calls Tryz.prog 101 #[.int .i64 a, .int .i64 b] w fun e w' => e = .returned (.int .i64 (cmpR a b)) ∧ w = w' := by
  refine calls_any fun K hK => ?_
  unfold cmpR at hK
  have h1 := fun W => cm_nan a W
  have h2 := fun W => cm_nan b W
  by_cases a1 : a < b
  · rw [if_pos a1] at hK
    go_enter Tryz.func101, Tryz.ntmps101
    go_wp2_with fail
    (with_reducible refine (h1 _).mono ?_); rintro e w1 ⟨rfl, rfl⟩; go_wp2_with fail; (with_reducible refine (h2 _).mono ?_); rintro e w1 ⟨rfl, rfl⟩; go_wp2_with fail
    exact hK.out _ _ ⟨rfl, rfl⟩
  · by_cases a2 : b < a
    · rw [if_neg a1, if_pos a2] at hK
      go_enter Tryz.func101, Tryz.ntmps101
      go_wp2_with fail
      (with_reducible refine (h1 _).mono ?_); rintro e w1 ⟨rfl, rfl⟩; go_wp2_with fail; (with_reducible refine (h2 _).mono ?_); rintro e w1 ⟨rfl, rfl⟩; go_wp2_with fail
      exact hK.out _ _ ⟨rfl, rfl⟩
    · rw [if_neg a1, if_neg a2] at hK
      go_enter Tryz.func101, Tryz.ntmps101
      go_wp2_with fail
      (with_reducible refine (h1 _).mono ?_); rintro e w1 ⟨rfl, rfl⟩; go_wp2_with fail; (with_reducible refine (h2 _).mono ?_); rintro e w1 ⟨rfl, rfl⟩; go_wp2_with fail
      exact hK.out _ _ ⟨rfl, rfl⟩
theorem fi_cmp (H : Sat G w l) (a n c0 c1 c2 c3 c4 c5 c6 c7 c8 id : Int) : Calls Tryz.prog 100 #[.agg #[.int .i64 a, .int .i64 n, .int .i64 c0, .int .i64 c1, .int .i64 c2, .int .i64 c3, .int .i64 c4, .int .i64 c5, .int .i64 c6, .int .i64 c7, .int .i64 c8], .int .i64 id] w fun e w' => e = .returned (.int .i64 (cmpR a id)) ∧ Sat G w' l := by
  refine calls_any fun K hK => ?_
  have S := H.newBlk #[.int .i64 a, .int .i64 n, .int .i64 c0, .int .i64 c1, .int .i64 c2, .int .i64 c3, .int .i64 c4, .int .i64 c5, .int .i64 c6, .int .i64 c7, .int .i64 c8] 160
  have c0 := S.cell 0
  have hc := fun W => cm_compare a id W
  have HS := Lib.hid S
  clear H S
  go_enter Tryz.func100, Tryz.ntmps100
  go_wp2_with fail
  (with_reducible refine (hc _).mono ?_)
  rintro e w1 ⟨rfl, rfl⟩
  go_wp2_with fail
  exact hK.out _ _ ⟨rfl, HS.out.drop⟩
theorem nine {C : List Int} (h : C.length = 9) : ∃ c0 c1 c2 c3 c4 c5 c6 c7 c8, C = [c0, c1, c2, c3, c4, c5, c6, c7, c8] := by
  match C, h with
  | [c0, c1, c2, c3, c4, c5, c6, c7, c8], _ => exact ⟨c0, c1, c2, c3, c4, c5, c6, c7, c8, rfl⟩
def Rising (F : List Ent) : Prop := F.Pairwise fun x y => x.id < y.id
theorem Rising.lt (h : Rising F) {i j : Nat} {x y : Ent} (hx : F[i]? = some x) (hy : F[j]? = some y) (hij : i < j) : x.id < y.id := by
  obtain ⟨hi, rfl⟩ := List.getElem?_eq_some_iff.1 hx
  obtain ⟨hj, rfl⟩ := List.getElem?_eq_some_iff.1 hy
  exact List.pairwise_iff_getElem.1 h i j hi hj hij
/-- What a search says: the place, or that there is none. -/
def Found (F : List Ent) (id : Int) (i : Nat) (ok : Bool) : Prop := if ok then ∃ x, F[i]? = some x ∧ x.id = id else ∀ x ∈ F, x.id ≠ id
/-- The eleven cells of one. -/
theorem one_cells {cap cur i b} {x : Ent} (La : Lay Ent.enc 11 cap cur F) (S : Sat G w (blk b cur 160 :: l)) (hx : F[i]? = some x) {c0 : Int} {c1 : Int} {c2 : Int} {c3 : Int} {c4 : Int} {c5 : Int} {c6 : Int} {c7 : Int} {c8 : Int} (hC : x.C = [c0, c1, c2, c3, c4, c5, c6, c7, c8]) :
    w.cell? ⟨b, i * 11, none⟩ = some (.int .i64 x.id) ∧ w.cell? ⟨b, i * 11 + 1, none⟩ = some (.int .i64 x.n) ∧ w.cell? ⟨b, i * 11 + 2, none⟩ = some (.int .i64 c0) ∧ w.cell? ⟨b, i * 11 + 3, none⟩ = some (.int .i64 c1) ∧ w.cell? ⟨b, i * 11 + 4, none⟩ = some (.int .i64 c2) ∧ w.cell? ⟨b, i * 11 + 5, none⟩ = some (.int .i64 c3) ∧ w.cell? ⟨b, i * 11 + 6, none⟩ = some (.int .i64 c4) ∧ w.cell? ⟨b, i * 11 + 7, none⟩ = some (.int .i64 c5) ∧ w.cell? ⟨b, i * 11 + 8, none⟩ = some (.int .i64 c6) ∧ w.cell? ⟨b, i * 11 + 9, none⟩ = some (.int .i64 c7) ∧ w.cell? ⟨b, i * 11 + 10, none⟩ = some (.int .i64 c8) := by
  have h := fun j (hj : j < 11) => (S.cell (i * 11 + j)).trans (La.get hx hj)
  simp only [Ent.enc, hC, ints_r, List.map_cons, List.map_nil] at h
  exact ⟨h 0 (by decide), h 1 (by decide), h 2 (by decide), h 3 (by decide), h 4 (by decide), h 5 (by decide), h 6 (by decide), h 7 (by decide), h 8 (by decide), h 9 (by decide), h 10 (by decide)⟩
set_option maxHeartbeats 8000000 in
set_option maxRecDepth 100000 in
theorem bs_find {v : Value} (H : Sat G w (ownS 160 11 v F.length (encs Ent.enc F) :: l)) (hF : Rising F) (hn : F.length ≤ 10001) (id : Int) :
    Calls Tryz.prog 99 #[v, .int .i64 id, .func (.func 100) #[] #[]] w fun e w' => ∃ i ok, e = .returned (.tuple #[.int .i64 (i : Nat), .bool ok]) ∧ i ≤ F.length ∧ Found F id i ok ∧ Sat G w' (ownS 160 11 v F.length (encs Ent.enc F) :: l) := by
  refine calls_any fun K hK => ?_
  by_cases h0 : F.length = 0
  · have hF0 : F = [] := List.eq_nil_of_length_eq_zero h0
    subst hF0
    obtain ⟨A, c, rfl, -⟩ := H.ownSlice
    have HH := Lib.hid H
    clear H h0
    go_enter Tryz.func99, Tryz.ntmps99
    go_wp2_with fail
    go_loopw [9, 10] (fun i j wr => i = .int .i64 0 ∧ j = .int .i64 0 ∧ wr = w) (fun _ _ _ => 0)
    case atStart => exact ⟨rfl, rfl, rfl⟩
    case round =>
      obtain ⟨rfl, rfl, rfl⟩ := hrel
      go_wp2_with fail
      exact hK.out _ _ ⟨0, false, rfl, Nat.le_refl _, (fun x hx => by cases hx), HH.out⟩
  obtain ⟨b, cap, cur, rfl, hcap, La, S⟩ := H.layOpen ent_len (by omega)
  have hcc : cap ≤ 9223372036854775807 := hcap
  have hlc := La.len
  have HLA := Lib.hid La
  have HCP := Lib.hid hcap
  obtain ⟨N, hN⟩ : ∃ N, N = F.length := ⟨_, rfl⟩
  rw [← hN] at hlc hn h0 ⊢
  have HN := Lib.hid hN
  have HF := Lib.hid hF
  clear H La hcap hN hF
  go_enter Tryz.func99, Tryz.ntmps99
  go_wp2_with fail
  go_loopw [9, 10] (fun i j wr => ∃ (p q : Nat), i = .int .i64 p ∧ j = .int .i64 q ∧ p ≤ q ∧ q ≤ N ∧ (∀ k x, F[k]? = some x → k < p → x.id < id) ∧ (∀ k x, F[k]? = some x → q ≤ k → id ≤ x.id) ∧ Sat G wr (blk b cur 160 :: l)) (fun i j _ => (intOf j).toNat - (intOf i).toNat)
  case atStart => exact ⟨0, N, rfl, rfl, Nat.zero_le _, Nat.le_refl _, (fun k x _ h => absurd h (Nat.not_lt_zero _)), (fun k x hk h => by have := (List.getElem?_eq_some_iff.1 hk).1; rw [HN.out] at h; omega), S⟩
  case round =>
    obtain ⟨p, q, rfl, rfl, hpq, hqN, hlo, hhi, S1⟩ := hrel
    have HLO := Lib.hid hlo
    have HHI := Lib.hid hhi
    clear hlo hhi S
    by_cases hlt : p < q
    · have hm1 : p ≤ (p + q) / 2 := by omega
      have hm2 : (p + q) / 2 < q := by omega
      obtain ⟨x, hx⟩ : ∃ x, F[(p + q) / 2]? = some x := ⟨_, List.getElem?_eq_getElem (by rw [← HN.out]; omega)⟩
      obtain ⟨c0, c1, c2, c3, c4, c5, c6, c7, c8, hC⟩ := nine x.hC
      obtain ⟨d0, d1, d2, d3, d4, d5, d6, d7, d8, d9, d10⟩ := one_cells HLA.out S1 hx hC
      have HX := Lib.hid hx
      have hcmp := fi_cmp S1 x.id x.n c0 c1 c2 c3 c4 c5 c6 c7 c8 id
      have hmN : (p + q) / 2 < N := by omega
      have hlt2 : (p : Int) < (q : Int) := by omega
      unfold cmpR at hcmp
      clear hx hC S1
      by_cases a1 : x.id < id
      · rw [if_pos a1] at hcmp
        go_wp2_with fail; (with_reducible refine hcmp.mono ?_); clear hcmp d0 d1 d2 d3 d4 d5 d6 d7 d8 d9 d10; rintro e w1 ⟨rfl, S2⟩; go_wp2_with fail
        go_roundw
        case rel => exact ⟨(p + q) / 2 + 1, q, by go_num, rfl, by omega, hqN, (fun k y hk h => by
          by_cases e : k = (p + q) / 2
          · subst e
            have := HX.out.symm.trans hk
            simp only [Option.some.injEq] at this
            rw [← this]; exact a1
          · have := HF.out.lt hk HX.out (by omega)
            omega), HHI.out, S2⟩
        case measure => simp [intOf]; omega
      · have hle : id ≤ x.id := by omega
        have hcz : ¬ (cmpR x.id id < 0) := by unfold cmpR; rw [if_neg a1]; split <;> omega
        rw [if_neg a1] at hcmp
        by_cases a2 : id < x.id
        · rw [if_pos a2] at hcmp
          go_wp2_with fail; (with_reducible refine hcmp.mono ?_); clear hcmp d0 d1 d2 d3 d4 d5 d6 d7 d8 d9 d10; rintro e w1 ⟨rfl, S2⟩; go_wp2_with fail
          go_roundw
          case rel => exact ⟨p, (p + q) / 2, rfl, by go_num, by omega, by omega, HLO.out, (fun k y hk h => by
            by_cases e : k = (p + q) / 2
            · subst e
              have := HX.out.symm.trans hk
              simp only [Option.some.injEq] at this
              rw [← this]; exact hle
            · have := HF.out.lt HX.out hk (by omega)
              omega), S2⟩
          case measure => simp [intOf]; omega
        · rw [if_neg a2] at hcmp
          go_wp2_with fail; (with_reducible refine hcmp.mono ?_); clear hcmp d0 d1 d2 d3 d4 d5 d6 d7 d8 d9 d10; rintro e w1 ⟨rfl, S2⟩; go_wp2_with fail
          go_roundw
          case rel => exact ⟨p, (p + q) / 2, rfl, by go_num, by omega, by omega, HLO.out, (fun k y hk h => by
            by_cases e : k = (p + q) / 2
            · subst e
              have := HX.out.symm.trans hk
              simp only [Option.some.injEq] at this
              rw [← this]; exact hle
            · have := HF.out.lt HX.out hk (by omega)
              omega), S2⟩
          case measure => simp [intOf]; omega
    · obtain rfl : p = q := by omega
      by_cases hpN : p < N
      · obtain ⟨x, hx⟩ : ∃ x, F[p]? = some x := ⟨_, List.getElem?_eq_getElem (by rw [← HN.out]; omega)⟩
        obtain ⟨c0, c1, c2, c3, c4, c5, c6, c7, c8, hC⟩ := nine x.hC
        obtain ⟨d0, d1, d2, d3, d4, d5, d6, d7, d8, d9, d10⟩ := one_cells HLA.out S1 hx hC
        have HX := Lib.hid hx
        have hcmp := fi_cmp S1 x.id x.n c0 c1 c2 c3 c4 c5 c6 c7 c8 id
        have hge : id ≤ x.id := HHI.out p x hx (Nat.le_refl _)
        have hpN2 : (p : Int) < (N : Int) := by omega
        clear hx hC S1
        unfold cmpR at hcmp
        rw [if_neg (by omega)] at hcmp
        by_cases a2 : id < x.id
        · rw [if_pos a2] at hcmp
          go_wp2_with fail; (with_reducible refine hcmp.mono ?_); clear hcmp d0 d1 d2 d3 d4 d5 d6 d7 d8 d9 d10; rintro e w1 ⟨rfl, S2⟩; go_wp2_with fail
          have e := HN.out
          subst e
          refine hK.out _ _ ⟨p, false, rfl, hqN, (fun y hy e => ?_), S2.layClose HLA.out HCP.out F.length rfl⟩
          obtain ⟨k, hk⟩ := List.mem_iff_getElem?.1 hy
          by_cases h : k < p
          · have := HLO.out k y hk h; omega
          · by_cases e2 : k = p
            · subst e2
              have := HX.out.symm.trans hk
              simp only [Option.some.injEq] at this
              rw [← this] at e; omega
            · have := HF.out.lt HX.out hk (by omega); omega
        · rw [if_neg a2] at hcmp
          go_wp2_with fail; (with_reducible refine hcmp.mono ?_); clear hcmp d0 d1 d2 d3 d4 d5 d6 d7 d8 d9 d10; rintro e w1 ⟨rfl, S2⟩; go_wp2_with fail
          have e := HN.out
          subst e
          exact hK.out _ _ ⟨p, true, rfl, hqN, ⟨x, HX.out, by omega⟩, S2.layClose HLA.out HCP.out F.length rfl⟩
      · obtain rfl : p = N := by omega
        have HS := Lib.hid S1
        clear S1
        go_wp2_with fail
        have e := HN.out
        subst e
        refine hK.out _ _ ⟨F.length, false, rfl, Nat.le_refl _, (fun y hy e => ?_), HS.out.layClose HLA.out HCP.out F.length rfl⟩
        obtain ⟨k, hk⟩ := List.mem_iff_getElem?.1 hy
        have := HLO.out k y hk (List.getElem?_eq_some_iff.1 hk).1
        omega
theorem rg_find (H : Sat G w (rgA g ten quo F L last :: l)) (hF : Rising F) (hn : F.length ≤ 10001) (id : Int) :
    Calls Tryz.prog 80 #[.pointer (some ⟨g, 0, none⟩), .int .i64 id] w fun e w' => ∃ i ok, e = .returned (.tuple #[.int .i64 (i : Nat), .bool ok]) ∧ i ≤ F.length ∧ Found F id i ok ∧ Sat G w' (rgA g ten quo F L last :: l) := by
  refine calls_any fun K hK => ?_
  obtain ⟨v, u, S⟩ := rg_iff.1 H
  have c2 := S.cell 2
  have hb := bs_find S.swap hF hn id
  clear H S
  go_enter Tryz.func80, Tryz.ntmps80
  go_wp2_with fail
  (with_reducible refine hb.mono ?_)
  rintro e w1 ⟨i, ok, rfl, hi, hf, S2⟩
  go_wp2_with fail
  exact hK.out _ _ ⟨i, ok, rfl, hi, hf, rg_iff.2 ⟨v, u, S2.swap⟩⟩
end
end Go.Proofs.YtcecfhfbcdbofaaGreatDoor
set_option linter.unusedSimpArgs false
set_option linter.unusedVariables false
namespace Go.Proofs.YtcecfhfbcdbofaaGreatDoor
open Go.RowKit

theorem lay_del_r {α : Type} {enc : α → List Value} {size cap i : Nat} {cur : Array Value} {F : List α} (L : Lay enc size cap cur F) (hi : i < F.length) :
    Lay enc size cap (cur.toList.take (i * size) ++ encs enc (F.drop (i + 1)) ++ cur.toList.drop (i * size + (encs enc (F.drop (i + 1))).length)).toArray (F.take i ++ F.drop (i + 1)) := by
  have hl := L.len
  have hs : (encs enc (F.drop (i + 1))).length = (F.length - (i + 1)) * size := by rw [encs_length L.h, List.length_drop]
  have hc : F.length * size ≤ cur.size := by rw [L.all]; exact Nat.mul_le_mul_right _ hl
  have e1 : F.length * size = i * size + ((F.length - (i + 1)) * size + size) := by
    rw [← Nat.add_one_mul, ← Nat.add_mul]; congr 1; omega
  have hl1 : (cur.toList.take (i * size)).length = i * size := by rw [List.length_take]; simp; omega
  refine ⟨L.h, ?_, ?_, ?_⟩
  · rw [← L.all]
    simp only [List.size_toArray, List.length_append, hl1, hs, List.length_drop, Array.length_toList]
    omega
  · rw [List.length_append, List.length_take, List.length_drop]; omega
  · have e2 : (F.take i ++ F.drop (i + 1)).length * size = i * size + (F.length - (i + 1)) * size := by
      rw [List.length_append, List.length_take, List.length_drop, Nat.min_eq_left (by omega), Nat.add_mul]
    rw [e2, List.toList_toArray, List.take_left' (by rw [List.length_append, hl1, hs]), encs_append]
    congr 1
    rw [← encs_take L.h, ← L.at_, List.take_take, Nat.min_eq_left (by omega)]
theorem one_all (x : Ent) (u : Value) (h : u ∈ x.enc) : u.oneCell' = true := by
  simp only [Ent.enc, ints_r, List.mem_cons, List.mem_map] at h
  rcases h with rfl | rfl | ⟨y, -, rfl⟩ <;> rfl
section
variable {G : Gnd} {w w' : World} {l : List Asrt}
set_option maxHeartbeats 4000000 in
set_option maxRecDepth 100000 in
theorem del_one_r {v : Value} {F : List Ent} {i : Nat} (H : Sat G w (ownS 160 11 v F.length (encs Ent.enc F) :: l)) (hi : i < F.length) (hl : F.length ≤ 10000) :
    Calls Tryz.prog 85 #[v, .int .i64 i, .int .i64 ((i + 1 : Nat) : Int)] w fun e w' => ∃ v', e = .returned v' ∧ Sat G w' (ownS 160 11 v' (F.take i ++ F.drop (i + 1)).length (encs Ent.enc (F.take i ++ F.drop (i + 1))) :: l) := by
  refine calls_any fun K hK => ?_
  obtain ⟨g, cap, cur, rfl, hc, L, S⟩ := H.layOpen ent_len (by omega)
  have hc3 : cap ≤ 9223372036854775807 := hc
  have hlc := L.len
  obtain ⟨N, hN⟩ : ∃ N, N = F.length := ⟨_, rfl⟩
  rw [← hN] at hi hlc hl ⊢
  have HL := Lib.hid L
  have HN := Lib.hid hN
  have HCL := Lib.hid hc
  clear H L hN hc
  obtain ⟨j, hj⟩ : ∃ j, j = i + 1 := ⟨_, rfl⟩
  rw [← hj]
  have hne : (((i : Int)) == (j : Int)) = false := beq_eq_false_iff_ne.2 (by omega)
  have a1 : i ≤ cap := by omega
  have a2 : j ≤ N := by omega
  have a3 : j ≤ cap := by omega
  have a4 : (j : Int) ≤ (N : Int) := by omega
  have a5 : (i : Int) ≤ (cap : Int) := by omega
  have a6 : (N : Int) ≤ (cap : Int) := by omega
  have a7 : i ≤ j := by omega
  have HJ := Lib.hid hj
  clear hj
  obtain ⟨m1, hm1⟩ : ∃ m1, m1 = i + (N - j) := ⟨_, rfl⟩
  have hj := HJ.out
  have c1 : m1 ≤ N := by omega
  have c2 : m1 ≤ cap := by omega
  have c3 : ¬ (cap - m1 = 0) := by omega
  have c4 : (m1 : Int) ≤ (N : Int) := by omega
  have c5 : N - m1 = 1 := by omega
  obtain ⟨ti, hti, htz⟩ := Option.map_eq_some_iff.1 info_one
  simp only [Prod.mk.injEq] at htz
  obtain ⟨-, hts, -⟩ := htz
  have hnl : (encs Ent.enc (F.drop (i + 1))).length = (N - j) * ti.size := by rw [encs_length ent_len, List.length_drop, hts, ← HN.out, ← HJ.out]
  have hone : ∀ u ∈ encs Ent.enc (F.drop (i + 1)), u.oneCell' = true := fun u hu => by
    obtain ⟨x, hx, hu⟩ := List.mem_flatMap.1 hu
    exact one_all x u hu
  have hfit : i * ti.size + (encs Ent.enc (F.drop (i + 1))).length ≤ cur.size := by rw [hnl, HL.out.all, hts]; omega
  have HR := Lib.hid fun (ad : Addr) (c : Nat) (hn : ∀ k u, (encs Ent.enc (F.drop (i + 1)))[k]? = some u → w.drew.cell? (ad.add k) = some u) (ty : TypeId) =>
    run_append_room (P := Tryz.prog) w.drew 112 ty 160 ti Tryz.underlying112 hti g i cap cur S.drew.blk_at ad (N - j) c (encs Ent.enc (F.drop (i + 1))) hnl hn hone (by omega) hfit
  rw [← hm1, hts] at HR
  have S2 := S.drew.setRow (cur.toList.take (i * 11) ++ encs Ent.enc (F.drop (i + 1)) ++ cur.toList.drop (i * 11 + (encs Ent.enc (F.drop (i + 1))).length)).toArray
  have HL2 := Lib.hid (lay_del_r HL.out (i := i) (by rw [← HN.out]; omega))
  generalize (cur.toList.take (i * 11) ++ encs Ent.enc (F.drop (i + 1)) ++ cur.toList.drop (i * 11 + (encs Ent.enc (F.drop (i + 1))).length)).toArray = cur2 at HR S2 HL2
  have hall : m1 * 11 + 11 ≤ cur2.size := by rw [HL2.out.all]; omega
  have hlen1 : (F.take i ++ F.drop (i + 1)).length = m1 := by rw [List.length_append, List.length_take, List.length_drop, ← HN.out, ← HJ.out]; omega
  have HLN := Lib.hid hlen1
  have hat : ∀ k u, (encs Ent.enc (F.drop (i + 1)))[k]? = some u → w.drew.cell? ⟨g, j * 11 + k, none⟩ = some u := fun k u hk => by
    have hkl := (List.getElem?_eq_some_iff.1 hk).1
    rw [hnl, hts] at hkl
    rw [S.drew.cell]
    have e1 := HL.out.at_
    have e2 : (encs Ent.enc F)[j * 11 + k]? = some u := by
      conv => lhs; rw [← List.take_append_drop (i + 1) F, encs_append]
      rw [List.getElem?_append_right (by rw [encs_length ent_len, List.length_take, ← HN.out, ← HJ.out]; omega), encs_length ent_len, List.length_take, ← HN.out, ← HJ.out, Nat.min_eq_left (by omega), show j * 11 + k - j * 11 = k by omega]
      rw [HJ.out]; exact hk
    rw [← e1, List.getElem?_take] at e2
    split at e2
    · simpa using e2
    · cases e2
  have HAT := Lib.hid hat
  clear hj hti hts
  have HM1 := Lib.hid hm1
  have HNL := Lib.hid hnl
  have HS2 := Lib.hid S2
  have HC := Lib.hid (And.intro c1 (And.intro c2 (And.intro c3 (And.intro c4 (And.intro c5 hall)))))
  clear c1 c2 c3 c4 c5 hall
  clear hat hm1 hnl hone hfit S2 S hlen1
  go_enter Tryz.func85, Tryz.ntmps85
  go_upto_region 5 with fail
  by_cases hcj : cap = j
  · subst hcj
    have b1 : cap - cap = 0 := by omega
    have hz : ∀ k u, (encs Ent.enc (F.drop (i + 1)))[k]? = some u → w.drew.cell? ((⟨g, 0, none⟩ : Addr).add k) = some u := fun k u hk => by
      have := (List.getElem?_eq_some_iff.1 hk).1
      rw [HNL.out] at this
      rw [show N - cap = 0 by omega] at this
      omega
    have HR1 := HR.out ⟨g, 0, none⟩ 0 hz
    simp only [show N - cap = 0 by omega] at HR1
    have HR2 := Lib.hid HR1
    clear hz HR1
    go_still_tail 6, (by kernel_rfl)
    change wpList _ _ _ _ _ w.drew
    refine Go.Lib.wpList_append_run w.drew rfl (.tmp 22) (.tmp 25) 112 112 rfl (.slice (some ⟨g, 0, none⟩) i cap) (.slice (some ⟨g, 0, none⟩) 0 0) rfl rfl _ _ (HR2.out _) ?_
    clear HR2
    (refine list_world HS2.out fun w3 S3 => ?_; clear HS2 HR; obtain ⟨c1, c2, c3, c4, c5, hall⟩ := HC.out; go_wp2_with (refine st_clear rfl _ 112 rfl 160 (.agg #[.int .i64 0, .int .i64 0, .int .i64 0, .int .i64 0, .int .i64 0, .int .i64 0, .int .i64 0, .int .i64 0, .int .i64 0, .int .i64 0, .int .i64 0]) Tryz.underlying112 (by kernel_rfl) (by simp [Value.cells, Value.oneCell']) g (m1 * 11) 1 (cap - m1) rfl S3 hall fun W6 S6 => ?_))
    rw [if_neg (by omega)] at S6
    have S7 := S6.layClose (HL2.out.keep (by rw [HLN.out]; exact Nat.le_refl _) (by rw [Array.length_toList, zeroCells_length]; simp [Value.cells]; omega)) HCL.out m1 HLN.out.symm
    rw [← HLN.out]
    exact hK.out _ _ ⟨_, rfl, by rw [HLN.out] at S7 ⊢; exact S7⟩
  · have b1 : ¬ (cap - j = 0) := by omega
    go_still_tail 6, (by kernel_rfl)
    change wpList _ _ _ _ _ w.drew
    refine Go.Lib.wpList_append_run w.drew rfl (.tmp 22) (.tmp 25) 112 112 rfl (.slice (some ⟨g, 0, none⟩) i cap) (.slice (some ⟨g, j * 11, none⟩) (N - j) (cap - j)) rfl rfl _ _ (HR.out ⟨g, j * 11, none⟩ (cap - j) (fun k u hk => by
      have e : (⟨g, j * 11, none⟩ : Addr).add k = ⟨g, j * 11 + k, none⟩ := by unfold Addr.add; split <;> simp_all
      rw [e]; exact HAT.out k u hk) _) ?_
    (refine list_world HS2.out fun w3 S3 => ?_; clear HS2 HR; obtain ⟨c1, c2, c3, c4, c5, hall⟩ := HC.out; go_wp2_with (refine st_clear rfl _ 112 rfl 160 (.agg #[.int .i64 0, .int .i64 0, .int .i64 0, .int .i64 0, .int .i64 0, .int .i64 0, .int .i64 0, .int .i64 0, .int .i64 0, .int .i64 0, .int .i64 0]) Tryz.underlying112 (by kernel_rfl) (by simp [Value.cells, Value.oneCell']) g (m1 * 11) 1 (cap - m1) rfl S3 hall fun W6 S6 => ?_))
    rw [if_neg (by omega)] at S6
    have S7 := S6.layClose (HL2.out.keep (by rw [HLN.out]; exact Nat.le_refl _) (by rw [Array.length_toList, zeroCells_length]; simp [Value.cells]; omega)) HCL.out m1 HLN.out.symm
    rw [← HLN.out]
    exact hK.out _ _ ⟨_, rfl, by rw [HLN.out] at S7 ⊢; exact S7⟩
end
end Go.Proofs.YtcecfhfbcdbofaaGreatDoor
set_option linter.unusedSimpArgs false
set_option linter.unusedVariables false
namespace Go.Proofs.YtcecfhfbcdbofaaGreatDoor
open Go.RowKit

theorem bump_len (C : List Int) (e : Int) (b : Bool) : (bump C e b).length = C.length := by unfold bump; split <;> simp
def entDo (x : Ent) (e : Int) : Ent := ⟨x.id, (pDo x.n e).n, bump x.C e (pDo x.n e).cnt, (bump_len _ _ _).trans x.hC⟩
structure DoRes where
  F : List Ent
  L : List Int
  err : Int
  code : Int
  conn : Bool
def gDoAt (ten : Int) (F : List Ent) (L : List Int) (i : Nat) (x : Ent) (e : Int) : DoRes :=
  if (pDo x.n e).n = 4 then ⟨F.take i ++ F.drop (i + 1), L.set (ownT x.id ten).toNat (liveAt L (ownT x.id ten) - 1), (pDo x.n e).err, (pDo x.n e).code, (pDo x.n e).conn⟩
  else ⟨F.set i (entDo x e), L, (pDo x.n e).err, (pDo x.n e).code, (pDo x.n e).conn⟩
/-- Where a stream is. -/
def atE (F : List Ent) (id : Int) : Option Nat := F.findIdx? fun x => x.id == id
def gDo (ten : Int) (F : List Ent) (L : List Int) (id e : Int) : DoRes :=
  match atE F id with
  | none => ⟨F, L, 14, 0, false⟩
  | some i => (match F[i]? with | none => ⟨F, L, 14, 0, false⟩ | some x => gDoAt ten F L i x e)
theorem atE_none {F : List Ent} {id : Int} (h : ∀ x ∈ F, x.id ≠ id) : atE F id = none := by
  unfold atE
  rw [List.findIdx?_eq_none_iff]
  intro x hx
  exact beq_eq_false_iff_ne.2 (h x hx)
theorem atE_some {F : List Ent} (hF : Rising F) {i : Nat} {x : Ent} (hx : F[i]? = some x) : atE F x.id = some i := by
  unfold atE
  obtain ⟨hi, he⟩ := List.getElem?_eq_some_iff.1 hx
  rw [List.findIdx?_eq_some_iff_getElem]
  refine ⟨hi, by rw [he]; exact beq_self_eq_true _, fun j hj => ?_⟩
  have := hF.lt (List.getElem?_eq_getElem (show j < F.length by omega)) hx hj
  simp only [beq_iff_eq]
  omega
/-- The run of one of the streams. -/
theorem lay_run {cap : Nat} {cur : Array Value} {F : List Ent} {i : Nat} {x : Ent} (La : Lay Ent.enc 11 cap cur F) (hx : F[i]? = some x) :
    ∃ pre post, pre.length = i * 11 + 1 ∧ cur = runD pre x.n x.C post ∧ ∀ y : Ent, y.id = x.id → Lay Ent.enc 11 cap (runD pre y.n y.C post) (F.set i y) := by
  have hi := (List.getElem?_eq_some_iff.1 hx).1
  have hr := La.room hi
  refine ⟨cur.toList.take (i * 11) ++ [.int .i64 x.id], cur.toList.drop (i * 11 + 11), ?_, ?_, ?_⟩
  · rw [List.length_append, List.length_take, Array.length_toList]
    simp
    omega
  · apply Array.toList_inj.1
    simp only [runD, List.append_assoc, List.cons_append, List.nil_append]
    apply List.ext_getElem?
    intro k
    have hl : (cur.toList.take (i * 11)).length = i * 11 := by rw [List.length_take, Array.length_toList]; omega
    by_cases h1 : k < i * 11
    · rw [List.getElem?_append_left (by omega), List.getElem?_take, if_pos h1]
    · rw [List.getElem?_append_right (by omega), hl]
      have e : (Value.int .i64 x.id :: Value.int .i64 x.n :: (ints_r x.C ++ cur.toList.drop (i * 11 + 11))) = x.enc ++ cur.toList.drop (i * 11 + 11) := rfl
      rw [e]
      by_cases h2 : k < i * 11 + 11
      · rw [List.getElem?_append_left (by rw [ent_len]; omega)]
        have := La.get hx (j := k - i * 11) (by omega)
        rw [show i * 11 + (k - i * 11) = k by omega] at this
        simpa using this
      · rw [List.getElem?_append_right (by rw [ent_len]; omega), ent_len, List.getElem?_drop]
        congr 1
        omega
  · intro y hy
    have h := La.set hi y
    have e : setMid cur (i * 11) y.enc = runD (cur.toList.take (i * 11) ++ [.int .i64 x.id]) y.n y.C (cur.toList.drop (i * 11 + 11)) := by
      apply Array.toList_inj.1
      rw [setMid_list _ _ _ (by rw [ent_len]; omega), ent_len]
      simp only [runD, List.append_assoc, List.cons_append, List.nil_append, Ent.enc, hy]
    rwa [e] at h
theorem rn_at2 {w : World} {r off : Nat} {n : Int} (c0 : w.cell? ⟨r, off, none⟩ = some (.int .i64 n)) : Calls Tryz.prog 82 #[.pointer (some ⟨r, off, none⟩)] w fun x w' => x = .returned (.int .i64 n) ∧ w = w' := by
  refine calls_any fun K hK => ?_
  go_enter Tryz.func82, Tryz.ntmps82
  go_wp2_with fail
  exact hK.out _ _ ⟨rfl, rfl⟩
theorem take_set_self {α : Type} (F : List α) (i : Nat) (y : α) : (F.set i y).take i ++ (F.set i y).drop (i + 1) = F.take i ++ F.drop (i + 1) := by
  rw [List.take_set_of_le (by omega), List.drop_set_of_lt (by omega)]
section
variable {G : Gnd} {w w' : World} {l : List Asrt} {g : Nat} {ten quo last : Int} {F : List Ent} {L : List Int}
set_option maxHeartbeats 4000000 in
set_option maxRecDepth 100000 in
theorem rg_do_none (H : Sat G w (rgA g ten quo F L last :: l)) (hF : Rising F) (hn : F.length ≤ 10000) (id e : Int) (hno : ∀ x ∈ F, x.id ≠ id) :
    Calls Tryz.prog 56 #[.pointer (some ⟨g, 0, none⟩), .int .i64 id, .int .i64 e] w fun e w' => e = .returned (.tuple #[.int .i64 14, .agg #[.int .i64 0, .bool false]]) ∧ Sat G w' (rgA g ten quo F L last :: l) := by
  refine calls_any fun K hK => ?_
  have S1 := H.newBlk #[.int .i64 0, .bool false] 95
  have hf := rg_find S1.swap hF (by omega) id
  clear H S1
  go_enter Tryz.func56, Tryz.ntmps56
  go_wp2_with fail
  (with_reducible refine hf.mono ?_)
  clear hf
  rintro e w1 ⟨i, ok, rfl, hi, hfo, S2⟩
  cases ok with
  | true =>
    obtain ⟨x, hx, he⟩ := hfo
    exact absurd he (hno x (List.mem_of_getElem? hx))
  | false =>
    generalize w.heap.size = a at *
    have S3 := S2.swap
    clear S2 hfo hno
    have d0 := S3.cell 0
    have d1 := S3.cell 1
    have f0 := S3.frozen 0
    have f1 := S3.frozen 1
    have HS := Lib.hid ((S3.setCell 0 (.int .i64 0)).setCell 1 (.bool false))
    clear S3
    go_wp2_with fail
    refine bodyPost_ret (results_t_cell rfl _ _ _ _ _ _ rfl (HS.out).blk_at Tryz.underlying95 rfl (by kernel_rfl)) rfl ?_
    exact hK.out _ _ ⟨rfl, HS.out.drop⟩
set_option maxHeartbeats 8000000 in
set_option maxRecDepth 100000 in
theorem rg_do_stay (H : Sat G w (rgA g ten quo F L last :: l)) (hw : RWf ten quo F L last) (hF : Rising F) (ht : TabG G) (i : Nat) (x : Ent) (hx : F[i]? = some x) (hb : ∀ y ∈ x.C, 0 ≤ y ∧ y ≤ 1000) (e : Int) (h4 : ¬ (pDo x.n e).n = 4) :
    Calls Tryz.prog 56 #[.pointer (some ⟨g, 0, none⟩), .int .i64 x.id, .int .i64 e] w fun y w' => y = .returned (.tuple #[.int .i64 (pDo x.n e).err, .agg #[.int .i64 (pDo x.n e).code, .bool (pDo x.n e).conn]]) ∧ Sat G w' (rgA g ten quo (gDoAt ten F L i x e).F (gDoAt ten F L i x e).L last :: l) := by
  refine calls_any fun K hK => ?_
  unfold gDoAt at hK
  rw [if_neg h4] at hK
  have S1 := H.newBlk #[.int .i64 0, .bool false] 95
  have hfew := hw.few
  have hf := rg_find S1.swap hF (by omega) x.id
  have HF := Lib.hid hF
  have HX := Lib.hid hx
  have HB := Lib.hid hb
  have HTAB := Lib.hid ht
  have HW := Lib.hid hw
  have H4 := Lib.hid h4
  have hiF := (List.getElem?_eq_some_iff.1 hx).1
  clear H S1 hx hb ht hw hF h4
  go_enter Tryz.func56, Tryz.ntmps56
  go_wp2_with fail
  (with_reducible refine hf.mono ?_)
  clear hf
  rintro e1 w1 ⟨i', ok, rfl, hi, hfo, S2⟩
  cases ok with
  | false => exact absurd rfl (hfo x (List.mem_of_getElem? HX.out))
  | true =>
  obtain ⟨x', hx', he⟩ := hfo
  obtain rfl : i' = i := by
    rcases Nat.lt_trichotomy i' i with h | h | h
    · have := HF.out.lt hx' HX.out h; omega
    · exact h
    · have := HF.out.lt HX.out hx' h; omega
  clear hx' he x'
  generalize w.heap.size = a at *
  obtain ⟨v, u, S3⟩ := rg_iff.1 S2
  clear S2
  obtain ⟨b, cap, cur, rfl, hcap, La, S4⟩ := S3.swap.layOpen ent_len (by omega)
  have hcc : cap ≤ 9223372036854775807 := hcap
  have hlc := La.len
  obtain ⟨pre, post, hpre, rfl, hset⟩ := lay_run La HX.out
  have HCP := Lib.hid hcap
  have HSET := Lib.hid (hset (entDo x e) rfl)
  have HPRE := Lib.hid hpre
  clear S3 La hcap hset hpre
  obtain ⟨N, hN⟩ : ∃ N, N = F.length := ⟨_, rfl⟩
  rw [← hN] at S4 hiF hlc hi hfew
  have HN := Lib.hid hN
  clear hN
  have hiN : (i' : Int) < (N : Int) := by omega
  have c2 := S4.swap.cell 2
  have S5 : Sat G w1 (runO b 160 pre x.n x.C post :: blk g #[.int .i64 ten, .int .i64 quo, .slice (some ⟨b, 0, none⟩) N cap, u, .int .i64 last] 114 :: ownS 3 1 u L.length (encs lenc_r L) :: blk a #[.int .i64 0, .bool false] 95 :: l) := S4
  clear S4
  have hd := rn_do S5 HPRE.out HTAB.out x.hC HB.out e
  clear S5
  go_wp2_with fail
  (with_reducible refine hd.mono ?_)
  clear hd c2
  rintro e1 w2 ⟨rfl, S6⟩
  obtain ⟨er, her⟩ : ∃ er, er = (pDo x.n e).err := ⟨_, rfl⟩
  obtain ⟨cd, hcd⟩ : ∃ cd, cd = (pDo x.n e).code := ⟨_, rfl⟩
  obtain ⟨cn, hcn⟩ : ∃ cn, cn = (pDo x.n e).conn := ⟨_, rfl⟩
  obtain ⟨n', hn'⟩ : ∃ n', n' = (pDo x.n e).n := ⟨_, rfl⟩
  rw [← her, ← hcd, ← hcn] at hK ⊢
  have H4' : Hid (¬ n' = 4) := Lib.hid (by rw [hn']; exact H4.out)
  have S7 : Sat G w2 (blk b (runD pre n' (entDo x e).C post) 160 :: blk g #[.int .i64 ten, .int .i64 quo, .slice (some ⟨b, 0, none⟩) N cap, u, .int .i64 last] 114 :: ownS 3 1 u L.length (encs lenc_r L) :: blk a #[.int .i64 0, .bool false] 95 :: l) := by rw [hn']; exact S6
  have HN' : Hid (n' = (entDo x e).n) := Lib.hid hn'
  have S8 := S7.newBlk #[.int .i64 cd, .bool cn] 95
  clear S6 S7 her hcd hcn hn'
  go_upto_region 6 with fail
  generalize w2.heap.size = z at *
  refine wp_world S8 fun w3 S9 => ?_
  clear S8
  have c1 : w3.cell? ⟨b, i' * 11 + 1, none⟩ = some (.int .i64 n') := (S9.swap.cell (i' * 11 + 1)).trans (runD_at0 _ _ _ _ HPRE.out)
  have ha := rn_at2 c1
  have hdn := st_done n' w3
  have S10 := S9.re [2, 1, 3, 4, 0]
  clear S9 c1
  rw [show (n' == 4) = false from beq_eq_false_iff_ne.2 H4'.out] at hdn
  go_wp2_with fail
  (with_reducible refine ha.mono ?_)
  rintro e1 w4 ⟨rfl, rfl⟩
  go_wp2_with fail
  (with_reducible refine hdn.mono ?_)
  rintro e1 w4 ⟨rfl, rfl⟩
  clear ha hdn
  go_upto_region 9 with fail
  have T1 := S10.re [3, 4, 0, 1, 2]
  clear S10
  refine wp_act fun a0 ha0 => ?_
  have HSZ : a0.tmps.size = 65 := by rw [ha0]; rfl
  have E11 : a0.eval (.tmp 11) = .int .i64 er := by rw [ha0]; rfl
  have E12 : a0.eval (.tmp 12) = .pointer (some ⟨z, 0, none⟩) := by rw [ha0]; rfl
  have E7 : a0.eval (.tmp 7) = .pointer (some ⟨a, 0, none⟩) := by rw [ha0]; rfl
  refine wp_region_sat (by kernel_rfl) 4 (by kernel_rfl) [[], [], [0, 0], [1, 2, 0, 1, 2]] (by kernel_rfl) (by kernel_rfl) [(0, 63, .int .i64 er), (1, 64, .agg #[.int .i64 cd, .bool cn]), (2, 6, .int .i64 er)] (fun f => blk a (cond (f 3) #[.int .i64 cd, .bool cn] #[.int .i64 0, .bool false]) 95 :: blk z #[.int .i64 cd, .bool cn] 95 :: blk g #[.int .i64 ten, .int .i64 quo, .slice (some ⟨b, 0, none⟩) N cap, u, .int .i64 last] 114 :: blk b (runD pre n' (entDo x e).C post) 160 :: ownS 3 1 u L.length (encs lenc_r L) :: l) (by kernel_rfl) T1 ?_ ?_
  · refine ⟨?_, ?_, ?_, ?_, trivial⟩
    · intro f W h0 hd S
      refine wpOp_run (v := .int .i64 er) rfl rfl (fun ρ hρ => ?_) ⟨(acts_some 0 rfl (by kernel_rfl) (by kernel_rfl)).symm, S⟩
      have e0 : ρ (.tmp 11) = .int .i64 er := by rw [hρ]; exact (acts_eval_tmp 11 (by kernel_rfl)).trans E11
      clear hρ
      go_simp
    · intro f W h1 hd S
      refine wpOp_list rfl ?_
      refine st_load rfl _ _ rfl _ ((acts_eval_tmp 12 (by kernel_rfl)).trans E12) _ _ (S.swap) _ rfl rfl rfl ?_
      exact ⟨(acts_some 1 rfl (by kernel_rfl) (by kernel_rfl)).symm, S⟩
    · intro f W h2 hd S
      refine wpOp_run (v := .int .i64 er) rfl rfl (fun ρ hρ => ?_) ⟨(acts_some 2 rfl (by kernel_rfl) (by kernel_rfl)).symm, S⟩
      have e0 : ρ (.tmp 63) = .int .i64 er := by rw [hρ]; exact acts_eval_hit 0 rfl hd.1 (by rw [HSZ]; rfl) (by kernel_rfl)
      clear hρ
      go_simp
    · intro f W h3 hd S
      rw [h3] at S
      refine wpOp_list rfl ?_
      refine st_store rfl _ _ _ rfl _ _ ((acts_eval_tmp 7 (by kernel_rfl)).trans E7) (acts_eval_hit 1 rfl hd.1 (by rw [HSZ]; rfl) (by kernel_rfl)) _ _ (S) rfl rfl (by simp [Value.oneCell']) fun W' S' => ?_
      exact ⟨(acts_none 3 (by kernel_rfl)).symm, S'⟩
  intro W9 T2
  subst ha0
  simp only [acts, if_true, Act.put, List.setIfInBounds_toArray, List.set_cons_succ, List.set_cons_zero]
  change Sat _ _ (blk a #[.int .i64 cd, .bool cn] _ :: _) at T2
  have HT2 := Lib.hid T2
  clear T2 T1 HSZ E7 E11 E12
  go_wp2_with fail
  refine bodyPost_ret (results_t_cell rfl _ _ _ _ _ _ rfl (HT2.out).blk_at Tryz.underlying95 rfl (by kernel_rfl)) rfl ?_
  refine hK.out _ _ ⟨rfl, ?_⟩
  have T3 := HT2.out.drop.drop
  have hl := HSET.out
  rw [← HN'.out] at hl
  have T4 := T3.swap.layClose hl HCP.out N (by rw [List.length_set]; exact HN.out)
  exact rg_iff.2 ⟨_, u, T4.swap⟩
set_option maxHeartbeats 8000000 in
set_option maxRecDepth 100000 in
theorem rg_do_gone (H : Sat G w (rgA g ten quo F L last :: l)) (hw : RWf ten quo F L last) (hF : Rising F) (ht : TabG G) (i : Nat) (x : Ent) (hx : F[i]? = some x) (hb : ∀ y ∈ x.C, 0 ≤ y ∧ y ≤ 1000) (e : Int) (h4 : (pDo x.n e).n = 4) :
    Calls Tryz.prog 56 #[.pointer (some ⟨g, 0, none⟩), .int .i64 x.id, .int .i64 e] w fun y w' => y = .returned (.tuple #[.int .i64 (pDo x.n e).err, .agg #[.int .i64 (pDo x.n e).code, .bool (pDo x.n e).conn]]) ∧ Sat G w' (rgA g ten quo (gDoAt ten F L i x e).F (gDoAt ten F L i x e).L last :: l) := by
  refine calls_any fun K hK => ?_
  unfold gDoAt at hK
  rw [if_pos h4] at hK
  have S1 := H.newBlk #[.int .i64 0, .bool false] 95
  have hfew := hw.few
  have hf := rg_find S1.swap hF (by omega) x.id
  have HF := Lib.hid hF
  have HX := Lib.hid hx
  have HB := Lib.hid hb
  have HTAB := Lib.hid ht
  have HW := Lib.hid hw
  have H4 := Lib.hid h4
  have hiF := (List.getElem?_eq_some_iff.1 hx).1
  clear H S1 hx hb ht hw hF h4
  go_enter Tryz.func56, Tryz.ntmps56
  go_wp2_with fail
  (with_reducible refine hf.mono ?_)
  clear hf
  rintro e1 w1 ⟨i', ok, rfl, hi, hfo, S2⟩
  cases ok with
  | false => exact absurd rfl (hfo x (List.mem_of_getElem? HX.out))
  | true =>
  obtain ⟨x', hx', he⟩ := hfo
  obtain rfl : i' = i := by
    rcases Nat.lt_trichotomy i' i with h | h | h
    · have := HF.out.lt hx' HX.out h; omega
    · exact h
    · have := HF.out.lt HX.out hx' h; omega
  clear hx' he x'
  generalize w.heap.size = a at *
  obtain ⟨v, u, S3⟩ := rg_iff.1 S2
  clear S2
  obtain ⟨b, cap, cur, rfl, hcap, La, S4⟩ := S3.swap.layOpen ent_len (by omega)
  have hcc : cap ≤ 9223372036854775807 := hcap
  have hlc := La.len
  obtain ⟨pre, post, hpre, rfl, hset⟩ := lay_run La HX.out
  have HCP := Lib.hid hcap
  have HSET := Lib.hid (hset (entDo x e) rfl)
  have HPRE := Lib.hid hpre
  clear S3 La hcap hset hpre
  obtain ⟨N, hN⟩ : ∃ N, N = F.length := ⟨_, rfl⟩
  rw [← hN] at S4 hiF hlc hi hfew
  have HN := Lib.hid hN
  clear hN
  have hiN : (i' : Int) < (N : Int) := by omega
  have c2 := S4.swap.cell 2
  have S5 : Sat G w1 (runO b 160 pre x.n x.C post :: blk g #[.int .i64 ten, .int .i64 quo, .slice (some ⟨b, 0, none⟩) N cap, u, .int .i64 last] 114 :: ownS 3 1 u L.length (encs lenc_r L) :: blk a #[.int .i64 0, .bool false] 95 :: l) := S4
  clear S4
  have hd := rn_do S5 HPRE.out HTAB.out x.hC HB.out e
  clear S5
  go_wp2_with fail
  (with_reducible refine hd.mono ?_)
  clear hd c2
  rintro e1 w2 ⟨rfl, S6⟩
  obtain ⟨er, her⟩ : ∃ er, er = (pDo x.n e).err := ⟨_, rfl⟩
  obtain ⟨cd, hcd⟩ : ∃ cd, cd = (pDo x.n e).code := ⟨_, rfl⟩
  obtain ⟨cn, hcn⟩ : ∃ cn, cn = (pDo x.n e).conn := ⟨_, rfl⟩
  obtain ⟨n', hn'⟩ : ∃ n', n' = (pDo x.n e).n := ⟨_, rfl⟩
  rw [← her, ← hcd, ← hcn] at hK ⊢
  have H4' : Hid (n' = 4) := Lib.hid (by rw [hn']; exact H4.out)
  have S7 : Sat G w2 (blk b (runD pre n' (entDo x e).C post) 160 :: blk g #[.int .i64 ten, .int .i64 quo, .slice (some ⟨b, 0, none⟩) N cap, u, .int .i64 last] 114 :: ownS 3 1 u L.length (encs lenc_r L) :: blk a #[.int .i64 0, .bool false] 95 :: l) := by rw [hn']; exact S6
  have HN' : Hid (n' = (entDo x e).n) := Lib.hid hn'
  have S8 := S7.newBlk #[.int .i64 cd, .bool cn] 95
  clear S6 S7 her hcd hcn hn'
  go_upto_region 6 with fail
  generalize w2.heap.size = z at *
  refine wp_world S8 fun w3 S9 => ?_
  clear S8
  have c1 : w3.cell? ⟨b, i' * 11 + 1, none⟩ = some (.int .i64 n') := (S9.swap.cell (i' * 11 + 1)).trans (runD_at0 _ _ _ _ HPRE.out)
  have ha := rn_at2 c1
  have hdn := st_done n' w3
  have S10 := S9.re [2, 1, 3, 4, 0]
  clear S9 c1
  rw [show (n' == 4) = true from beq_iff_eq.2 H4'.out] at hdn
  go_wp2_with fail
  (with_reducible refine ha.mono ?_)
  rintro e1 w4 ⟨rfl, rfl⟩
  go_wp2_with fail
  (with_reducible refine hdn.mono ?_)
  rintro e1 w4 ⟨rfl, rfl⟩
  clear ha hdn
  have hl := HSET.out
  rw [← HN'.out] at hl
  have T3 := S10.swap.layClose hl HCP.out N (by rw [List.length_set]; exact HN.out)
  have HNV : Hid (∃ A c, (Value.slice (some ⟨b, 0, none⟩) N cap) = .slice A N c) := Lib.hid ⟨_, _, rfl⟩
  clear hl S10 HN' H4' HSET HPRE HCP
  obtain ⟨v, hv⟩ : ∃ v, v = Value.slice (some ⟨b, 0, none⟩) N cap := ⟨_, rfl⟩
  rw [← hv] at T3
  have HV := Lib.hid hv
  clear hv
  have htn := HW.out.t0
  have hlen := HW.out.len
  obtain ⟨T, hT⟩ : ∃ T : Nat, ownT x.id ten = T := ⟨(ownT x.id ten).toNat, by
    have : 0 ≤ ownT x.id ten := by
      unfold ownT
      split
      · exact Int.emod_nonneg _ (by omega)
      · omega
    omega⟩
  have hTl : T < L.length := by
    have : ownT x.id ten < ten := by
      unfold ownT
      split
      · exact Int.emod_lt_of_pos _ (by omega)
      · omega
    omega
  obtain ⟨y, hy⟩ : ∃ y, L[T]? = some y := ⟨_, List.getElem?_eq_getElem hTl⟩
  have hla : liveAt L (ownT x.id ten) = y := by
    unfold liveAt
    rw [hT, if_pos (by omega), List.getD_eq_getElem?_getD, show (T : Int).toNat = T by omega, hy]; rfl
  rw [hla, hT, show (T : Int).toNat = T by omega] at hK
  have hxb := HW.out.lo y (List.mem_of_getElem? hy)
  obtain ⟨b2, cap2, cur2, rfl, hcap2, La2, S2⟩ := (T3.re [2, 1, 0]).layOpen lenc_len (by omega)
  have HCX := Lib.hid (La2.get hy (j := 0) (by decide))
  simp only [Nat.mul_one, Nat.add_zero, lenc_r, List.getElem?_cons_zero] at HCX
  have hTc := La2.room hTl
  have HLA := Lib.hid La2
  have HCP := Lib.hid hcap2
  have HTC : Hid (T < cur2.size) := Lib.hid (by omega)
  obtain ⟨M, hM⟩ : ∃ M, M = L.length := ⟨_, rfl⟩
  rw [← hM] at S2
  have a4 : (T : Int) < (M : Int) := by omega
  have a5 : T < M := by omega
  have HM := Lib.hid hM
  have HOT := Lib.hid hT
  have HY := Lib.hid hy
  have HTL := Lib.hid hTl
  clear T3 La2 hcap2 hTc hM hT hy hlen hla hTl
  obtain ⟨hx0, hx1⟩ := hxb
  go_upto_region 7 with fail
  refine wp_act fun a0 ha0 => ?_
  have HSZ : a0.tmps.size = 65 := by rw [ha0]; rfl
  have E0 : a0.eval (.tmp 0) = .pointer (some ⟨g, 0, none⟩) := by rw [ha0]; rfl
  have E1 : a0.eval (.tmp 1) = .int .i64 x.id := by rw [ha0]; rfl
  refine wp_region_J (by kernel_rfl) 12 (by kernel_rfl) [[], [0], [1], [2], [], [], [4, 5], [3, 6], [7], [8], [3, 6, 0, 1, 2, 3, 4, 5, 6, 7, 8, 9], [10, 9, 6, 0, 1, 2, 3, 4, 5, 6, 7, 8, 9]] (by kernel_rfl) (by kernel_rfl) (fun f a' W => (f 11 = true → f 8 = true) ∧ a' = acts [(0, 41, .pointer (some ⟨g, 0, none⟩)), (1, 42, .pointer (some ⟨g, 0, none⟩)), (2, 43, .pointer (some ⟨g, 3, none⟩)), (3, 44, .slice (some ⟨b2, 0, none⟩) M cap2), (4, 45, .pointer (some ⟨g, 0, none⟩)), (5, 46, .int .i64 x.id), (6, 47, .int .i64 T), (7, 48, .pointer (some ⟨b2, T, none⟩)), (8, 49, .int .i64 y), (9, 50, .int .i64 (y - 1)), (10, 51, .pointer (some ⟨b2, T, none⟩))] f a0 ∧ Sat G W (blk b2 (cond (f 11) (cur2.setIfInBounds T (.int .i64 (y - 1))) cur2) 3 :: blk g #[.int .i64 ten, .int .i64 quo, v, .slice (some ⟨b2, 0, none⟩) M cap2, .int .i64 last] 114 :: ownS 160 11 v (F.set i' (entDo x e)).length (encs Ent.enc (F.set i' (entDo x e))) :: blk a #[.int .i64 0, .bool false] 95 :: blk z #[.int .i64 cd, .bool cn] 95 :: l)) ?_ ?_ ?_
  · exact ⟨fun h => (by cases h), rfl, S2.drew⟩
  · refine ⟨?_, ?_, ?_, ?_, ?_, ?_, ?_, ?_, ?_, ?_, ?_, ?_, trivial⟩
    · rintro f a' W h0 hd ⟨hh, rfl, S⟩
      refine wpOp_run (v := .pointer (some ⟨g, 0, none⟩)) rfl rfl (fun ρ hρ => ?_) ⟨hh, (acts_some 0 rfl (by kernel_rfl) (by kernel_rfl)).symm, S⟩
      have e0 : ρ (.tmp 0) = .pointer (some ⟨g, 0, none⟩) := by rw [hρ]; exact (acts_eval_tmp 0 (by kernel_rfl)).trans E0
      clear hρ
      go_simp
    · rintro f a' W h1 hd ⟨hh, rfl, S⟩
      refine wpOp_run (v := .pointer (some ⟨g, 0, none⟩)) rfl rfl (fun ρ hρ => ?_) ⟨hh, (acts_some 1 rfl (by kernel_rfl) (by kernel_rfl)).symm, S⟩
      have e0 : ρ (.tmp 41) = .pointer (some ⟨g, 0, none⟩) := by rw [hρ]; exact acts_eval_hit 0 rfl hd.1 (by rw [HSZ]; rfl) (by kernel_rfl)
      clear hρ
      go_simp
    · rintro f a' W h2 hd ⟨hh, rfl, S⟩
      refine wpOp_run (v := .pointer (some ⟨g, 3, none⟩)) rfl rfl (fun ρ hρ => ?_) ⟨hh, (acts_some 2 rfl (by kernel_rfl) (by kernel_rfl)).symm, S⟩
      have e0 : ρ (.tmp 42) = .pointer (some ⟨g, 0, none⟩) := by rw [hρ]; exact acts_eval_hit 1 rfl hd.1 (by rw [HSZ]; rfl) (by kernel_rfl)
      clear hρ
      go_simp
    · rintro f a' W h3 hd ⟨hh, rfl, S⟩
      refine wpOp_run (v := .slice (some ⟨b2, 0, none⟩) M cap2) rfl rfl (fun ρ hρ => ?_) ⟨hh, (acts_some 3 rfl (by kernel_rfl) (by kernel_rfl)).symm, S⟩
      have e0 : ρ (.tmp 43) = .pointer (some ⟨g, 3, none⟩) := by rw [hρ]; exact acts_eval_hit 2 rfl hd.1 (by rw [HSZ]; rfl) (by kernel_rfl)
      clear hρ
      (have z : W.cell? ⟨g, 3, none⟩ = some (.slice (some ⟨b2, 0, none⟩) M cap2) := S.swap.cell 3)
      go_simp
    · rintro f a' W h4 hd ⟨hh, rfl, S⟩
      refine wpOp_run (v := .pointer (some ⟨g, 0, none⟩)) rfl rfl (fun ρ hρ => ?_) ⟨hh, (acts_some 4 rfl (by kernel_rfl) (by kernel_rfl)).symm, S⟩
      have e0 : ρ (.tmp 0) = .pointer (some ⟨g, 0, none⟩) := by rw [hρ]; exact (acts_eval_tmp 0 (by kernel_rfl)).trans E0
      clear hρ
      go_simp
    · rintro f a' W h5 hd ⟨hh, rfl, S⟩
      refine wpOp_run (v := .int .i64 x.id) rfl rfl (fun ρ hρ => ?_) ⟨hh, (acts_some 5 rfl (by kernel_rfl) (by kernel_rfl)).symm, S⟩
      have e0 : ρ (.tmp 1) = .int .i64 x.id := by rw [hρ]; exact (acts_eval_tmp 1 (by kernel_rfl)).trans E1
      clear hρ
      go_simp
    · rintro f a' W h6 hd ⟨hh, rfl, S⟩
      refine wpOp_call rfl rfl (fun ρ hρ => ?_) ((rg_owner (S.swap.cell 0) x.id)) ?_
      · skip
        have e0 : ρ (.tmp 45) = .pointer (some ⟨g, 0, none⟩) := by rw [hρ]; exact acts_eval_hit 4 rfl hd.1 (by rw [HSZ]; rfl) (by kernel_rfl)
        have e1 : ρ (.tmp 46) = .int .i64 x.id := by rw [hρ]; exact acts_eval_hit 5 rfl hd.2.1 (by rw [HSZ]; rfl) (by kernel_rfl)
        have ef : ρ (.func 84) = .func (.func 84) #[] #[] := by rw [hρ]; rfl
        clear hρ
        go_simp
      · (rintro e W' ⟨rfl, rfl⟩; rw [HOT.out]; exact ⟨_, rfl, hh, acts_swap rfl (k := 6) rfl (by kernel_rfl) (by kernel_rfl), S⟩)
    · rintro f a' W h7 hd ⟨hh, rfl, S⟩
      refine wpOp_run (v := .pointer (some ⟨b2, T, none⟩)) rfl rfl (fun ρ hρ => ?_) ⟨hh, (acts_some 7 rfl (by kernel_rfl) (by kernel_rfl)).symm, S⟩
      have e0 : ρ (.tmp 44) = .slice (some ⟨b2, 0, none⟩) M cap2 := by rw [hρ]; exact acts_eval_hit 3 rfl hd.1 (by rw [HSZ]; rfl) (by kernel_rfl)
      have e1 : ρ (.tmp 47) = .int .i64 T := by rw [hρ]; exact acts_eval_hit 6 rfl hd.2.1 (by rw [HSZ]; rfl) (by kernel_rfl)
      clear hρ
      go_simp
    · rintro f a' W h8 hd ⟨hh, rfl, S⟩
      (have z11 := no_of_r hh h8)
      refine wpOp_run (v := .int .i64 y) rfl rfl (fun ρ hρ => ?_) ⟨fun _ => rfl, (acts_some 8 rfl (by kernel_rfl) (by kernel_rfl)).symm, S⟩
      have e0 : ρ (.tmp 48) = .pointer (some ⟨b2, T, none⟩) := by rw [hρ]; exact acts_eval_hit 7 rfl hd.1 (by rw [HSZ]; rfl) (by kernel_rfl)
      clear hρ
      (have z : W.cell? ⟨b2, T, none⟩ = some (.int .i64 y) := (by have z := S.cell T; rw [z11] at z; exact z.trans HCX.out))
      go_simp
    · rintro f a' W h9 hd ⟨hh, rfl, S⟩
      refine wpOp_run (v := .int .i64 (y - 1)) rfl rfl (fun ρ hρ => ?_) ⟨hh, (acts_some 9 rfl (by kernel_rfl) (by kernel_rfl)).symm, S⟩
      have e0 : ρ (.tmp 49) = .int .i64 y := by rw [hρ]; exact acts_eval_hit 8 rfl hd.1 (by rw [HSZ]; rfl) (by kernel_rfl)
      have ec : ∀ v, ρ (.const v) = v := by rw [hρ]; exact fun _ => rfl
      clear hρ
      (have hwr : IntKind.i64.wrap (y - 1) = y - 1 := IntWalk.i64_in _ (by omega))
      go_simp
    · rintro f a' W h10 hd ⟨hh, rfl, S⟩
      refine wpOp_run (v := .pointer (some ⟨b2, T, none⟩)) rfl rfl (fun ρ hρ => ?_) ⟨hh, (acts_some 10 rfl (by kernel_rfl) (by kernel_rfl)).symm, S⟩
      have e0 : ρ (.tmp 44) = .slice (some ⟨b2, 0, none⟩) M cap2 := by rw [hρ]; exact acts_eval_hit 3 rfl hd.1 (by rw [HSZ]; rfl) (by kernel_rfl)
      have e1 : ρ (.tmp 47) = .int .i64 T := by rw [hρ]; exact acts_eval_hit 6 rfl hd.2.1 (by rw [HSZ]; rfl) (by kernel_rfl)
      clear hρ
      go_simp
    · rintro f a' W h11 hd ⟨hh, rfl, S⟩
      have q51 : (acts [(0, 41, .pointer (some ⟨g, 0, none⟩)), (1, 42, .pointer (some ⟨g, 0, none⟩)), (2, 43, .pointer (some ⟨g, 3, none⟩)), (3, 44, .slice (some ⟨b2, 0, none⟩) M cap2), (4, 45, .pointer (some ⟨g, 0, none⟩)), (5, 46, .int .i64 x.id), (6, 47, .int .i64 T), (7, 48, .pointer (some ⟨b2, T, none⟩)), (8, 49, .int .i64 y), (9, 50, .int .i64 (y - 1)), (10, 51, .pointer (some ⟨b2, T, none⟩))] f a0).eval (.tmp 51) = .pointer (some ⟨b2, T, none⟩) := acts_eval_hit 10 rfl hd.1 (by rw [HSZ]; rfl) (by kernel_rfl)
      have q50 : (acts [(0, 41, .pointer (some ⟨g, 0, none⟩)), (1, 42, .pointer (some ⟨g, 0, none⟩)), (2, 43, .pointer (some ⟨g, 3, none⟩)), (3, 44, .slice (some ⟨b2, 0, none⟩) M cap2), (4, 45, .pointer (some ⟨g, 0, none⟩)), (5, 46, .int .i64 x.id), (6, 47, .int .i64 T), (7, 48, .pointer (some ⟨b2, T, none⟩)), (8, 49, .int .i64 y), (9, 50, .int .i64 (y - 1)), (10, 51, .pointer (some ⟨b2, T, none⟩))] f a0).eval (.tmp 50) = .int .i64 (y - 1) := acts_eval_hit 9 rfl hd.2.1 (by rw [HSZ]; rfl) (by kernel_rfl)
      (simp only [h11, cond_false] at S; refine wpOp_list rfl ?_; refine st_set rfl _ _ _ rfl _ _ _ q51 q50 rfl _ _ S (by kernel_rfl) HTC.out fun W' S' => ?_; exact ⟨fun _ => hd.2.2.2.2.2.2.2.2.2.2.2.1, (acts_none 11 (by kernel_rfl)).symm, S'⟩)
  rintro a' W ⟨-, rfl, S3⟩
  subst ha0
  simp only [acts, if_true, Act.put, List.setIfInBounds_toArray, List.set_cons_succ, List.set_cons_zero]
  clear S2 HSZ E0 E1
  have c2 := S3.swap.cell 2
  have S4 := S3.re [2, 0, 1]
  clear S3
  have hdl := del_one_r (F := F.set i' (entDo x e)) (i := i') S4 (by rw [List.length_set, ← HN.out]; exact hiF) (by rw [List.length_set, ← HN.out]; exact hfew)
  rw [take_set_self, show ((i' + 1 : Nat) : Int) = (i' : Int) + 1 by omega] at hdl
  obtain ⟨F2, hF2⟩ : ∃ F2, F2 = F.take i' ++ F.drop (i' + 1) := ⟨_, rfl⟩
  rw [← hF2] at hdl hK
  clear hF2
  clear S4
  rw [HV.out] at c2 hdl
  go_wp2_with fail
  (with_reducible refine hdl.mono ?_)
  clear hdl c2
  rintro e1 w5 ⟨v', rfl, S5⟩
  obtain ⟨A', c', rfl, -⟩ := S5.ownSlice
  have S6 := S5.pull2
  have c2 := S6.cell 2
  have f2 := S6.frozen 2
  have S7 := S6.setCell 2 (.slice A' F2.length c')
  clear S5 S6
  go_upto_region 9 with fail
  refine wp_world S7 fun w6 S8 => ?_
  clear S7 c2 f2
  have T1 := S8.re [3, 4, 0, 1, 2]
  clear S8
  refine wp_act fun a0 ha0 => ?_
  have HSZ : a0.tmps.size = 65 := by rw [ha0]; rfl
  have E11 : a0.eval (.tmp 11) = .int .i64 er := by rw [ha0]; rfl
  have E12 : a0.eval (.tmp 12) = .pointer (some ⟨z, 0, none⟩) := by rw [ha0]; rfl
  have E7 : a0.eval (.tmp 7) = .pointer (some ⟨a, 0, none⟩) := by rw [ha0]; rfl
  refine wp_region_sat (by kernel_rfl) 4 (by kernel_rfl) [[], [], [0, 0], [1, 2, 0, 1, 2]] (by kernel_rfl) (by kernel_rfl) [(0, 63, .int .i64 er), (1, 64, .agg #[.int .i64 cd, .bool cn]), (2, 6, .int .i64 er)] (fun f => blk a (cond (f 3) #[.int .i64 cd, .bool cn] #[.int .i64 0, .bool false]) 95 :: blk z #[.int .i64 cd, .bool cn] 95 :: blk g #[.int .i64 ten, .int .i64 quo, .slice A' F2.length c', .slice (some ⟨b2, 0, none⟩) M cap2, .int .i64 last] 114 :: ownS 160 11 (.slice A' F2.length c') F2.length (encs Ent.enc F2) :: blk b2 (cur2.setIfInBounds T (.int .i64 (y - 1))) 3 :: l) (by kernel_rfl) T1 ?_ ?_
  · refine ⟨?_, ?_, ?_, ?_, trivial⟩
    · intro f W h0 hd S
      refine wpOp_run (v := .int .i64 er) rfl rfl (fun ρ hρ => ?_) ⟨(acts_some 0 rfl (by kernel_rfl) (by kernel_rfl)).symm, S⟩
      have e0 : ρ (.tmp 11) = .int .i64 er := by rw [hρ]; exact (acts_eval_tmp 11 (by kernel_rfl)).trans E11
      clear hρ
      go_simp
    · intro f W h1 hd S
      refine wpOp_list rfl ?_
      refine st_load rfl _ _ rfl _ ((acts_eval_tmp 12 (by kernel_rfl)).trans E12) _ _ (S.swap) _ rfl rfl rfl ?_
      exact ⟨(acts_some 1 rfl (by kernel_rfl) (by kernel_rfl)).symm, S⟩
    · intro f W h2 hd S
      refine wpOp_run (v := .int .i64 er) rfl rfl (fun ρ hρ => ?_) ⟨(acts_some 2 rfl (by kernel_rfl) (by kernel_rfl)).symm, S⟩
      have e0 : ρ (.tmp 63) = .int .i64 er := by rw [hρ]; exact acts_eval_hit 0 rfl hd.1 (by rw [HSZ]; rfl) (by kernel_rfl)
      clear hρ
      go_simp
    · intro f W h3 hd S
      rw [h3] at S
      refine wpOp_list rfl ?_
      refine st_store rfl _ _ _ rfl _ _ ((acts_eval_tmp 7 (by kernel_rfl)).trans E7) (acts_eval_hit 1 rfl hd.1 (by rw [HSZ]; rfl) (by kernel_rfl)) _ _ (S) rfl rfl (by simp [Value.oneCell']) fun W' S' => ?_
      exact ⟨(acts_none 3 (by kernel_rfl)).symm, S'⟩
  intro W9 T2
  subst ha0
  simp only [acts, if_true, Act.put, List.setIfInBounds_toArray, List.set_cons_succ, List.set_cons_zero]
  change Sat _ _ (blk a #[.int .i64 cd, .bool cn] _ :: _) at T2
  have HT2 := Lib.hid T2
  clear T2 T1 HSZ E7 E11 E12
  go_wp2_with fail
  refine bodyPost_ret (results_t_cell rfl _ _ _ _ _ _ rfl (HT2.out).blk_at Tryz.underlying95 rfl (by kernel_rfl)) rfl ?_
  refine hK.out _ _ ⟨rfl, ?_⟩
  have T3 := HT2.out.drop.drop
  have hset := HLA.out.set (i := T) HTL.out (y - 1)
  have T4 := (T3.re [2, 0, 1]).layClose (cur := cur2.setIfInBounds T (.int .i64 (y - 1))) (F := L.set T (y - 1)) (by simpa [lenc_r, setMid] using hset) HCP.out M (by rw [List.length_set]; exact HM.out)
  exact rg_iff.2 ⟨_, _, T4.re [1, 2, 0]⟩
theorem rg_do (H : Sat G w (rgA g ten quo F L last :: l)) (hw : RWf ten quo F L last) (hF : Rising F) (ht : TabG G) (hb : ∀ x ∈ F, ∀ y ∈ x.C, 0 ≤ y ∧ y ≤ 1000) (id e : Int) :
    Calls Tryz.prog 56 #[.pointer (some ⟨g, 0, none⟩), .int .i64 id, .int .i64 e] w fun y w' => y = .returned (.tuple #[.int .i64 (gDo ten F L id e).err, .agg #[.int .i64 (gDo ten F L id e).code, .bool (gDo ten F L id e).conn]]) ∧ Sat G w' (rgA g ten quo (gDo ten F L id e).F (gDo ten F L id e).L last :: l) := by
  by_cases h : ∃ x ∈ F, x.id = id
  · obtain ⟨x, hx, rfl⟩ := h
    obtain ⟨i, hi⟩ := List.mem_iff_getElem?.1 hx
    have e1 : gDo ten F L x.id e = gDoAt ten F L i x e := by
      unfold gDo
      rw [atE_some hF hi]
      simp only [hi]
    rw [e1]
    have e2 : (gDoAt ten F L i x e).err = (pDo x.n e).err ∧ (gDoAt ten F L i x e).code = (pDo x.n e).code ∧ (gDoAt ten F L i x e).conn = (pDo x.n e).conn := by
      unfold gDoAt; split <;> exact ⟨rfl, rfl, rfl⟩
    rw [e2.1, e2.2.1, e2.2.2]
    by_cases h4 : (pDo x.n e).n = 4
    · exact rg_do_gone H hw hF ht i x hi (hb x hx) e h4
    · exact rg_do_stay H hw hF ht i x hi (hb x hx) e h4
  · have hno : ∀ x ∈ F, x.id ≠ id := fun x hx e => h ⟨x, hx, e⟩
    have e1 : gDo ten F L id e = ⟨F, L, 14, 0, false⟩ := by
      unfold gDo
      rw [atE_none hno]
    rw [e1]
    exact rg_do_none H hF hw.few id e hno
end
end Go.Proofs.YtcecfhfbcdbofaaGreatDoor
set_option linter.unusedSimpArgs false
set_option linter.unusedVariables false
namespace Go.Proofs.YtcecfhfbcdbofaaGreatDoor
open Go.RowKit
def absF (ten : Int) (x : Ent) : Int × Int × Int := (x.id, ownT x.id ten, x.n)

/-- An entry: number, tenant, state. -/
def eenc (x : Int × Int × Int) : Array Value := #[.int .i64 x.1, .int .i64 x.2.1, .int .i64 x.2.2]
section
variable {G : Gnd} {w w' : World} {l : List Asrt} {g : Nat} {ten quo last : Int} {F : List Ent} {L : List Int}
set_option maxHeartbeats 4000000 in
set_option maxRecDepth 100000 in
theorem rg_entry (H : Sat G w l) (hg : ∀ W : World, Sat G W l → W.cell? ⟨g, 0, none⟩ = some (.int .i64 ten)) (x : Ent) :
    Calls Tryz.prog 86 #[.pointer (some ⟨g, 0, none⟩), .agg x.enc.toArray] w fun e w' => e = .returned (.agg (eenc (absF ten x))) ∧ Sat G w' l := by
  refine calls_any fun K hK => ?_
  obtain ⟨id, n, C, hC⟩ := x
  obtain ⟨c0, c1, c2, c3, c4, c5, c6, c7, c8, rfl⟩ := nine hC
  simp only [absF, eenc] at hK
  show Calls _ _ #[.pointer (some ⟨g, 0, none⟩), .agg #[.int .i64 id, .int .i64 n, .int .i64 c0, .int .i64 c1, .int .i64 c2, .int .i64 c3, .int .i64 c4, .int .i64 c5, .int .i64 c6, .int .i64 c7, .int .i64 c8]] _ _
  obtain ⟨tn, htn⟩ : ∃ tn, tn = ownT id ten := ⟨_, rfl⟩
  rw [← htn] at hK
  have S1 := (H.newBlk #[.int .i64 id, .int .i64 n, .int .i64 c0, .int .i64 c1, .int .i64 c2, .int .i64 c3, .int .i64 c4, .int .i64 c5, .int .i64 c6, .int .i64 c7, .int .i64 c8] 160).newBlk #[.int .i64 0, .int .i64 0, .int .i64 0] 133
  simp only [World.size_alloc] at S1
  clear H
  go_enter Tryz.func86, Tryz.ntmps86
  go_upto_region 1 with fail
  generalize w.heap.size + 1 = q at *
  generalize w.heap.size = r at *
  refine wp_world S1 fun W2 S2 => ?_
  clear S1
  refine wp_act fun a0 ha0 => ?_
  have HSZ : a0.tmps.size = 14 := by rw [ha0]; rfl
  have E0 : a0.eval (.tmp 0) = .pointer (some ⟨g, 0, none⟩) := by rw [ha0]; rfl
  have E3 : a0.eval (.tmp 3) = .pointer (some ⟨r, 0, none⟩) := by rw [ha0]; rfl
  have E4 : a0.eval (.tmp 4) = .pointer (some ⟨q, 0, none⟩) := by rw [ha0]; rfl
  refine wp_region_J (by kernel_rfl) 10 (by kernel_rfl) [[], [0], [], [], [3], [2, 4], [], [6, 5], [1, 5, 7], [8, 7, 0, 1, 2, 3, 4, 5, 6, 7, 8]] (by kernel_rfl) (by kernel_rfl) (fun f a' W => a' = acts [(0, 5, .pointer (some ⟨r, 0, none⟩)), (1, 6, .int .i64 id), (2, 7, .pointer (some ⟨g, 0, none⟩)), (3, 8, .pointer (some ⟨r, 0, none⟩)), (4, 9, .int .i64 id), (5, 10, .int .i64 tn), (6, 11, .pointer (some ⟨r, 1, none⟩)), (7, 12, .int .i64 n), (8, 13, .agg #[.int .i64 id, .int .i64 tn, .int .i64 n])] f a0 ∧ Sat G W (blk q (cond (f 9) #[.int .i64 id, .int .i64 tn, .int .i64 n] #[.int .i64 0, .int .i64 0, .int .i64 0]) 133 :: blk r #[.int .i64 id, .int .i64 n, .int .i64 c0, .int .i64 c1, .int .i64 c2, .int .i64 c3, .int .i64 c4, .int .i64 c5, .int .i64 c6, .int .i64 c7, .int .i64 c8] 160 :: l)) ?_ ?_ ?_
  · exact ⟨rfl, S2.drew⟩
  · refine ⟨?_, ?_, ?_, ?_, ?_, ?_, ?_, ?_, ?_, ?_, trivial⟩
    · rintro f a' W h0 hd ⟨rfl, S⟩
      refine wpOp_run (v := .pointer (some ⟨r, 0, none⟩)) rfl rfl (fun ρ hρ => ?_) ⟨(acts_some 0 rfl (by kernel_rfl) (by kernel_rfl)).symm, S⟩
      have e0 : ρ (.tmp 3) = .pointer (some ⟨r, 0, none⟩) := by rw [hρ]; exact (acts_eval_tmp 3 (by kernel_rfl)).trans E3
      clear hρ
      go_simp
    · rintro f a' W h1 hd ⟨rfl, S⟩
      refine wpOp_run (v := .int .i64 id) rfl rfl (fun ρ hρ => ?_) ⟨(acts_some 1 rfl (by kernel_rfl) (by kernel_rfl)).symm, S⟩
      have e0 : ρ (.tmp 5) = .pointer (some ⟨r, 0, none⟩) := by rw [hρ]; exact acts_eval_hit 0 rfl hd.1 (by rw [HSZ]; rfl) (by kernel_rfl)
      clear hρ
      (have z : W.cell? ⟨r, 0, none⟩ = some (.int .i64 id) := S.swap.cell 0)
      go_simp
    · rintro f a' W h2 hd ⟨rfl, S⟩
      refine wpOp_run (v := .pointer (some ⟨g, 0, none⟩)) rfl rfl (fun ρ hρ => ?_) ⟨(acts_some 2 rfl (by kernel_rfl) (by kernel_rfl)).symm, S⟩
      have e0 : ρ (.tmp 0) = .pointer (some ⟨g, 0, none⟩) := by rw [hρ]; exact (acts_eval_tmp 0 (by kernel_rfl)).trans E0
      clear hρ
      go_simp
    · rintro f a' W h3 hd ⟨rfl, S⟩
      refine wpOp_run (v := .pointer (some ⟨r, 0, none⟩)) rfl rfl (fun ρ hρ => ?_) ⟨(acts_some 3 rfl (by kernel_rfl) (by kernel_rfl)).symm, S⟩
      have e0 : ρ (.tmp 3) = .pointer (some ⟨r, 0, none⟩) := by rw [hρ]; exact (acts_eval_tmp 3 (by kernel_rfl)).trans E3
      clear hρ
      go_simp
    · rintro f a' W h4 hd ⟨rfl, S⟩
      refine wpOp_run (v := .int .i64 id) rfl rfl (fun ρ hρ => ?_) ⟨(acts_some 4 rfl (by kernel_rfl) (by kernel_rfl)).symm, S⟩
      have e0 : ρ (.tmp 8) = .pointer (some ⟨r, 0, none⟩) := by rw [hρ]; exact acts_eval_hit 3 rfl hd.1 (by rw [HSZ]; rfl) (by kernel_rfl)
      clear hρ
      (have z : W.cell? ⟨r, 0, none⟩ = some (.int .i64 id) := S.swap.cell 0)
      go_simp
    · rintro f a' W h5 hd ⟨rfl, S⟩
      refine wpOp_call rfl rfl (fun ρ hρ => ?_) ((rg_owner (hg W S.drop.drop) id)) ?_
      · skip
        have e0 : ρ (.tmp 7) = .pointer (some ⟨g, 0, none⟩) := by rw [hρ]; exact acts_eval_hit 2 rfl hd.1 (by rw [HSZ]; rfl) (by kernel_rfl)
        have e1 : ρ (.tmp 9) = .int .i64 id := by rw [hρ]; exact acts_eval_hit 4 rfl hd.2.1 (by rw [HSZ]; rfl) (by kernel_rfl)
        have ef : ρ (.func 84) = .func (.func 84) #[] #[] := by rw [hρ]; rfl
        clear hρ
        go_simp
      · (rintro e W' ⟨rfl, rfl⟩; rw [← htn]; exact ⟨_, rfl, acts_swap rfl (k := 5) rfl (by kernel_rfl) (by kernel_rfl), S⟩)
    · rintro f a' W h6 hd ⟨rfl, S⟩
      refine wpOp_run (v := .pointer (some ⟨r, 1, none⟩)) rfl rfl (fun ρ hρ => ?_) ⟨(acts_some 6 rfl (by kernel_rfl) (by kernel_rfl)).symm, S⟩
      have e0 : ρ (.tmp 3) = .pointer (some ⟨r, 0, none⟩) := by rw [hρ]; exact (acts_eval_tmp 3 (by kernel_rfl)).trans E3
      clear hρ
      go_simp
    · rintro f a' W h7 hd ⟨rfl, S⟩
      refine wpOp_call rfl rfl (fun ρ hρ => ?_) ((rn_at2 (S.swap.cell 1))) ?_
      · skip
        have e0 : ρ (.tmp 11) = .pointer (some ⟨r, 1, none⟩) := by rw [hρ]; exact acts_eval_hit 6 rfl hd.1 (by rw [HSZ]; rfl) (by kernel_rfl)
        have ef : ρ (.func 82) = .func (.func 82) #[] #[] := by rw [hρ]; rfl
        clear hρ
        go_simp
      · (rintro e W' ⟨rfl, rfl⟩; exact ⟨_, rfl, acts_swap rfl (k := 7) rfl (by kernel_rfl) (by kernel_rfl), S⟩)
    · rintro f a' W h8 hd ⟨rfl, S⟩
      refine wpOp_run (v := .agg #[.int .i64 id, .int .i64 tn, .int .i64 n]) rfl rfl (fun ρ hρ => ?_) ⟨(acts_some 8 rfl (by kernel_rfl) (by kernel_rfl)).symm, S⟩
      have e0 : ρ (.tmp 6) = .int .i64 id := by rw [hρ]; exact acts_eval_hit 1 rfl hd.1 (by rw [HSZ]; rfl) (by kernel_rfl)
      have e1 : ρ (.tmp 10) = .int .i64 tn := by rw [hρ]; exact acts_eval_hit 5 rfl hd.2.1 (by rw [HSZ]; rfl) (by kernel_rfl)
      have e2 : ρ (.tmp 12) = .int .i64 n := by rw [hρ]; exact acts_eval_hit 7 rfl hd.2.2.1 (by rw [HSZ]; rfl) (by kernel_rfl)
      clear hρ
      go_simp
    · rintro f a' W h9 hd ⟨rfl, S⟩
      rw [h9] at S
      refine wpOp_list rfl ?_
      refine st_store rfl _ _ _ rfl _ _ ((acts_eval_tmp 4 (by kernel_rfl)).trans E4) (acts_eval_hit 8 rfl hd.1 (by rw [HSZ]; rfl) (by kernel_rfl)) _ _ (S) rfl rfl (by simp [Value.oneCell']) fun W' S' => ?_
      exact ⟨(acts_none 9 (by kernel_rfl)).symm, S'⟩
  · rintro a' W3 ⟨rfl, S3⟩
    subst ha0
    simp only [acts, if_true, Act.put, List.setIfInBounds_toArray, List.set_cons_succ, List.set_cons_zero]
    change Sat _ _ (blk q #[.int .i64 id, .int .i64 tn, .int .i64 n] _ :: _) at S3
    clear S2 HSZ E0 E3 E4
    go_wp2_with fail
    exact ret_cell S3 _ _ rfl _ rfl Tryz.underlying133 rfl (by kernel_rfl) rfl (hK.out _ _ ⟨rfl, S3.drop.drop⟩)
end
end Go.Proofs.YtcecfhfbcdbofaaGreatDoor
set_option linter.unusedSimpArgs false
set_option linter.unusedVariables false
namespace Go.Proofs.YtcecfhfbcdbofaaGreatDoor
open Go.RowKit

section
variable {G : Gnd} {w : World} {l : List Asrt} {g : Nat} {ten quo last : Int} {F : List Ent} {L : List Int}
set_option maxHeartbeats 4000000 in
set_option maxRecDepth 100000 in
theorem rg_get_none (H : Sat G w (rgA g ten quo F L last :: l)) (hF : Rising F) (hn : F.length ≤ 10000) (id : Int) (hno : ∀ x ∈ F, x.id ≠ id) :
    Calls Tryz.prog 57 #[.pointer (some ⟨g, 0, none⟩), .int .i64 id] w fun e w' => e = .returned (.tuple #[.agg #[.int .i64 0, .int .i64 0, .int .i64 0], .int .i64 14]) ∧ Sat G w' (rgA g ten quo F L last :: l) := by
  refine calls_any fun K hK => ?_
  have S1 := H.newBlk #[.int .i64 0, .int .i64 0, .int .i64 0] 133
  have hf := rg_find S1.swap hF (by omega) id
  clear H S1
  go_enter Tryz.func57, Tryz.ntmps57
  go_wp2_with fail
  (with_reducible refine hf.mono ?_)
  clear hf
  rintro e w1 ⟨i, ok, rfl, hi, hfo, S2⟩
  cases ok with
  | true =>
    obtain ⟨x, hx, he⟩ := hfo
    exact absurd he (hno x (List.mem_of_getElem? hx))
  | false =>
    generalize w.heap.size = a at *
    have S3 := S2.swap
    clear S2 hfo hno
    have d0 := S3.cell 0
    have d1 := S3.cell 1
    have d2 := S3.cell 2
    have f0 := S3.frozen 0
    have f1 := S3.frozen 1
    have f2 := S3.frozen 2
    have HS := Lib.hid (((S3.setCell 0 (.int .i64 0)).setCell 1 (.int .i64 0)).setCell 2 (.int .i64 0))
    clear S3
    go_wp2_with fail
    refine bodyPost_ret (results_cell_t rfl _ _ _ _ _ _ rfl (HS.out).blk_at Tryz.underlying133 rfl (by kernel_rfl)) rfl ?_
    exact hK.out _ _ ⟨rfl, HS.out.drop⟩
set_option maxHeartbeats 4000000 in
set_option maxRecDepth 100000 in
theorem rg_get_some (H : Sat G w (rgA g ten quo F L last :: l)) (hF : Rising F) (hn : F.length ≤ 10000) (i : Nat) (x : Ent) (hx : F[i]? = some x) :
    Calls Tryz.prog 57 #[.pointer (some ⟨g, 0, none⟩), .int .i64 x.id] w fun e w' => e = .returned (.tuple #[.agg (eenc (absF ten x)), .int .i64 0]) ∧ Sat G w' (rgA g ten quo F L last :: l) := by
  refine calls_any fun K hK => ?_
  have S1 := H.newBlk #[.int .i64 0, .int .i64 0, .int .i64 0] 133
  have hf := rg_find S1.swap hF (by omega) x.id
  clear H S1
  go_enter Tryz.func57, Tryz.ntmps57
  go_wp2_with fail
  (with_reducible refine hf.mono ?_)
  clear hf
  rintro e w1 ⟨j, ok, rfl, hj, hfo, S2⟩
  cases ok with
  | false => exact absurd rfl (hfo x (List.mem_of_getElem? hx))
  | true =>
    obtain ⟨x', hx', he⟩ := hfo
    have hij : j = i := by
      have e1 := atE_some hF hx
      have e2 := atE_some hF hx'
      rw [he, e1] at e2
      exact (Option.some.inj e2).symm
    subst hij
    generalize w.heap.size = a at *
    obtain ⟨v, u, S3⟩ := rg_iff.1 S2
    have hjl := (List.getElem?_eq_some_iff.1 hx).1
    obtain ⟨bb, cap, cur, rfl, hcap, La, S4⟩ := (S3.swap).layOpen ent_len (by omega)
    obtain ⟨e0, e1, e2, e3, e4, e5, e6, e7, e8, hC⟩ := nine x.hC
    obtain ⟨d0, d1, d2, d3, d4, d5, d6, d7, d8, d9, d10⟩ := one_cells La S4 hx hC
    have c2 := S3.cell 2
    have hent := rg_entry (ten := ten) (g := g) S3 (fun W S => S.cell 0) x
    have hxe : x.enc = [.int .i64 x.id, .int .i64 x.n, .int .i64 e0, .int .i64 e1, .int .i64 e2, .int .i64 e3, .int .i64 e4, .int .i64 e5, .int .i64 e6, .int .i64 e7, .int .i64 e8] := by simp [Ent.enc, ints_r, hC]
    rw [hxe] at hent
    have hcl : F.length ≤ cap := La.len
    have hcm : cap ≤ 9223372036854775807 := hcap
    obtain ⟨N, hN⟩ : ∃ N, N = F.length := ⟨_, rfl⟩
    have hjN : j < N := by omega
    have hjN2 : (j : Int) < (N : Int) := by omega
    have HCL : Hid (∀ W, Sat G W (blk g #[.int .i64 ten, .int .i64 quo, .slice (some ⟨bb, 0, none⟩) N cap, u, .int .i64 last] 114 :: ownS 160 11 (.slice (some ⟨bb, 0, none⟩) N cap) N (encs Ent.enc F) :: ownS 3 1 u L.length (encs lenc_r L) :: l) → Sat G W (rgA g ten quo F L last :: l)) := Lib.hid fun W S => by
      rw [hN] at S
      exact rg_iff.2 ⟨_, _, S⟩
    rw [← hN] at hent c2 hcl
    clear S2 S3 S4 La hx hx' he hxe hC hj hjl hN
    go_wp2_with fail
    (with_reducible refine hent.mono ?_)
    clear hent d0 d1 d2 d3 d4 d5 d6 d7 d8 d9 d10 c2
    rintro e w2 ⟨rfl, S5⟩
    have S6 := S5.re [3, 0, 1, 2]
    have g0 := S6.cell 0
    have g1 := S6.cell 1
    have g2 := S6.cell 2
    have f0 := S6.frozen 0
    have f1 := S6.frozen 1
    have f2 := S6.frozen 2
    have HS := Lib.hid (((S6.setCell 0 (.int .i64 x.id)).setCell 1 (.int .i64 (ownT x.id ten))).setCell 2 (.int .i64 x.n))
    clear S5 S6
    unfold eenc absF
    go_wp2_with fail
    refine bodyPost_ret (results_cell_t rfl _ _ _ _ _ _ rfl (HS.out).blk_at Tryz.underlying133 rfl (by kernel_rfl)) rfl ?_
    exact hK.out _ _ ⟨rfl, HCL.out _ HS.out.drop⟩
theorem own_cells {e : TypeId} {size n c : Nat} {A : Option Addr} {xs : List Value} {g o : Nat} (S : Sat G w (ownS e size (.slice (some ⟨g, o, none⟩) n c) n xs :: l)) : ∀ k u, xs[k]? = some u → w.cell? ((⟨g, o, none⟩ : Addr).add k) = some u := by
  intro k u hk
  obtain ⟨hl, ⟨e1, -⟩ | ⟨g', cap, cur, e1, hc, hm, hs, ht, H⟩⟩ := own_iff.1 S
  · cases e1
  · cases e1
    have ea : (⟨g, 0, none⟩ : Addr).add k = ⟨g, k, none⟩ := by unfold Addr.add; split <;> simp_all
    rw [ea, H.cell]
    have hlt := (List.getElem?_eq_some_iff.1 hk).1
    rw [← ht, List.getElem?_take] at hk
    split at hk
    · simpa using hk
    · cases hk
end
end Go.Proofs.YtcecfhfbcdbofaaGreatDoor
