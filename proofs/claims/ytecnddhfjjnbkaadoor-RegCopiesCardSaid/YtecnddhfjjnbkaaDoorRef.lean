/- The reference: its states, and what an event makes of them: the walks. -/
import Derived.Test.YtecnddhfjjnbkaaDoorDo
set_option linter.unusedSimpArgs false
set_option linter.unusedVariables false
namespace Go.Proofs.YtecnddhfjjnbkaaDoor
open Go.RowKit

structure R4 where
  b : Int
  w : Int
  t : Int
  r : Int
deriving DecidableEq
def R4.cells (x : R4) : Array Value := #[.int .i64 x.b, .int .i64 x.w, .int .i64 x.t, .int .i64 x.r]
def goods : List R4 := [⟨0, 1, 1, 0⟩, ⟨1, 0, 0, 0⟩, ⟨1, 0, 0, 1⟩, ⟨1, 0, 1, 0⟩, ⟨1, 0, 1, 1⟩, ⟨1, 1, 0, 0⟩, ⟨1, 1, 0, 1⟩, ⟨1, 1, 1, 0⟩, ⟨1, 1, 1, 1⟩]
def rNum (x : R4) : Int := if x.b = 0 then 0 else if x.r = 1 ∨ (x.w = 0 ∧ x.t = 0) then 4 else if x.t = 0 then 2 else if x.w = 0 then 3 else 1
def rDo (x : R4) (e : Int) : R4 × Int :=
  if e ≤ 3 then
    if rNum x = 4 ∨ (rNum x = 0 ∧ e ≠ 0) ∨ (x.w = 0 ∧ e ≠ 3) then (x, 1) else (⟨1, if e = 2 then 0 else x.w, x.t, if e = 3 then 1 else x.r⟩, 0)
  else if rNum x = 0 then (x, 2)
  else if e = 7 then (⟨x.b, x.w, x.t, 1⟩, 0)
  else if e = 8 then (x, 0)
  else if rNum x = 4 ∨ x.t = 0 then (⟨x.b, x.w, x.t, 1⟩, 3)
  else if e = 6 then (⟨x.b, x.w, 0, x.r⟩, 0) else (x, 0)
section
variable {G : Gnd} {w : World} {l : List Asrt}
theorem ref_number (x : R4) (hx : x ∈ goods) (w : World) : Calls Tryd.prog 35 #[.agg x.cells] w fun y w' => y = .returned (.int .i64 (rNum x)) ∧ w' = w.alloc (.cells x.cells 57) := by
  refine calls_any fun K hK => ?_
  simp only [goods, List.mem_cons, List.not_mem_nil, or_false] at hx
  rcases hx with rfl | rfl | rfl | rfl | rfl | rfl | rfl | rfl | rfl
  · simp only [R4.cells] at hK ⊢
    go_enter Tryd.func35, Tryd.ntmps35
    go_wp2_with fail
    exact hK.out _ _ ⟨rfl, rfl⟩
  · simp only [R4.cells] at hK ⊢
    go_enter Tryd.func35, Tryd.ntmps35
    go_wp2_with fail
    exact hK.out _ _ ⟨rfl, rfl⟩
  · simp only [R4.cells] at hK ⊢
    go_enter Tryd.func35, Tryd.ntmps35
    go_wp2_with fail
    exact hK.out _ _ ⟨rfl, rfl⟩
  · simp only [R4.cells] at hK ⊢
    go_enter Tryd.func35, Tryd.ntmps35
    go_wp2_with fail
    exact hK.out _ _ ⟨rfl, rfl⟩
  · simp only [R4.cells] at hK ⊢
    go_enter Tryd.func35, Tryd.ntmps35
    go_wp2_with fail
    exact hK.out _ _ ⟨rfl, rfl⟩
  · simp only [R4.cells] at hK ⊢
    go_enter Tryd.func35, Tryd.ntmps35
    go_wp2_with fail
    exact hK.out _ _ ⟨rfl, rfl⟩
  · simp only [R4.cells] at hK ⊢
    go_enter Tryd.func35, Tryd.ntmps35
    go_wp2_with fail
    exact hK.out _ _ ⟨rfl, rfl⟩
  · simp only [R4.cells] at hK ⊢
    go_enter Tryd.func35, Tryd.ntmps35
    go_wp2_with fail
    exact hK.out _ _ ⟨rfl, rfl⟩
  · simp only [R4.cells] at hK ⊢
    go_enter Tryd.func35, Tryd.ntmps35
    go_wp2_with fail
    exact hK.out _ _ ⟨rfl, rfl⟩
theorem ref_new (H : Sat G w l) : Calls Tryd.prog 46 #[] w fun y w' => y = .returned (.agg (R4.cells ⟨0, 1, 1, 0⟩)) ∧ Sat G w' l := by
  refine calls_any fun K hK => ?_
  have S := H.newBlk (R4.cells ⟨0, 1, 1, 0⟩) 57
  have HS := Lib.hid S
  clear S H
  go_enter Tryd.func46, Tryd.ntmps46
  go_wp2_with fail
  refine ret_cell HS.out 0 57 rfl _ rfl Tryd.underlying57 rfl (by kernel_rfl) rfl ?_
  exact hK.out _ _ ⟨rfl, HS.out.drop⟩
set_option maxHeartbeats 4000000 in
set_option maxRecDepth 100000 in
theorem ref_do_0 (H : Sat G w l) (e : Nat) (he : e < 9) : Calls Tryd.prog 45 #[.agg (R4.cells ⟨0, 1, 1, 0⟩), .int .i64 e] w fun y w' => y = .returned (.tuple #[.agg (rDo ⟨0, 1, 1, 0⟩ e).1.cells, .int .i64 (rDo ⟨0, 1, 1, 0⟩ e).2]) ∧ Sat G w' l := by
  refine calls_any fun K hK => ?_
  have hn := fun W => ref_number ⟨0, 1, 1, 0⟩ (by decide) W
  have hs : e = 0 ∨ e = 1 ∨ e = 2 ∨ e = 3 ∨ e = 4 ∨ e = 5 ∨ e = 6 ∨ e = 7 ∨ e = 8 := by omega
  have HS := Lib.hid fun (c1 c2 c3 : Array Value) => (by have S := ((H.newBlk c1 57).newBlk c2 57).newBlk c3 57; simp only [World.size_alloc] at S; exact S : Sat G (((w.alloc (.cells c1 57)).alloc (.cells c2 57)).alloc (.cells c3 57)) (blk (w.heap.size + 1 + 1) c3 57 :: blk (w.heap.size + 1) c2 57 :: blk w.heap.size c1 57 :: l))
  clear H
  simp only [R4.cells] at hn ⊢
  rcases hs with rfl | rfl | rfl | rfl | rfl | rfl | rfl | rfl | rfl
  · rw [show rDo ⟨0, 1, 1, 0⟩ ((0 : Nat) : Int) = (⟨1, 1, 1, 0⟩, 0) from by decide] at hK
    simp only [R4.cells] at hK
    go_enter Tryd.func45, Tryd.ntmps45
    go_wp2_with fail
    (with_reducible refine (hn _).mono ?_)
    rintro y w1 ⟨rfl, rfl⟩
    go_wp2_with fail
    refine bodyPost_ret (results_cell_t rfl _ _ _ _ _ _ rfl (HS.out _ _ _).swap.blk_at Tryd.underlying57 rfl (by kernel_rfl)) rfl ?_
    exact hK.out _ _ ⟨rfl, (HS.out _ _ _).drop.drop.drop⟩
  · rw [show rDo ⟨0, 1, 1, 0⟩ ((1 : Nat) : Int) = (⟨0, 1, 1, 0⟩, 1) from by decide] at hK
    simp only [R4.cells] at hK
    go_enter Tryd.func45, Tryd.ntmps45
    go_wp2_with fail
    (with_reducible refine (hn _).mono ?_)
    rintro y w1 ⟨rfl, rfl⟩
    go_wp2_with fail
    refine bodyPost_ret (results_cell_t rfl _ _ _ _ _ _ rfl (HS.out _ _ _).swap.blk_at Tryd.underlying57 rfl (by kernel_rfl)) rfl ?_
    exact hK.out _ _ ⟨rfl, (HS.out _ _ _).drop.drop.drop⟩
  · rw [show rDo ⟨0, 1, 1, 0⟩ ((2 : Nat) : Int) = (⟨0, 1, 1, 0⟩, 1) from by decide] at hK
    simp only [R4.cells] at hK
    go_enter Tryd.func45, Tryd.ntmps45
    go_wp2_with fail
    (with_reducible refine (hn _).mono ?_)
    rintro y w1 ⟨rfl, rfl⟩
    go_wp2_with fail
    refine bodyPost_ret (results_cell_t rfl _ _ _ _ _ _ rfl (HS.out _ _ _).swap.blk_at Tryd.underlying57 rfl (by kernel_rfl)) rfl ?_
    exact hK.out _ _ ⟨rfl, (HS.out _ _ _).drop.drop.drop⟩
  · rw [show rDo ⟨0, 1, 1, 0⟩ ((3 : Nat) : Int) = (⟨0, 1, 1, 0⟩, 1) from by decide] at hK
    simp only [R4.cells] at hK
    go_enter Tryd.func45, Tryd.ntmps45
    go_wp2_with fail
    (with_reducible refine (hn _).mono ?_)
    rintro y w1 ⟨rfl, rfl⟩
    go_wp2_with fail
    refine bodyPost_ret (results_cell_t rfl _ _ _ _ _ _ rfl (HS.out _ _ _).swap.blk_at Tryd.underlying57 rfl (by kernel_rfl)) rfl ?_
    exact hK.out _ _ ⟨rfl, (HS.out _ _ _).drop.drop.drop⟩
  · rw [show rDo ⟨0, 1, 1, 0⟩ ((4 : Nat) : Int) = (⟨0, 1, 1, 0⟩, 2) from by decide] at hK
    simp only [R4.cells] at hK
    go_enter Tryd.func45, Tryd.ntmps45
    go_wp2_with fail
    (with_reducible refine (hn _).mono ?_)
    rintro y w1 ⟨rfl, rfl⟩
    go_wp2_with fail
    refine bodyPost_ret (results_cell_t rfl _ _ _ _ _ _ rfl (HS.out _ _ _).swap.blk_at Tryd.underlying57 rfl (by kernel_rfl)) rfl ?_
    exact hK.out _ _ ⟨rfl, (HS.out _ _ _).drop.drop.drop⟩
  · rw [show rDo ⟨0, 1, 1, 0⟩ ((5 : Nat) : Int) = (⟨0, 1, 1, 0⟩, 2) from by decide] at hK
    simp only [R4.cells] at hK
    go_enter Tryd.func45, Tryd.ntmps45
    go_wp2_with fail
    (with_reducible refine (hn _).mono ?_)
    rintro y w1 ⟨rfl, rfl⟩
    go_wp2_with fail
    refine bodyPost_ret (results_cell_t rfl _ _ _ _ _ _ rfl (HS.out _ _ _).swap.blk_at Tryd.underlying57 rfl (by kernel_rfl)) rfl ?_
    exact hK.out _ _ ⟨rfl, (HS.out _ _ _).drop.drop.drop⟩
  · rw [show rDo ⟨0, 1, 1, 0⟩ ((6 : Nat) : Int) = (⟨0, 1, 1, 0⟩, 2) from by decide] at hK
    simp only [R4.cells] at hK
    go_enter Tryd.func45, Tryd.ntmps45
    go_wp2_with fail
    (with_reducible refine (hn _).mono ?_)
    rintro y w1 ⟨rfl, rfl⟩
    go_wp2_with fail
    refine bodyPost_ret (results_cell_t rfl _ _ _ _ _ _ rfl (HS.out _ _ _).swap.blk_at Tryd.underlying57 rfl (by kernel_rfl)) rfl ?_
    exact hK.out _ _ ⟨rfl, (HS.out _ _ _).drop.drop.drop⟩
  · rw [show rDo ⟨0, 1, 1, 0⟩ ((7 : Nat) : Int) = (⟨0, 1, 1, 0⟩, 2) from by decide] at hK
    simp only [R4.cells] at hK
    go_enter Tryd.func45, Tryd.ntmps45
    go_wp2_with fail
    (with_reducible refine (hn _).mono ?_)
    rintro y w1 ⟨rfl, rfl⟩
    go_wp2_with fail
    refine bodyPost_ret (results_cell_t rfl _ _ _ _ _ _ rfl (HS.out _ _ _).swap.blk_at Tryd.underlying57 rfl (by kernel_rfl)) rfl ?_
    exact hK.out _ _ ⟨rfl, (HS.out _ _ _).drop.drop.drop⟩
  · rw [show rDo ⟨0, 1, 1, 0⟩ ((8 : Nat) : Int) = (⟨0, 1, 1, 0⟩, 2) from by decide] at hK
    simp only [R4.cells] at hK
    go_enter Tryd.func45, Tryd.ntmps45
    go_wp2_with fail
    (with_reducible refine (hn _).mono ?_)
    rintro y w1 ⟨rfl, rfl⟩
    go_wp2_with fail
    refine bodyPost_ret (results_cell_t rfl _ _ _ _ _ _ rfl (HS.out _ _ _).swap.blk_at Tryd.underlying57 rfl (by kernel_rfl)) rfl ?_
    exact hK.out _ _ ⟨rfl, (HS.out _ _ _).drop.drop.drop⟩
set_option maxHeartbeats 4000000 in
set_option maxRecDepth 100000 in
theorem ref_do_1 (H : Sat G w l) (e : Nat) (he : e < 9) : Calls Tryd.prog 45 #[.agg (R4.cells ⟨1, 0, 0, 0⟩), .int .i64 e] w fun y w' => y = .returned (.tuple #[.agg (rDo ⟨1, 0, 0, 0⟩ e).1.cells, .int .i64 (rDo ⟨1, 0, 0, 0⟩ e).2]) ∧ Sat G w' l := by
  refine calls_any fun K hK => ?_
  have hn := fun W => ref_number ⟨1, 0, 0, 0⟩ (by decide) W
  have hs : e = 0 ∨ e = 1 ∨ e = 2 ∨ e = 3 ∨ e = 4 ∨ e = 5 ∨ e = 6 ∨ e = 7 ∨ e = 8 := by omega
  have HS := Lib.hid fun (c1 c2 c3 : Array Value) => (by have S := ((H.newBlk c1 57).newBlk c2 57).newBlk c3 57; simp only [World.size_alloc] at S; exact S : Sat G (((w.alloc (.cells c1 57)).alloc (.cells c2 57)).alloc (.cells c3 57)) (blk (w.heap.size + 1 + 1) c3 57 :: blk (w.heap.size + 1) c2 57 :: blk w.heap.size c1 57 :: l))
  clear H
  simp only [R4.cells] at hn ⊢
  rcases hs with rfl | rfl | rfl | rfl | rfl | rfl | rfl | rfl | rfl
  · rw [show rDo ⟨1, 0, 0, 0⟩ ((0 : Nat) : Int) = (⟨1, 0, 0, 0⟩, 1) from by decide] at hK
    simp only [R4.cells] at hK
    go_enter Tryd.func45, Tryd.ntmps45
    go_wp2_with fail
    (with_reducible refine (hn _).mono ?_)
    rintro y w1 ⟨rfl, rfl⟩
    go_wp2_with fail
    refine bodyPost_ret (results_cell_t rfl _ _ _ _ _ _ rfl (HS.out _ _ _).swap.blk_at Tryd.underlying57 rfl (by kernel_rfl)) rfl ?_
    exact hK.out _ _ ⟨rfl, (HS.out _ _ _).drop.drop.drop⟩
  · rw [show rDo ⟨1, 0, 0, 0⟩ ((1 : Nat) : Int) = (⟨1, 0, 0, 0⟩, 1) from by decide] at hK
    simp only [R4.cells] at hK
    go_enter Tryd.func45, Tryd.ntmps45
    go_wp2_with fail
    (with_reducible refine (hn _).mono ?_)
    rintro y w1 ⟨rfl, rfl⟩
    go_wp2_with fail
    refine bodyPost_ret (results_cell_t rfl _ _ _ _ _ _ rfl (HS.out _ _ _).swap.blk_at Tryd.underlying57 rfl (by kernel_rfl)) rfl ?_
    exact hK.out _ _ ⟨rfl, (HS.out _ _ _).drop.drop.drop⟩
  · rw [show rDo ⟨1, 0, 0, 0⟩ ((2 : Nat) : Int) = (⟨1, 0, 0, 0⟩, 1) from by decide] at hK
    simp only [R4.cells] at hK
    go_enter Tryd.func45, Tryd.ntmps45
    go_wp2_with fail
    (with_reducible refine (hn _).mono ?_)
    rintro y w1 ⟨rfl, rfl⟩
    go_wp2_with fail
    refine bodyPost_ret (results_cell_t rfl _ _ _ _ _ _ rfl (HS.out _ _ _).swap.blk_at Tryd.underlying57 rfl (by kernel_rfl)) rfl ?_
    exact hK.out _ _ ⟨rfl, (HS.out _ _ _).drop.drop.drop⟩
  · rw [show rDo ⟨1, 0, 0, 0⟩ ((3 : Nat) : Int) = (⟨1, 0, 0, 0⟩, 1) from by decide] at hK
    simp only [R4.cells] at hK
    go_enter Tryd.func45, Tryd.ntmps45
    go_wp2_with fail
    (with_reducible refine (hn _).mono ?_)
    rintro y w1 ⟨rfl, rfl⟩
    go_wp2_with fail
    refine bodyPost_ret (results_cell_t rfl _ _ _ _ _ _ rfl (HS.out _ _ _).swap.blk_at Tryd.underlying57 rfl (by kernel_rfl)) rfl ?_
    exact hK.out _ _ ⟨rfl, (HS.out _ _ _).drop.drop.drop⟩
  · rw [show rDo ⟨1, 0, 0, 0⟩ ((4 : Nat) : Int) = (⟨1, 0, 0, 1⟩, 3) from by decide] at hK
    simp only [R4.cells] at hK
    go_enter Tryd.func45, Tryd.ntmps45
    go_wp2_with fail
    (with_reducible refine (hn _).mono ?_)
    rintro y w1 ⟨rfl, rfl⟩
    go_wp2_with fail
    refine bodyPost_ret (results_cell_t rfl _ _ _ _ _ _ rfl (HS.out _ _ _).swap.blk_at Tryd.underlying57 rfl (by kernel_rfl)) rfl ?_
    exact hK.out _ _ ⟨rfl, (HS.out _ _ _).drop.drop.drop⟩
  · rw [show rDo ⟨1, 0, 0, 0⟩ ((5 : Nat) : Int) = (⟨1, 0, 0, 1⟩, 3) from by decide] at hK
    simp only [R4.cells] at hK
    go_enter Tryd.func45, Tryd.ntmps45
    go_wp2_with fail
    (with_reducible refine (hn _).mono ?_)
    rintro y w1 ⟨rfl, rfl⟩
    go_wp2_with fail
    refine bodyPost_ret (results_cell_t rfl _ _ _ _ _ _ rfl (HS.out _ _ _).swap.blk_at Tryd.underlying57 rfl (by kernel_rfl)) rfl ?_
    exact hK.out _ _ ⟨rfl, (HS.out _ _ _).drop.drop.drop⟩
  · rw [show rDo ⟨1, 0, 0, 0⟩ ((6 : Nat) : Int) = (⟨1, 0, 0, 1⟩, 3) from by decide] at hK
    simp only [R4.cells] at hK
    go_enter Tryd.func45, Tryd.ntmps45
    go_wp2_with fail
    (with_reducible refine (hn _).mono ?_)
    rintro y w1 ⟨rfl, rfl⟩
    go_wp2_with fail
    refine bodyPost_ret (results_cell_t rfl _ _ _ _ _ _ rfl (HS.out _ _ _).swap.blk_at Tryd.underlying57 rfl (by kernel_rfl)) rfl ?_
    exact hK.out _ _ ⟨rfl, (HS.out _ _ _).drop.drop.drop⟩
  · rw [show rDo ⟨1, 0, 0, 0⟩ ((7 : Nat) : Int) = (⟨1, 0, 0, 1⟩, 0) from by decide] at hK
    simp only [R4.cells] at hK
    go_enter Tryd.func45, Tryd.ntmps45
    go_wp2_with fail
    (with_reducible refine (hn _).mono ?_)
    rintro y w1 ⟨rfl, rfl⟩
    go_wp2_with fail
    refine bodyPost_ret (results_cell_t rfl _ _ _ _ _ _ rfl (HS.out _ _ _).swap.blk_at Tryd.underlying57 rfl (by kernel_rfl)) rfl ?_
    exact hK.out _ _ ⟨rfl, (HS.out _ _ _).drop.drop.drop⟩
  · rw [show rDo ⟨1, 0, 0, 0⟩ ((8 : Nat) : Int) = (⟨1, 0, 0, 0⟩, 0) from by decide] at hK
    simp only [R4.cells] at hK
    go_enter Tryd.func45, Tryd.ntmps45
    go_wp2_with fail
    (with_reducible refine (hn _).mono ?_)
    rintro y w1 ⟨rfl, rfl⟩
    go_wp2_with fail
    refine bodyPost_ret (results_cell_t rfl _ _ _ _ _ _ rfl (HS.out _ _ _).swap.blk_at Tryd.underlying57 rfl (by kernel_rfl)) rfl ?_
    exact hK.out _ _ ⟨rfl, (HS.out _ _ _).drop.drop.drop⟩
set_option maxHeartbeats 4000000 in
set_option maxRecDepth 100000 in
theorem ref_do_2 (H : Sat G w l) (e : Nat) (he : e < 9) : Calls Tryd.prog 45 #[.agg (R4.cells ⟨1, 0, 0, 1⟩), .int .i64 e] w fun y w' => y = .returned (.tuple #[.agg (rDo ⟨1, 0, 0, 1⟩ e).1.cells, .int .i64 (rDo ⟨1, 0, 0, 1⟩ e).2]) ∧ Sat G w' l := by
  refine calls_any fun K hK => ?_
  have hn := fun W => ref_number ⟨1, 0, 0, 1⟩ (by decide) W
  have hs : e = 0 ∨ e = 1 ∨ e = 2 ∨ e = 3 ∨ e = 4 ∨ e = 5 ∨ e = 6 ∨ e = 7 ∨ e = 8 := by omega
  have HS := Lib.hid fun (c1 c2 c3 : Array Value) => (by have S := ((H.newBlk c1 57).newBlk c2 57).newBlk c3 57; simp only [World.size_alloc] at S; exact S : Sat G (((w.alloc (.cells c1 57)).alloc (.cells c2 57)).alloc (.cells c3 57)) (blk (w.heap.size + 1 + 1) c3 57 :: blk (w.heap.size + 1) c2 57 :: blk w.heap.size c1 57 :: l))
  clear H
  simp only [R4.cells] at hn ⊢
  rcases hs with rfl | rfl | rfl | rfl | rfl | rfl | rfl | rfl | rfl
  · rw [show rDo ⟨1, 0, 0, 1⟩ ((0 : Nat) : Int) = (⟨1, 0, 0, 1⟩, 1) from by decide] at hK
    simp only [R4.cells] at hK
    go_enter Tryd.func45, Tryd.ntmps45
    go_wp2_with fail
    (with_reducible refine (hn _).mono ?_)
    rintro y w1 ⟨rfl, rfl⟩
    go_wp2_with fail
    refine bodyPost_ret (results_cell_t rfl _ _ _ _ _ _ rfl (HS.out _ _ _).swap.blk_at Tryd.underlying57 rfl (by kernel_rfl)) rfl ?_
    exact hK.out _ _ ⟨rfl, (HS.out _ _ _).drop.drop.drop⟩
  · rw [show rDo ⟨1, 0, 0, 1⟩ ((1 : Nat) : Int) = (⟨1, 0, 0, 1⟩, 1) from by decide] at hK
    simp only [R4.cells] at hK
    go_enter Tryd.func45, Tryd.ntmps45
    go_wp2_with fail
    (with_reducible refine (hn _).mono ?_)
    rintro y w1 ⟨rfl, rfl⟩
    go_wp2_with fail
    refine bodyPost_ret (results_cell_t rfl _ _ _ _ _ _ rfl (HS.out _ _ _).swap.blk_at Tryd.underlying57 rfl (by kernel_rfl)) rfl ?_
    exact hK.out _ _ ⟨rfl, (HS.out _ _ _).drop.drop.drop⟩
  · rw [show rDo ⟨1, 0, 0, 1⟩ ((2 : Nat) : Int) = (⟨1, 0, 0, 1⟩, 1) from by decide] at hK
    simp only [R4.cells] at hK
    go_enter Tryd.func45, Tryd.ntmps45
    go_wp2_with fail
    (with_reducible refine (hn _).mono ?_)
    rintro y w1 ⟨rfl, rfl⟩
    go_wp2_with fail
    refine bodyPost_ret (results_cell_t rfl _ _ _ _ _ _ rfl (HS.out _ _ _).swap.blk_at Tryd.underlying57 rfl (by kernel_rfl)) rfl ?_
    exact hK.out _ _ ⟨rfl, (HS.out _ _ _).drop.drop.drop⟩
  · rw [show rDo ⟨1, 0, 0, 1⟩ ((3 : Nat) : Int) = (⟨1, 0, 0, 1⟩, 1) from by decide] at hK
    simp only [R4.cells] at hK
    go_enter Tryd.func45, Tryd.ntmps45
    go_wp2_with fail
    (with_reducible refine (hn _).mono ?_)
    rintro y w1 ⟨rfl, rfl⟩
    go_wp2_with fail
    refine bodyPost_ret (results_cell_t rfl _ _ _ _ _ _ rfl (HS.out _ _ _).swap.blk_at Tryd.underlying57 rfl (by kernel_rfl)) rfl ?_
    exact hK.out _ _ ⟨rfl, (HS.out _ _ _).drop.drop.drop⟩
  · rw [show rDo ⟨1, 0, 0, 1⟩ ((4 : Nat) : Int) = (⟨1, 0, 0, 1⟩, 3) from by decide] at hK
    simp only [R4.cells] at hK
    go_enter Tryd.func45, Tryd.ntmps45
    go_wp2_with fail
    (with_reducible refine (hn _).mono ?_)
    rintro y w1 ⟨rfl, rfl⟩
    go_wp2_with fail
    refine bodyPost_ret (results_cell_t rfl _ _ _ _ _ _ rfl (HS.out _ _ _).swap.blk_at Tryd.underlying57 rfl (by kernel_rfl)) rfl ?_
    exact hK.out _ _ ⟨rfl, (HS.out _ _ _).drop.drop.drop⟩
  · rw [show rDo ⟨1, 0, 0, 1⟩ ((5 : Nat) : Int) = (⟨1, 0, 0, 1⟩, 3) from by decide] at hK
    simp only [R4.cells] at hK
    go_enter Tryd.func45, Tryd.ntmps45
    go_wp2_with fail
    (with_reducible refine (hn _).mono ?_)
    rintro y w1 ⟨rfl, rfl⟩
    go_wp2_with fail
    refine bodyPost_ret (results_cell_t rfl _ _ _ _ _ _ rfl (HS.out _ _ _).swap.blk_at Tryd.underlying57 rfl (by kernel_rfl)) rfl ?_
    exact hK.out _ _ ⟨rfl, (HS.out _ _ _).drop.drop.drop⟩
  · rw [show rDo ⟨1, 0, 0, 1⟩ ((6 : Nat) : Int) = (⟨1, 0, 0, 1⟩, 3) from by decide] at hK
    simp only [R4.cells] at hK
    go_enter Tryd.func45, Tryd.ntmps45
    go_wp2_with fail
    (with_reducible refine (hn _).mono ?_)
    rintro y w1 ⟨rfl, rfl⟩
    go_wp2_with fail
    refine bodyPost_ret (results_cell_t rfl _ _ _ _ _ _ rfl (HS.out _ _ _).swap.blk_at Tryd.underlying57 rfl (by kernel_rfl)) rfl ?_
    exact hK.out _ _ ⟨rfl, (HS.out _ _ _).drop.drop.drop⟩
  · rw [show rDo ⟨1, 0, 0, 1⟩ ((7 : Nat) : Int) = (⟨1, 0, 0, 1⟩, 0) from by decide] at hK
    simp only [R4.cells] at hK
    go_enter Tryd.func45, Tryd.ntmps45
    go_wp2_with fail
    (with_reducible refine (hn _).mono ?_)
    rintro y w1 ⟨rfl, rfl⟩
    go_wp2_with fail
    refine bodyPost_ret (results_cell_t rfl _ _ _ _ _ _ rfl (HS.out _ _ _).swap.blk_at Tryd.underlying57 rfl (by kernel_rfl)) rfl ?_
    exact hK.out _ _ ⟨rfl, (HS.out _ _ _).drop.drop.drop⟩
  · rw [show rDo ⟨1, 0, 0, 1⟩ ((8 : Nat) : Int) = (⟨1, 0, 0, 1⟩, 0) from by decide] at hK
    simp only [R4.cells] at hK
    go_enter Tryd.func45, Tryd.ntmps45
    go_wp2_with fail
    (with_reducible refine (hn _).mono ?_)
    rintro y w1 ⟨rfl, rfl⟩
    go_wp2_with fail
    refine bodyPost_ret (results_cell_t rfl _ _ _ _ _ _ rfl (HS.out _ _ _).swap.blk_at Tryd.underlying57 rfl (by kernel_rfl)) rfl ?_
    exact hK.out _ _ ⟨rfl, (HS.out _ _ _).drop.drop.drop⟩
set_option maxHeartbeats 4000000 in
set_option maxRecDepth 100000 in
theorem ref_do_3 (H : Sat G w l) (e : Nat) (he : e < 9) : Calls Tryd.prog 45 #[.agg (R4.cells ⟨1, 0, 1, 0⟩), .int .i64 e] w fun y w' => y = .returned (.tuple #[.agg (rDo ⟨1, 0, 1, 0⟩ e).1.cells, .int .i64 (rDo ⟨1, 0, 1, 0⟩ e).2]) ∧ Sat G w' l := by
  refine calls_any fun K hK => ?_
  have hn := fun W => ref_number ⟨1, 0, 1, 0⟩ (by decide) W
  have hs : e = 0 ∨ e = 1 ∨ e = 2 ∨ e = 3 ∨ e = 4 ∨ e = 5 ∨ e = 6 ∨ e = 7 ∨ e = 8 := by omega
  have HS := Lib.hid fun (c1 c2 c3 : Array Value) => (by have S := ((H.newBlk c1 57).newBlk c2 57).newBlk c3 57; simp only [World.size_alloc] at S; exact S : Sat G (((w.alloc (.cells c1 57)).alloc (.cells c2 57)).alloc (.cells c3 57)) (blk (w.heap.size + 1 + 1) c3 57 :: blk (w.heap.size + 1) c2 57 :: blk w.heap.size c1 57 :: l))
  clear H
  simp only [R4.cells] at hn ⊢
  rcases hs with rfl | rfl | rfl | rfl | rfl | rfl | rfl | rfl | rfl
  · rw [show rDo ⟨1, 0, 1, 0⟩ ((0 : Nat) : Int) = (⟨1, 0, 1, 0⟩, 1) from by decide] at hK
    simp only [R4.cells] at hK
    go_enter Tryd.func45, Tryd.ntmps45
    go_wp2_with fail
    (with_reducible refine (hn _).mono ?_)
    rintro y w1 ⟨rfl, rfl⟩
    go_wp2_with fail
    refine bodyPost_ret (results_cell_t rfl _ _ _ _ _ _ rfl (HS.out _ _ _).swap.blk_at Tryd.underlying57 rfl (by kernel_rfl)) rfl ?_
    exact hK.out _ _ ⟨rfl, (HS.out _ _ _).drop.drop.drop⟩
  · rw [show rDo ⟨1, 0, 1, 0⟩ ((1 : Nat) : Int) = (⟨1, 0, 1, 0⟩, 1) from by decide] at hK
    simp only [R4.cells] at hK
    go_enter Tryd.func45, Tryd.ntmps45
    go_wp2_with fail
    (with_reducible refine (hn _).mono ?_)
    rintro y w1 ⟨rfl, rfl⟩
    go_wp2_with fail
    refine bodyPost_ret (results_cell_t rfl _ _ _ _ _ _ rfl (HS.out _ _ _).swap.blk_at Tryd.underlying57 rfl (by kernel_rfl)) rfl ?_
    exact hK.out _ _ ⟨rfl, (HS.out _ _ _).drop.drop.drop⟩
  · rw [show rDo ⟨1, 0, 1, 0⟩ ((2 : Nat) : Int) = (⟨1, 0, 1, 0⟩, 1) from by decide] at hK
    simp only [R4.cells] at hK
    go_enter Tryd.func45, Tryd.ntmps45
    go_wp2_with fail
    (with_reducible refine (hn _).mono ?_)
    rintro y w1 ⟨rfl, rfl⟩
    go_wp2_with fail
    refine bodyPost_ret (results_cell_t rfl _ _ _ _ _ _ rfl (HS.out _ _ _).swap.blk_at Tryd.underlying57 rfl (by kernel_rfl)) rfl ?_
    exact hK.out _ _ ⟨rfl, (HS.out _ _ _).drop.drop.drop⟩
  · rw [show rDo ⟨1, 0, 1, 0⟩ ((3 : Nat) : Int) = (⟨1, 0, 1, 1⟩, 0) from by decide] at hK
    simp only [R4.cells] at hK
    go_enter Tryd.func45, Tryd.ntmps45
    go_wp2_with fail
    (with_reducible refine (hn _).mono ?_)
    rintro y w1 ⟨rfl, rfl⟩
    go_wp2_with fail
    refine bodyPost_ret (results_cell_t rfl _ _ _ _ _ _ rfl (HS.out _ _ _).swap.blk_at Tryd.underlying57 rfl (by kernel_rfl)) rfl ?_
    exact hK.out _ _ ⟨rfl, (HS.out _ _ _).drop.drop.drop⟩
  · rw [show rDo ⟨1, 0, 1, 0⟩ ((4 : Nat) : Int) = (⟨1, 0, 1, 0⟩, 0) from by decide] at hK
    simp only [R4.cells] at hK
    go_enter Tryd.func45, Tryd.ntmps45
    go_wp2_with fail
    (with_reducible refine (hn _).mono ?_)
    rintro y w1 ⟨rfl, rfl⟩
    go_wp2_with fail
    refine bodyPost_ret (results_cell_t rfl _ _ _ _ _ _ rfl (HS.out _ _ _).swap.blk_at Tryd.underlying57 rfl (by kernel_rfl)) rfl ?_
    exact hK.out _ _ ⟨rfl, (HS.out _ _ _).drop.drop.drop⟩
  · rw [show rDo ⟨1, 0, 1, 0⟩ ((5 : Nat) : Int) = (⟨1, 0, 1, 0⟩, 0) from by decide] at hK
    simp only [R4.cells] at hK
    go_enter Tryd.func45, Tryd.ntmps45
    go_wp2_with fail
    (with_reducible refine (hn _).mono ?_)
    rintro y w1 ⟨rfl, rfl⟩
    go_wp2_with fail
    refine bodyPost_ret (results_cell_t rfl _ _ _ _ _ _ rfl (HS.out _ _ _).swap.blk_at Tryd.underlying57 rfl (by kernel_rfl)) rfl ?_
    exact hK.out _ _ ⟨rfl, (HS.out _ _ _).drop.drop.drop⟩
  · rw [show rDo ⟨1, 0, 1, 0⟩ ((6 : Nat) : Int) = (⟨1, 0, 0, 0⟩, 0) from by decide] at hK
    simp only [R4.cells] at hK
    go_enter Tryd.func45, Tryd.ntmps45
    go_wp2_with fail
    (with_reducible refine (hn _).mono ?_)
    rintro y w1 ⟨rfl, rfl⟩
    go_wp2_with fail
    refine bodyPost_ret (results_cell_t rfl _ _ _ _ _ _ rfl (HS.out _ _ _).swap.blk_at Tryd.underlying57 rfl (by kernel_rfl)) rfl ?_
    exact hK.out _ _ ⟨rfl, (HS.out _ _ _).drop.drop.drop⟩
  · rw [show rDo ⟨1, 0, 1, 0⟩ ((7 : Nat) : Int) = (⟨1, 0, 1, 1⟩, 0) from by decide] at hK
    simp only [R4.cells] at hK
    go_enter Tryd.func45, Tryd.ntmps45
    go_wp2_with fail
    (with_reducible refine (hn _).mono ?_)
    rintro y w1 ⟨rfl, rfl⟩
    go_wp2_with fail
    refine bodyPost_ret (results_cell_t rfl _ _ _ _ _ _ rfl (HS.out _ _ _).swap.blk_at Tryd.underlying57 rfl (by kernel_rfl)) rfl ?_
    exact hK.out _ _ ⟨rfl, (HS.out _ _ _).drop.drop.drop⟩
  · rw [show rDo ⟨1, 0, 1, 0⟩ ((8 : Nat) : Int) = (⟨1, 0, 1, 0⟩, 0) from by decide] at hK
    simp only [R4.cells] at hK
    go_enter Tryd.func45, Tryd.ntmps45
    go_wp2_with fail
    (with_reducible refine (hn _).mono ?_)
    rintro y w1 ⟨rfl, rfl⟩
    go_wp2_with fail
    refine bodyPost_ret (results_cell_t rfl _ _ _ _ _ _ rfl (HS.out _ _ _).swap.blk_at Tryd.underlying57 rfl (by kernel_rfl)) rfl ?_
    exact hK.out _ _ ⟨rfl, (HS.out _ _ _).drop.drop.drop⟩
set_option maxHeartbeats 4000000 in
set_option maxRecDepth 100000 in
theorem ref_do_4 (H : Sat G w l) (e : Nat) (he : e < 9) : Calls Tryd.prog 45 #[.agg (R4.cells ⟨1, 0, 1, 1⟩), .int .i64 e] w fun y w' => y = .returned (.tuple #[.agg (rDo ⟨1, 0, 1, 1⟩ e).1.cells, .int .i64 (rDo ⟨1, 0, 1, 1⟩ e).2]) ∧ Sat G w' l := by
  refine calls_any fun K hK => ?_
  have hn := fun W => ref_number ⟨1, 0, 1, 1⟩ (by decide) W
  have hs : e = 0 ∨ e = 1 ∨ e = 2 ∨ e = 3 ∨ e = 4 ∨ e = 5 ∨ e = 6 ∨ e = 7 ∨ e = 8 := by omega
  have HS := Lib.hid fun (c1 c2 c3 : Array Value) => (by have S := ((H.newBlk c1 57).newBlk c2 57).newBlk c3 57; simp only [World.size_alloc] at S; exact S : Sat G (((w.alloc (.cells c1 57)).alloc (.cells c2 57)).alloc (.cells c3 57)) (blk (w.heap.size + 1 + 1) c3 57 :: blk (w.heap.size + 1) c2 57 :: blk w.heap.size c1 57 :: l))
  clear H
  simp only [R4.cells] at hn ⊢
  rcases hs with rfl | rfl | rfl | rfl | rfl | rfl | rfl | rfl | rfl
  · rw [show rDo ⟨1, 0, 1, 1⟩ ((0 : Nat) : Int) = (⟨1, 0, 1, 1⟩, 1) from by decide] at hK
    simp only [R4.cells] at hK
    go_enter Tryd.func45, Tryd.ntmps45
    go_wp2_with fail
    (with_reducible refine (hn _).mono ?_)
    rintro y w1 ⟨rfl, rfl⟩
    go_wp2_with fail
    refine bodyPost_ret (results_cell_t rfl _ _ _ _ _ _ rfl (HS.out _ _ _).swap.blk_at Tryd.underlying57 rfl (by kernel_rfl)) rfl ?_
    exact hK.out _ _ ⟨rfl, (HS.out _ _ _).drop.drop.drop⟩
  · rw [show rDo ⟨1, 0, 1, 1⟩ ((1 : Nat) : Int) = (⟨1, 0, 1, 1⟩, 1) from by decide] at hK
    simp only [R4.cells] at hK
    go_enter Tryd.func45, Tryd.ntmps45
    go_wp2_with fail
    (with_reducible refine (hn _).mono ?_)
    rintro y w1 ⟨rfl, rfl⟩
    go_wp2_with fail
    refine bodyPost_ret (results_cell_t rfl _ _ _ _ _ _ rfl (HS.out _ _ _).swap.blk_at Tryd.underlying57 rfl (by kernel_rfl)) rfl ?_
    exact hK.out _ _ ⟨rfl, (HS.out _ _ _).drop.drop.drop⟩
  · rw [show rDo ⟨1, 0, 1, 1⟩ ((2 : Nat) : Int) = (⟨1, 0, 1, 1⟩, 1) from by decide] at hK
    simp only [R4.cells] at hK
    go_enter Tryd.func45, Tryd.ntmps45
    go_wp2_with fail
    (with_reducible refine (hn _).mono ?_)
    rintro y w1 ⟨rfl, rfl⟩
    go_wp2_with fail
    refine bodyPost_ret (results_cell_t rfl _ _ _ _ _ _ rfl (HS.out _ _ _).swap.blk_at Tryd.underlying57 rfl (by kernel_rfl)) rfl ?_
    exact hK.out _ _ ⟨rfl, (HS.out _ _ _).drop.drop.drop⟩
  · rw [show rDo ⟨1, 0, 1, 1⟩ ((3 : Nat) : Int) = (⟨1, 0, 1, 1⟩, 1) from by decide] at hK
    simp only [R4.cells] at hK
    go_enter Tryd.func45, Tryd.ntmps45
    go_wp2_with fail
    (with_reducible refine (hn _).mono ?_)
    rintro y w1 ⟨rfl, rfl⟩
    go_wp2_with fail
    refine bodyPost_ret (results_cell_t rfl _ _ _ _ _ _ rfl (HS.out _ _ _).swap.blk_at Tryd.underlying57 rfl (by kernel_rfl)) rfl ?_
    exact hK.out _ _ ⟨rfl, (HS.out _ _ _).drop.drop.drop⟩
  · rw [show rDo ⟨1, 0, 1, 1⟩ ((4 : Nat) : Int) = (⟨1, 0, 1, 1⟩, 3) from by decide] at hK
    simp only [R4.cells] at hK
    go_enter Tryd.func45, Tryd.ntmps45
    go_wp2_with fail
    (with_reducible refine (hn _).mono ?_)
    rintro y w1 ⟨rfl, rfl⟩
    go_wp2_with fail
    refine bodyPost_ret (results_cell_t rfl _ _ _ _ _ _ rfl (HS.out _ _ _).swap.blk_at Tryd.underlying57 rfl (by kernel_rfl)) rfl ?_
    exact hK.out _ _ ⟨rfl, (HS.out _ _ _).drop.drop.drop⟩
  · rw [show rDo ⟨1, 0, 1, 1⟩ ((5 : Nat) : Int) = (⟨1, 0, 1, 1⟩, 3) from by decide] at hK
    simp only [R4.cells] at hK
    go_enter Tryd.func45, Tryd.ntmps45
    go_wp2_with fail
    (with_reducible refine (hn _).mono ?_)
    rintro y w1 ⟨rfl, rfl⟩
    go_wp2_with fail
    refine bodyPost_ret (results_cell_t rfl _ _ _ _ _ _ rfl (HS.out _ _ _).swap.blk_at Tryd.underlying57 rfl (by kernel_rfl)) rfl ?_
    exact hK.out _ _ ⟨rfl, (HS.out _ _ _).drop.drop.drop⟩
  · rw [show rDo ⟨1, 0, 1, 1⟩ ((6 : Nat) : Int) = (⟨1, 0, 1, 1⟩, 3) from by decide] at hK
    simp only [R4.cells] at hK
    go_enter Tryd.func45, Tryd.ntmps45
    go_wp2_with fail
    (with_reducible refine (hn _).mono ?_)
    rintro y w1 ⟨rfl, rfl⟩
    go_wp2_with fail
    refine bodyPost_ret (results_cell_t rfl _ _ _ _ _ _ rfl (HS.out _ _ _).swap.blk_at Tryd.underlying57 rfl (by kernel_rfl)) rfl ?_
    exact hK.out _ _ ⟨rfl, (HS.out _ _ _).drop.drop.drop⟩
  · rw [show rDo ⟨1, 0, 1, 1⟩ ((7 : Nat) : Int) = (⟨1, 0, 1, 1⟩, 0) from by decide] at hK
    simp only [R4.cells] at hK
    go_enter Tryd.func45, Tryd.ntmps45
    go_wp2_with fail
    (with_reducible refine (hn _).mono ?_)
    rintro y w1 ⟨rfl, rfl⟩
    go_wp2_with fail
    refine bodyPost_ret (results_cell_t rfl _ _ _ _ _ _ rfl (HS.out _ _ _).swap.blk_at Tryd.underlying57 rfl (by kernel_rfl)) rfl ?_
    exact hK.out _ _ ⟨rfl, (HS.out _ _ _).drop.drop.drop⟩
  · rw [show rDo ⟨1, 0, 1, 1⟩ ((8 : Nat) : Int) = (⟨1, 0, 1, 1⟩, 0) from by decide] at hK
    simp only [R4.cells] at hK
    go_enter Tryd.func45, Tryd.ntmps45
    go_wp2_with fail
    (with_reducible refine (hn _).mono ?_)
    rintro y w1 ⟨rfl, rfl⟩
    go_wp2_with fail
    refine bodyPost_ret (results_cell_t rfl _ _ _ _ _ _ rfl (HS.out _ _ _).swap.blk_at Tryd.underlying57 rfl (by kernel_rfl)) rfl ?_
    exact hK.out _ _ ⟨rfl, (HS.out _ _ _).drop.drop.drop⟩
set_option maxHeartbeats 4000000 in
set_option maxRecDepth 100000 in
theorem ref_do_5 (H : Sat G w l) (e : Nat) (he : e < 9) : Calls Tryd.prog 45 #[.agg (R4.cells ⟨1, 1, 0, 0⟩), .int .i64 e] w fun y w' => y = .returned (.tuple #[.agg (rDo ⟨1, 1, 0, 0⟩ e).1.cells, .int .i64 (rDo ⟨1, 1, 0, 0⟩ e).2]) ∧ Sat G w' l := by
  refine calls_any fun K hK => ?_
  have hn := fun W => ref_number ⟨1, 1, 0, 0⟩ (by decide) W
  have hs : e = 0 ∨ e = 1 ∨ e = 2 ∨ e = 3 ∨ e = 4 ∨ e = 5 ∨ e = 6 ∨ e = 7 ∨ e = 8 := by omega
  have HS := Lib.hid fun (c1 c2 c3 : Array Value) => (by have S := ((H.newBlk c1 57).newBlk c2 57).newBlk c3 57; simp only [World.size_alloc] at S; exact S : Sat G (((w.alloc (.cells c1 57)).alloc (.cells c2 57)).alloc (.cells c3 57)) (blk (w.heap.size + 1 + 1) c3 57 :: blk (w.heap.size + 1) c2 57 :: blk w.heap.size c1 57 :: l))
  clear H
  simp only [R4.cells] at hn ⊢
  rcases hs with rfl | rfl | rfl | rfl | rfl | rfl | rfl | rfl | rfl
  · rw [show rDo ⟨1, 1, 0, 0⟩ ((0 : Nat) : Int) = (⟨1, 1, 0, 0⟩, 0) from by decide] at hK
    simp only [R4.cells] at hK
    go_enter Tryd.func45, Tryd.ntmps45
    go_wp2_with fail
    (with_reducible refine (hn _).mono ?_)
    rintro y w1 ⟨rfl, rfl⟩
    go_wp2_with fail
    refine bodyPost_ret (results_cell_t rfl _ _ _ _ _ _ rfl (HS.out _ _ _).swap.blk_at Tryd.underlying57 rfl (by kernel_rfl)) rfl ?_
    exact hK.out _ _ ⟨rfl, (HS.out _ _ _).drop.drop.drop⟩
  · rw [show rDo ⟨1, 1, 0, 0⟩ ((1 : Nat) : Int) = (⟨1, 1, 0, 0⟩, 0) from by decide] at hK
    simp only [R4.cells] at hK
    go_enter Tryd.func45, Tryd.ntmps45
    go_wp2_with fail
    (with_reducible refine (hn _).mono ?_)
    rintro y w1 ⟨rfl, rfl⟩
    go_wp2_with fail
    refine bodyPost_ret (results_cell_t rfl _ _ _ _ _ _ rfl (HS.out _ _ _).swap.blk_at Tryd.underlying57 rfl (by kernel_rfl)) rfl ?_
    exact hK.out _ _ ⟨rfl, (HS.out _ _ _).drop.drop.drop⟩
  · rw [show rDo ⟨1, 1, 0, 0⟩ ((2 : Nat) : Int) = (⟨1, 0, 0, 0⟩, 0) from by decide] at hK
    simp only [R4.cells] at hK
    go_enter Tryd.func45, Tryd.ntmps45
    go_wp2_with fail
    (with_reducible refine (hn _).mono ?_)
    rintro y w1 ⟨rfl, rfl⟩
    go_wp2_with fail
    refine bodyPost_ret (results_cell_t rfl _ _ _ _ _ _ rfl (HS.out _ _ _).swap.blk_at Tryd.underlying57 rfl (by kernel_rfl)) rfl ?_
    exact hK.out _ _ ⟨rfl, (HS.out _ _ _).drop.drop.drop⟩
  · rw [show rDo ⟨1, 1, 0, 0⟩ ((3 : Nat) : Int) = (⟨1, 1, 0, 1⟩, 0) from by decide] at hK
    simp only [R4.cells] at hK
    go_enter Tryd.func45, Tryd.ntmps45
    go_wp2_with fail
    (with_reducible refine (hn _).mono ?_)
    rintro y w1 ⟨rfl, rfl⟩
    go_wp2_with fail
    refine bodyPost_ret (results_cell_t rfl _ _ _ _ _ _ rfl (HS.out _ _ _).swap.blk_at Tryd.underlying57 rfl (by kernel_rfl)) rfl ?_
    exact hK.out _ _ ⟨rfl, (HS.out _ _ _).drop.drop.drop⟩
  · rw [show rDo ⟨1, 1, 0, 0⟩ ((4 : Nat) : Int) = (⟨1, 1, 0, 1⟩, 3) from by decide] at hK
    simp only [R4.cells] at hK
    go_enter Tryd.func45, Tryd.ntmps45
    go_wp2_with fail
    (with_reducible refine (hn _).mono ?_)
    rintro y w1 ⟨rfl, rfl⟩
    go_wp2_with fail
    refine bodyPost_ret (results_cell_t rfl _ _ _ _ _ _ rfl (HS.out _ _ _).swap.blk_at Tryd.underlying57 rfl (by kernel_rfl)) rfl ?_
    exact hK.out _ _ ⟨rfl, (HS.out _ _ _).drop.drop.drop⟩
  · rw [show rDo ⟨1, 1, 0, 0⟩ ((5 : Nat) : Int) = (⟨1, 1, 0, 1⟩, 3) from by decide] at hK
    simp only [R4.cells] at hK
    go_enter Tryd.func45, Tryd.ntmps45
    go_wp2_with fail
    (with_reducible refine (hn _).mono ?_)
    rintro y w1 ⟨rfl, rfl⟩
    go_wp2_with fail
    refine bodyPost_ret (results_cell_t rfl _ _ _ _ _ _ rfl (HS.out _ _ _).swap.blk_at Tryd.underlying57 rfl (by kernel_rfl)) rfl ?_
    exact hK.out _ _ ⟨rfl, (HS.out _ _ _).drop.drop.drop⟩
  · rw [show rDo ⟨1, 1, 0, 0⟩ ((6 : Nat) : Int) = (⟨1, 1, 0, 1⟩, 3) from by decide] at hK
    simp only [R4.cells] at hK
    go_enter Tryd.func45, Tryd.ntmps45
    go_wp2_with fail
    (with_reducible refine (hn _).mono ?_)
    rintro y w1 ⟨rfl, rfl⟩
    go_wp2_with fail
    refine bodyPost_ret (results_cell_t rfl _ _ _ _ _ _ rfl (HS.out _ _ _).swap.blk_at Tryd.underlying57 rfl (by kernel_rfl)) rfl ?_
    exact hK.out _ _ ⟨rfl, (HS.out _ _ _).drop.drop.drop⟩
  · rw [show rDo ⟨1, 1, 0, 0⟩ ((7 : Nat) : Int) = (⟨1, 1, 0, 1⟩, 0) from by decide] at hK
    simp only [R4.cells] at hK
    go_enter Tryd.func45, Tryd.ntmps45
    go_wp2_with fail
    (with_reducible refine (hn _).mono ?_)
    rintro y w1 ⟨rfl, rfl⟩
    go_wp2_with fail
    refine bodyPost_ret (results_cell_t rfl _ _ _ _ _ _ rfl (HS.out _ _ _).swap.blk_at Tryd.underlying57 rfl (by kernel_rfl)) rfl ?_
    exact hK.out _ _ ⟨rfl, (HS.out _ _ _).drop.drop.drop⟩
  · rw [show rDo ⟨1, 1, 0, 0⟩ ((8 : Nat) : Int) = (⟨1, 1, 0, 0⟩, 0) from by decide] at hK
    simp only [R4.cells] at hK
    go_enter Tryd.func45, Tryd.ntmps45
    go_wp2_with fail
    (with_reducible refine (hn _).mono ?_)
    rintro y w1 ⟨rfl, rfl⟩
    go_wp2_with fail
    refine bodyPost_ret (results_cell_t rfl _ _ _ _ _ _ rfl (HS.out _ _ _).swap.blk_at Tryd.underlying57 rfl (by kernel_rfl)) rfl ?_
    exact hK.out _ _ ⟨rfl, (HS.out _ _ _).drop.drop.drop⟩
set_option maxHeartbeats 4000000 in
set_option maxRecDepth 100000 in
theorem ref_do_6 (H : Sat G w l) (e : Nat) (he : e < 9) : Calls Tryd.prog 45 #[.agg (R4.cells ⟨1, 1, 0, 1⟩), .int .i64 e] w fun y w' => y = .returned (.tuple #[.agg (rDo ⟨1, 1, 0, 1⟩ e).1.cells, .int .i64 (rDo ⟨1, 1, 0, 1⟩ e).2]) ∧ Sat G w' l := by
  refine calls_any fun K hK => ?_
  have hn := fun W => ref_number ⟨1, 1, 0, 1⟩ (by decide) W
  have hs : e = 0 ∨ e = 1 ∨ e = 2 ∨ e = 3 ∨ e = 4 ∨ e = 5 ∨ e = 6 ∨ e = 7 ∨ e = 8 := by omega
  have HS := Lib.hid fun (c1 c2 c3 : Array Value) => (by have S := ((H.newBlk c1 57).newBlk c2 57).newBlk c3 57; simp only [World.size_alloc] at S; exact S : Sat G (((w.alloc (.cells c1 57)).alloc (.cells c2 57)).alloc (.cells c3 57)) (blk (w.heap.size + 1 + 1) c3 57 :: blk (w.heap.size + 1) c2 57 :: blk w.heap.size c1 57 :: l))
  clear H
  simp only [R4.cells] at hn ⊢
  rcases hs with rfl | rfl | rfl | rfl | rfl | rfl | rfl | rfl | rfl
  · rw [show rDo ⟨1, 1, 0, 1⟩ ((0 : Nat) : Int) = (⟨1, 1, 0, 1⟩, 1) from by decide] at hK
    simp only [R4.cells] at hK
    go_enter Tryd.func45, Tryd.ntmps45
    go_wp2_with fail
    (with_reducible refine (hn _).mono ?_)
    rintro y w1 ⟨rfl, rfl⟩
    go_wp2_with fail
    refine bodyPost_ret (results_cell_t rfl _ _ _ _ _ _ rfl (HS.out _ _ _).swap.blk_at Tryd.underlying57 rfl (by kernel_rfl)) rfl ?_
    exact hK.out _ _ ⟨rfl, (HS.out _ _ _).drop.drop.drop⟩
  · rw [show rDo ⟨1, 1, 0, 1⟩ ((1 : Nat) : Int) = (⟨1, 1, 0, 1⟩, 1) from by decide] at hK
    simp only [R4.cells] at hK
    go_enter Tryd.func45, Tryd.ntmps45
    go_wp2_with fail
    (with_reducible refine (hn _).mono ?_)
    rintro y w1 ⟨rfl, rfl⟩
    go_wp2_with fail
    refine bodyPost_ret (results_cell_t rfl _ _ _ _ _ _ rfl (HS.out _ _ _).swap.blk_at Tryd.underlying57 rfl (by kernel_rfl)) rfl ?_
    exact hK.out _ _ ⟨rfl, (HS.out _ _ _).drop.drop.drop⟩
  · rw [show rDo ⟨1, 1, 0, 1⟩ ((2 : Nat) : Int) = (⟨1, 1, 0, 1⟩, 1) from by decide] at hK
    simp only [R4.cells] at hK
    go_enter Tryd.func45, Tryd.ntmps45
    go_wp2_with fail
    (with_reducible refine (hn _).mono ?_)
    rintro y w1 ⟨rfl, rfl⟩
    go_wp2_with fail
    refine bodyPost_ret (results_cell_t rfl _ _ _ _ _ _ rfl (HS.out _ _ _).swap.blk_at Tryd.underlying57 rfl (by kernel_rfl)) rfl ?_
    exact hK.out _ _ ⟨rfl, (HS.out _ _ _).drop.drop.drop⟩
  · rw [show rDo ⟨1, 1, 0, 1⟩ ((3 : Nat) : Int) = (⟨1, 1, 0, 1⟩, 1) from by decide] at hK
    simp only [R4.cells] at hK
    go_enter Tryd.func45, Tryd.ntmps45
    go_wp2_with fail
    (with_reducible refine (hn _).mono ?_)
    rintro y w1 ⟨rfl, rfl⟩
    go_wp2_with fail
    refine bodyPost_ret (results_cell_t rfl _ _ _ _ _ _ rfl (HS.out _ _ _).swap.blk_at Tryd.underlying57 rfl (by kernel_rfl)) rfl ?_
    exact hK.out _ _ ⟨rfl, (HS.out _ _ _).drop.drop.drop⟩
  · rw [show rDo ⟨1, 1, 0, 1⟩ ((4 : Nat) : Int) = (⟨1, 1, 0, 1⟩, 3) from by decide] at hK
    simp only [R4.cells] at hK
    go_enter Tryd.func45, Tryd.ntmps45
    go_wp2_with fail
    (with_reducible refine (hn _).mono ?_)
    rintro y w1 ⟨rfl, rfl⟩
    go_wp2_with fail
    refine bodyPost_ret (results_cell_t rfl _ _ _ _ _ _ rfl (HS.out _ _ _).swap.blk_at Tryd.underlying57 rfl (by kernel_rfl)) rfl ?_
    exact hK.out _ _ ⟨rfl, (HS.out _ _ _).drop.drop.drop⟩
  · rw [show rDo ⟨1, 1, 0, 1⟩ ((5 : Nat) : Int) = (⟨1, 1, 0, 1⟩, 3) from by decide] at hK
    simp only [R4.cells] at hK
    go_enter Tryd.func45, Tryd.ntmps45
    go_wp2_with fail
    (with_reducible refine (hn _).mono ?_)
    rintro y w1 ⟨rfl, rfl⟩
    go_wp2_with fail
    refine bodyPost_ret (results_cell_t rfl _ _ _ _ _ _ rfl (HS.out _ _ _).swap.blk_at Tryd.underlying57 rfl (by kernel_rfl)) rfl ?_
    exact hK.out _ _ ⟨rfl, (HS.out _ _ _).drop.drop.drop⟩
  · rw [show rDo ⟨1, 1, 0, 1⟩ ((6 : Nat) : Int) = (⟨1, 1, 0, 1⟩, 3) from by decide] at hK
    simp only [R4.cells] at hK
    go_enter Tryd.func45, Tryd.ntmps45
    go_wp2_with fail
    (with_reducible refine (hn _).mono ?_)
    rintro y w1 ⟨rfl, rfl⟩
    go_wp2_with fail
    refine bodyPost_ret (results_cell_t rfl _ _ _ _ _ _ rfl (HS.out _ _ _).swap.blk_at Tryd.underlying57 rfl (by kernel_rfl)) rfl ?_
    exact hK.out _ _ ⟨rfl, (HS.out _ _ _).drop.drop.drop⟩
  · rw [show rDo ⟨1, 1, 0, 1⟩ ((7 : Nat) : Int) = (⟨1, 1, 0, 1⟩, 0) from by decide] at hK
    simp only [R4.cells] at hK
    go_enter Tryd.func45, Tryd.ntmps45
    go_wp2_with fail
    (with_reducible refine (hn _).mono ?_)
    rintro y w1 ⟨rfl, rfl⟩
    go_wp2_with fail
    refine bodyPost_ret (results_cell_t rfl _ _ _ _ _ _ rfl (HS.out _ _ _).swap.blk_at Tryd.underlying57 rfl (by kernel_rfl)) rfl ?_
    exact hK.out _ _ ⟨rfl, (HS.out _ _ _).drop.drop.drop⟩
  · rw [show rDo ⟨1, 1, 0, 1⟩ ((8 : Nat) : Int) = (⟨1, 1, 0, 1⟩, 0) from by decide] at hK
    simp only [R4.cells] at hK
    go_enter Tryd.func45, Tryd.ntmps45
    go_wp2_with fail
    (with_reducible refine (hn _).mono ?_)
    rintro y w1 ⟨rfl, rfl⟩
    go_wp2_with fail
    refine bodyPost_ret (results_cell_t rfl _ _ _ _ _ _ rfl (HS.out _ _ _).swap.blk_at Tryd.underlying57 rfl (by kernel_rfl)) rfl ?_
    exact hK.out _ _ ⟨rfl, (HS.out _ _ _).drop.drop.drop⟩
set_option maxHeartbeats 4000000 in
set_option maxRecDepth 100000 in
theorem ref_do_7 (H : Sat G w l) (e : Nat) (he : e < 9) : Calls Tryd.prog 45 #[.agg (R4.cells ⟨1, 1, 1, 0⟩), .int .i64 e] w fun y w' => y = .returned (.tuple #[.agg (rDo ⟨1, 1, 1, 0⟩ e).1.cells, .int .i64 (rDo ⟨1, 1, 1, 0⟩ e).2]) ∧ Sat G w' l := by
  refine calls_any fun K hK => ?_
  have hn := fun W => ref_number ⟨1, 1, 1, 0⟩ (by decide) W
  have hs : e = 0 ∨ e = 1 ∨ e = 2 ∨ e = 3 ∨ e = 4 ∨ e = 5 ∨ e = 6 ∨ e = 7 ∨ e = 8 := by omega
  have HS := Lib.hid fun (c1 c2 c3 : Array Value) => (by have S := ((H.newBlk c1 57).newBlk c2 57).newBlk c3 57; simp only [World.size_alloc] at S; exact S : Sat G (((w.alloc (.cells c1 57)).alloc (.cells c2 57)).alloc (.cells c3 57)) (blk (w.heap.size + 1 + 1) c3 57 :: blk (w.heap.size + 1) c2 57 :: blk w.heap.size c1 57 :: l))
  clear H
  simp only [R4.cells] at hn ⊢
  rcases hs with rfl | rfl | rfl | rfl | rfl | rfl | rfl | rfl | rfl
  · rw [show rDo ⟨1, 1, 1, 0⟩ ((0 : Nat) : Int) = (⟨1, 1, 1, 0⟩, 0) from by decide] at hK
    simp only [R4.cells] at hK
    go_enter Tryd.func45, Tryd.ntmps45
    go_wp2_with fail
    (with_reducible refine (hn _).mono ?_)
    rintro y w1 ⟨rfl, rfl⟩
    go_wp2_with fail
    refine bodyPost_ret (results_cell_t rfl _ _ _ _ _ _ rfl (HS.out _ _ _).swap.blk_at Tryd.underlying57 rfl (by kernel_rfl)) rfl ?_
    exact hK.out _ _ ⟨rfl, (HS.out _ _ _).drop.drop.drop⟩
  · rw [show rDo ⟨1, 1, 1, 0⟩ ((1 : Nat) : Int) = (⟨1, 1, 1, 0⟩, 0) from by decide] at hK
    simp only [R4.cells] at hK
    go_enter Tryd.func45, Tryd.ntmps45
    go_wp2_with fail
    (with_reducible refine (hn _).mono ?_)
    rintro y w1 ⟨rfl, rfl⟩
    go_wp2_with fail
    refine bodyPost_ret (results_cell_t rfl _ _ _ _ _ _ rfl (HS.out _ _ _).swap.blk_at Tryd.underlying57 rfl (by kernel_rfl)) rfl ?_
    exact hK.out _ _ ⟨rfl, (HS.out _ _ _).drop.drop.drop⟩
  · rw [show rDo ⟨1, 1, 1, 0⟩ ((2 : Nat) : Int) = (⟨1, 0, 1, 0⟩, 0) from by decide] at hK
    simp only [R4.cells] at hK
    go_enter Tryd.func45, Tryd.ntmps45
    go_wp2_with fail
    (with_reducible refine (hn _).mono ?_)
    rintro y w1 ⟨rfl, rfl⟩
    go_wp2_with fail
    refine bodyPost_ret (results_cell_t rfl _ _ _ _ _ _ rfl (HS.out _ _ _).swap.blk_at Tryd.underlying57 rfl (by kernel_rfl)) rfl ?_
    exact hK.out _ _ ⟨rfl, (HS.out _ _ _).drop.drop.drop⟩
  · rw [show rDo ⟨1, 1, 1, 0⟩ ((3 : Nat) : Int) = (⟨1, 1, 1, 1⟩, 0) from by decide] at hK
    simp only [R4.cells] at hK
    go_enter Tryd.func45, Tryd.ntmps45
    go_wp2_with fail
    (with_reducible refine (hn _).mono ?_)
    rintro y w1 ⟨rfl, rfl⟩
    go_wp2_with fail
    refine bodyPost_ret (results_cell_t rfl _ _ _ _ _ _ rfl (HS.out _ _ _).swap.blk_at Tryd.underlying57 rfl (by kernel_rfl)) rfl ?_
    exact hK.out _ _ ⟨rfl, (HS.out _ _ _).drop.drop.drop⟩
  · rw [show rDo ⟨1, 1, 1, 0⟩ ((4 : Nat) : Int) = (⟨1, 1, 1, 0⟩, 0) from by decide] at hK
    simp only [R4.cells] at hK
    go_enter Tryd.func45, Tryd.ntmps45
    go_wp2_with fail
    (with_reducible refine (hn _).mono ?_)
    rintro y w1 ⟨rfl, rfl⟩
    go_wp2_with fail
    refine bodyPost_ret (results_cell_t rfl _ _ _ _ _ _ rfl (HS.out _ _ _).swap.blk_at Tryd.underlying57 rfl (by kernel_rfl)) rfl ?_
    exact hK.out _ _ ⟨rfl, (HS.out _ _ _).drop.drop.drop⟩
  · rw [show rDo ⟨1, 1, 1, 0⟩ ((5 : Nat) : Int) = (⟨1, 1, 1, 0⟩, 0) from by decide] at hK
    simp only [R4.cells] at hK
    go_enter Tryd.func45, Tryd.ntmps45
    go_wp2_with fail
    (with_reducible refine (hn _).mono ?_)
    rintro y w1 ⟨rfl, rfl⟩
    go_wp2_with fail
    refine bodyPost_ret (results_cell_t rfl _ _ _ _ _ _ rfl (HS.out _ _ _).swap.blk_at Tryd.underlying57 rfl (by kernel_rfl)) rfl ?_
    exact hK.out _ _ ⟨rfl, (HS.out _ _ _).drop.drop.drop⟩
  · rw [show rDo ⟨1, 1, 1, 0⟩ ((6 : Nat) : Int) = (⟨1, 1, 0, 0⟩, 0) from by decide] at hK
    simp only [R4.cells] at hK
    go_enter Tryd.func45, Tryd.ntmps45
    go_wp2_with fail
    (with_reducible refine (hn _).mono ?_)
    rintro y w1 ⟨rfl, rfl⟩
    go_wp2_with fail
    refine bodyPost_ret (results_cell_t rfl _ _ _ _ _ _ rfl (HS.out _ _ _).swap.blk_at Tryd.underlying57 rfl (by kernel_rfl)) rfl ?_
    exact hK.out _ _ ⟨rfl, (HS.out _ _ _).drop.drop.drop⟩
  · rw [show rDo ⟨1, 1, 1, 0⟩ ((7 : Nat) : Int) = (⟨1, 1, 1, 1⟩, 0) from by decide] at hK
    simp only [R4.cells] at hK
    go_enter Tryd.func45, Tryd.ntmps45
    go_wp2_with fail
    (with_reducible refine (hn _).mono ?_)
    rintro y w1 ⟨rfl, rfl⟩
    go_wp2_with fail
    refine bodyPost_ret (results_cell_t rfl _ _ _ _ _ _ rfl (HS.out _ _ _).swap.blk_at Tryd.underlying57 rfl (by kernel_rfl)) rfl ?_
    exact hK.out _ _ ⟨rfl, (HS.out _ _ _).drop.drop.drop⟩
  · rw [show rDo ⟨1, 1, 1, 0⟩ ((8 : Nat) : Int) = (⟨1, 1, 1, 0⟩, 0) from by decide] at hK
    simp only [R4.cells] at hK
    go_enter Tryd.func45, Tryd.ntmps45
    go_wp2_with fail
    (with_reducible refine (hn _).mono ?_)
    rintro y w1 ⟨rfl, rfl⟩
    go_wp2_with fail
    refine bodyPost_ret (results_cell_t rfl _ _ _ _ _ _ rfl (HS.out _ _ _).swap.blk_at Tryd.underlying57 rfl (by kernel_rfl)) rfl ?_
    exact hK.out _ _ ⟨rfl, (HS.out _ _ _).drop.drop.drop⟩
set_option maxHeartbeats 4000000 in
set_option maxRecDepth 100000 in
theorem ref_do_8 (H : Sat G w l) (e : Nat) (he : e < 9) : Calls Tryd.prog 45 #[.agg (R4.cells ⟨1, 1, 1, 1⟩), .int .i64 e] w fun y w' => y = .returned (.tuple #[.agg (rDo ⟨1, 1, 1, 1⟩ e).1.cells, .int .i64 (rDo ⟨1, 1, 1, 1⟩ e).2]) ∧ Sat G w' l := by
  refine calls_any fun K hK => ?_
  have hn := fun W => ref_number ⟨1, 1, 1, 1⟩ (by decide) W
  have hs : e = 0 ∨ e = 1 ∨ e = 2 ∨ e = 3 ∨ e = 4 ∨ e = 5 ∨ e = 6 ∨ e = 7 ∨ e = 8 := by omega
  have HS := Lib.hid fun (c1 c2 c3 : Array Value) => (by have S := ((H.newBlk c1 57).newBlk c2 57).newBlk c3 57; simp only [World.size_alloc] at S; exact S : Sat G (((w.alloc (.cells c1 57)).alloc (.cells c2 57)).alloc (.cells c3 57)) (blk (w.heap.size + 1 + 1) c3 57 :: blk (w.heap.size + 1) c2 57 :: blk w.heap.size c1 57 :: l))
  clear H
  simp only [R4.cells] at hn ⊢
  rcases hs with rfl | rfl | rfl | rfl | rfl | rfl | rfl | rfl | rfl
  · rw [show rDo ⟨1, 1, 1, 1⟩ ((0 : Nat) : Int) = (⟨1, 1, 1, 1⟩, 1) from by decide] at hK
    simp only [R4.cells] at hK
    go_enter Tryd.func45, Tryd.ntmps45
    go_wp2_with fail
    (with_reducible refine (hn _).mono ?_)
    rintro y w1 ⟨rfl, rfl⟩
    go_wp2_with fail
    refine bodyPost_ret (results_cell_t rfl _ _ _ _ _ _ rfl (HS.out _ _ _).swap.blk_at Tryd.underlying57 rfl (by kernel_rfl)) rfl ?_
    exact hK.out _ _ ⟨rfl, (HS.out _ _ _).drop.drop.drop⟩
  · rw [show rDo ⟨1, 1, 1, 1⟩ ((1 : Nat) : Int) = (⟨1, 1, 1, 1⟩, 1) from by decide] at hK
    simp only [R4.cells] at hK
    go_enter Tryd.func45, Tryd.ntmps45
    go_wp2_with fail
    (with_reducible refine (hn _).mono ?_)
    rintro y w1 ⟨rfl, rfl⟩
    go_wp2_with fail
    refine bodyPost_ret (results_cell_t rfl _ _ _ _ _ _ rfl (HS.out _ _ _).swap.blk_at Tryd.underlying57 rfl (by kernel_rfl)) rfl ?_
    exact hK.out _ _ ⟨rfl, (HS.out _ _ _).drop.drop.drop⟩
  · rw [show rDo ⟨1, 1, 1, 1⟩ ((2 : Nat) : Int) = (⟨1, 1, 1, 1⟩, 1) from by decide] at hK
    simp only [R4.cells] at hK
    go_enter Tryd.func45, Tryd.ntmps45
    go_wp2_with fail
    (with_reducible refine (hn _).mono ?_)
    rintro y w1 ⟨rfl, rfl⟩
    go_wp2_with fail
    refine bodyPost_ret (results_cell_t rfl _ _ _ _ _ _ rfl (HS.out _ _ _).swap.blk_at Tryd.underlying57 rfl (by kernel_rfl)) rfl ?_
    exact hK.out _ _ ⟨rfl, (HS.out _ _ _).drop.drop.drop⟩
  · rw [show rDo ⟨1, 1, 1, 1⟩ ((3 : Nat) : Int) = (⟨1, 1, 1, 1⟩, 1) from by decide] at hK
    simp only [R4.cells] at hK
    go_enter Tryd.func45, Tryd.ntmps45
    go_wp2_with fail
    (with_reducible refine (hn _).mono ?_)
    rintro y w1 ⟨rfl, rfl⟩
    go_wp2_with fail
    refine bodyPost_ret (results_cell_t rfl _ _ _ _ _ _ rfl (HS.out _ _ _).swap.blk_at Tryd.underlying57 rfl (by kernel_rfl)) rfl ?_
    exact hK.out _ _ ⟨rfl, (HS.out _ _ _).drop.drop.drop⟩
  · rw [show rDo ⟨1, 1, 1, 1⟩ ((4 : Nat) : Int) = (⟨1, 1, 1, 1⟩, 3) from by decide] at hK
    simp only [R4.cells] at hK
    go_enter Tryd.func45, Tryd.ntmps45
    go_wp2_with fail
    (with_reducible refine (hn _).mono ?_)
    rintro y w1 ⟨rfl, rfl⟩
    go_wp2_with fail
    refine bodyPost_ret (results_cell_t rfl _ _ _ _ _ _ rfl (HS.out _ _ _).swap.blk_at Tryd.underlying57 rfl (by kernel_rfl)) rfl ?_
    exact hK.out _ _ ⟨rfl, (HS.out _ _ _).drop.drop.drop⟩
  · rw [show rDo ⟨1, 1, 1, 1⟩ ((5 : Nat) : Int) = (⟨1, 1, 1, 1⟩, 3) from by decide] at hK
    simp only [R4.cells] at hK
    go_enter Tryd.func45, Tryd.ntmps45
    go_wp2_with fail
    (with_reducible refine (hn _).mono ?_)
    rintro y w1 ⟨rfl, rfl⟩
    go_wp2_with fail
    refine bodyPost_ret (results_cell_t rfl _ _ _ _ _ _ rfl (HS.out _ _ _).swap.blk_at Tryd.underlying57 rfl (by kernel_rfl)) rfl ?_
    exact hK.out _ _ ⟨rfl, (HS.out _ _ _).drop.drop.drop⟩
  · rw [show rDo ⟨1, 1, 1, 1⟩ ((6 : Nat) : Int) = (⟨1, 1, 1, 1⟩, 3) from by decide] at hK
    simp only [R4.cells] at hK
    go_enter Tryd.func45, Tryd.ntmps45
    go_wp2_with fail
    (with_reducible refine (hn _).mono ?_)
    rintro y w1 ⟨rfl, rfl⟩
    go_wp2_with fail
    refine bodyPost_ret (results_cell_t rfl _ _ _ _ _ _ rfl (HS.out _ _ _).swap.blk_at Tryd.underlying57 rfl (by kernel_rfl)) rfl ?_
    exact hK.out _ _ ⟨rfl, (HS.out _ _ _).drop.drop.drop⟩
  · rw [show rDo ⟨1, 1, 1, 1⟩ ((7 : Nat) : Int) = (⟨1, 1, 1, 1⟩, 0) from by decide] at hK
    simp only [R4.cells] at hK
    go_enter Tryd.func45, Tryd.ntmps45
    go_wp2_with fail
    (with_reducible refine (hn _).mono ?_)
    rintro y w1 ⟨rfl, rfl⟩
    go_wp2_with fail
    refine bodyPost_ret (results_cell_t rfl _ _ _ _ _ _ rfl (HS.out _ _ _).swap.blk_at Tryd.underlying57 rfl (by kernel_rfl)) rfl ?_
    exact hK.out _ _ ⟨rfl, (HS.out _ _ _).drop.drop.drop⟩
  · rw [show rDo ⟨1, 1, 1, 1⟩ ((8 : Nat) : Int) = (⟨1, 1, 1, 1⟩, 0) from by decide] at hK
    simp only [R4.cells] at hK
    go_enter Tryd.func45, Tryd.ntmps45
    go_wp2_with fail
    (with_reducible refine (hn _).mono ?_)
    rintro y w1 ⟨rfl, rfl⟩
    go_wp2_with fail
    refine bodyPost_ret (results_cell_t rfl _ _ _ _ _ _ rfl (HS.out _ _ _).swap.blk_at Tryd.underlying57 rfl (by kernel_rfl)) rfl ?_
    exact hK.out _ _ ⟨rfl, (HS.out _ _ _).drop.drop.drop⟩
theorem ref_do (H : Sat G w l) (x : R4) (hx : x ∈ goods) (e : Nat) (he : e < 9) : Calls Tryd.prog 45 #[.agg x.cells, .int .i64 e] w fun y w' => y = .returned (.tuple #[.agg (rDo x e).1.cells, .int .i64 (rDo x e).2]) ∧ Sat G w' l := by
  simp only [goods, List.mem_cons, List.not_mem_nil, or_false] at hx
  rcases hx with rfl | rfl | rfl | rfl | rfl | rfl | rfl | rfl | rfl
  · exact ref_do_0 H e he
  · exact ref_do_1 H e he
  · exact ref_do_2 H e he
  · exact ref_do_3 H e he
  · exact ref_do_4 H e he
  · exact ref_do_5 H e he
  · exact ref_do_6 H e he
  · exact ref_do_7 H e he
  · exact ref_do_8 H e he
end
end Go.Proofs.YtecnddhfjjnbkaaDoor
