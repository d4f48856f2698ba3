/- The fixed answer, and the law's states: the walks. -/
import Derived.Test.YtdmfapmdjhjlhaaDoorPlain
set_option linter.unusedSimpArgs false
set_option linter.unusedVariables false
namespace Go.Proofs.YtdmfapmdjhjlhaaDoor
open Go.RowKit

def lawAt (s : Int) : R4 := if s = 1 then ⟨1, 1, 1, 0⟩ else if s = 2 then ⟨1, 1, 0, 0⟩ else if s = 3 then ⟨1, 0, 1, 0⟩ else if s = 4 then ⟨1, 0, 0, 1⟩ else ⟨0, 1, 1, 0⟩
section
variable {G : Gnd} {w : World} {l : List Asrt}
set_option maxHeartbeats 1000000 in
theorem law_at (H : Sat G w l) (s : Nat) (hs : s < 5) : Calls Tryd.prog 19 #[.int .i64 s] w fun y w' => y = .returned (.agg (lawAt s).cells) ∧ Sat G w' l := by
  refine calls_any fun K hK => ?_
  have HS := Lib.hid fun (c1 : Array Value) => H.newBlk c1 27
  have hN := fun W (S : Sat G W (blk w.heap.size #[.int .i64 0, .int .i64 0, .int .i64 0, .int .i64 0] 27 :: l)) => ref_new S
  have S0 := H.newBlk #[.int .i64 0, .int .i64 0, .int .i64 0, .int .i64 0] 27
  clear H
  have h : s = 0 ∨ s = 1 ∨ s = 2 ∨ s = 3 ∨ s = 4 := by omega
  rcases h with rfl | rfl | rfl | rfl | rfl
  · rw [show lawAt ((0 : Nat) : Int) = ⟨0, 1, 1, 0⟩ from by decide] at hK
    simp only [R4.cells] at hK hN
    go_enter Tryd.func19, Tryd.ntmps19
    go_wp2_with fail
    (with_reducible refine (hN _ S0).mono ?_)
    clear hN
    rintro y w1 ⟨rfl, S1⟩
    generalize w.heap.size = a at *
    have T := (((S1.setCell 0 (.int .i64 0)).setCell 1 (.int .i64 1)).setCell 2 (.int .i64 1)).setCell 3 (.int .i64 0)
    have c0 := S1.cell 0
    have c1 := S1.cell 1
    have c2 := S1.cell 2
    have c3 := S1.cell 3
    have f0 := S1.frozen 0
    have f1 := S1.frozen 1
    have f2 := S1.frozen 2
    have f3 := S1.frozen 3
    change Sat _ _ (blk a #[.int .i64 0, .int .i64 1, .int .i64 1, .int .i64 0] _ :: _) at T
    have HT := Lib.hid T
    clear T S1 S0 HS
    go_wp2_with fail
    refine ret_cell HT.out 2 27 rfl _ rfl Tryd.underlying27 rfl (by kernel_rfl) rfl ?_
    exact hK.out _ _ ⟨rfl, HT.out.drop⟩
  all_goals
    clear hN S0
  · rw [show lawAt ((1 : Nat) : Int) = ⟨1, 1, 1, 0⟩ from by decide] at hK
    simp only [R4.cells] at hK
    go_enter Tryd.func19, Tryd.ntmps19
    go_wp2_with fail
    refine ret_cell (HS.out _) 2 27 rfl _ rfl Tryd.underlying27 rfl (by kernel_rfl) rfl ?_
    exact hK.out _ _ ⟨rfl, (HS.out _).drop⟩
  · rw [show lawAt ((2 : Nat) : Int) = ⟨1, 1, 0, 0⟩ from by decide] at hK
    simp only [R4.cells] at hK
    go_enter Tryd.func19, Tryd.ntmps19
    go_wp2_with fail
    refine ret_cell (HS.out _) 2 27 rfl _ rfl Tryd.underlying27 rfl (by kernel_rfl) rfl ?_
    exact hK.out _ _ ⟨rfl, (HS.out _).drop⟩
  · rw [show lawAt ((3 : Nat) : Int) = ⟨1, 0, 1, 0⟩ from by decide] at hK
    simp only [R4.cells] at hK
    go_enter Tryd.func19, Tryd.ntmps19
    go_wp2_with fail
    refine ret_cell (HS.out _) 2 27 rfl _ rfl Tryd.underlying27 rfl (by kernel_rfl) rfl ?_
    exact hK.out _ _ ⟨rfl, (HS.out _).drop⟩
  · rw [show lawAt ((4 : Nat) : Int) = ⟨1, 0, 0, 1⟩ from by decide] at hK
    simp only [R4.cells] at hK
    go_enter Tryd.func19, Tryd.ntmps19
    go_wp2_with fail
    refine ret_cell (HS.out _) 2 27 rfl _ rfl Tryd.underlying27 rfl (by kernel_rfl) rfl ?_
    exact hK.out _ _ ⟨rfl, (HS.out _).drop⟩
set_option maxHeartbeats 1000000 in
theorem law_awake (H : Sat G w l) (ht : TabG G) : Calls Tryd.prog 8 #[] w fun e w' => e = .returned (.bool true) ∧ Sat G w' l := by
  refine calls_any fun K hK => ?_
  have hN := rn_new H
  clear H
  go_enter Tryd.func8, Tryd.ntmps8
  go_wp2_with fail
  (with_reducible refine hN.mono ?_)
  clear hN
  rintro y w1 ⟨r, rfl, S1⟩
  have h1 := rn_do S1 ht rfl (by decide) 0
  rw [show pDo 0 0 = ⟨1, 0, 0, false, true⟩ from rfl, show bump [0, 0, 0, 0, 0, 0, 0, 0, 0] 0 true = [1, 0, 0, 0, 0, 0, 0, 0, 0] from by decide] at h1
  clear S1
  go_wp2_with fail
  (with_reducible refine h1.mono ?_)
  clear h1
  rintro y w2 ⟨rfl, S2⟩
  have S2' := S2.newBlk #[.int .i64 0, .bool false] 33
  have h1 := rn_do S2'.swap ht rfl (by decide) 2
  rw [show pDo 1 2 = ⟨3, 0, 0, false, true⟩ from rfl, show bump [1, 0, 0, 0, 0, 0, 0, 0, 0] 2 true = [1, 0, 1, 0, 0, 0, 0, 0, 0] from by decide] at h1
  clear S2 S2'
  go_wp2_with fail
  (with_reducible refine h1.mono ?_)
  clear h1
  rintro y w3 ⟨rfl, S3⟩
  generalize w2.heap.size = a at *
  have S3' := S3.newBlk #[.int .i64 0, .bool false] 33
  have h1 := rn_do S3'.swap ht rfl (by decide) 6
  rw [show pDo 3 6 = ⟨4, 0, 0, false, true⟩ from rfl, show bump [1, 0, 1, 0, 0, 0, 0, 0, 0] 6 true = [1, 0, 1, 0, 0, 0, 1, 0, 0] from by decide] at h1
  clear S3 S3'
  go_wp2_with fail
  (with_reducible refine h1.mono ?_)
  clear h1
  rintro y w4 ⟨rfl, S4⟩
  generalize w3.heap.size = b at *
  have S4' := S4.newBlk #[.int .i64 0, .bool false] 33
  have h1 := st_get S4' 0 5 (S4'.tab ht)
  rw [show sGet 0 5 = (0, 101, true) from by decide] at h1
  clear S4 S4'
  go_wp2_with fail
  (with_reducible refine h1.mono ?_)
  clear h1
  rintro y w5 ⟨rfl, S5⟩
  generalize w4.heap.size = c at *
  have S6 := S5.newBlk #[.int .i64 101, .bool true] 33
  have e0 := S6.swap.cell 0
  have hA := rn_at S6.pull2
  have hC := rn_count S6.pull2 rfl 6
  have hM := st_may 1 1 (S6.tab ht)
  rw [show cntAt [1, 0, 1, 0, 0, 0, 1, 0, 0] 6 = 1 from by decide] at hC
  rw [show sMay 1 1 = true from by decide] at hM
  have HS := Lib.hid S6.drop
  clear S5 S6
  go_wp2_with fail
  (with_reducible refine hA.mono ?_)
  clear hA
  rintro y w6 ⟨rfl, rfl⟩
  go_wp2_with fail
  (with_reducible refine hC.mono ?_)
  clear hC
  rintro y w6 ⟨rfl, rfl⟩
  go_wp2_with fail
  (with_reducible refine hM.mono ?_)
  clear hM
  rintro y w6 ⟨rfl, rfl⟩
  go_wp2_with fail
  exact hK.out _ _ ⟨rfl, (HS.out.re [1, 0, 2, 3]).drop.drop.drop.drop⟩
end
end Go.Proofs.YtdmfapmdjhjlhaaDoor
