/- The walk of the law StateSteps. -/
import Derived.Test.YtdmfapmdjhjlhaaDoorAw
set_option linter.unusedSimpArgs false
set_option linter.unusedVariables false
namespace Go.Proofs.YtdmfapmdjhjlhaaDoor
open Go.RowKit

def stepsB (s e : Nat) : Bool :=
  let q := rDo (lawAt s) e
  (sMay s e == (q.2 == 0)) && decide (lawAt s ∈ goods) && decide (q.1 ∈ goods) && (if e < 4 then decide (sGet s e = (4, 102, true)) && ((q.2 == 1 && decide (sSend s e = (0, 25))) || (q.2 == 0 && decide (sSend s e = (rNum q.1, 0))))
    else decide (sSend s e = (0, 11)) && ((q.2 == 2 && decide (sGet s e = ((s : Int), 101, true))) || (q.2 == 3 && decide (sGet s e = (4, 105, false))) || (q.2 == 0 && decide (sGet s e = (rNum q.1, 0, false)))))
theorem steps_all : ∀ s ∈ List.range 5, ∀ e ∈ List.range 9, stepsB s e = true := by decide +kernel
theorem steps_of (s e : Nat) (hs : s < 5) (he : e < 9) : sMay s e = ((rDo (lawAt s) e).2 == 0) ∧ lawAt s ∈ goods ∧ (rDo (lawAt s) e).1 ∈ goods ∧
    ((e ≤ 3 ∧ sGet s e = (4, 102, true) ∧ (((rDo (lawAt s) e).2 = 1 ∧ sSend s e = (0, 25)) ∨ ((rDo (lawAt s) e).2 = 0 ∧ sSend s e = (rNum (rDo (lawAt s) e).1, 0)))) ∨
     (4 ≤ e ∧ sSend s e = (0, 11) ∧ (((rDo (lawAt s) e).2 = 2 ∧ sGet s e = ((s : Int), 101, true)) ∨ ((rDo (lawAt s) e).2 = 3 ∧ sGet s e = (4, 105, false)) ∨ ((rDo (lawAt s) e).2 = 0 ∧ sGet s e = (rNum (rDo (lawAt s) e).1, 0, false))))) := by
  have h := steps_all s (List.mem_range.2 hs) e (List.mem_range.2 he)
  simp only [stepsB, Bool.and_eq_true, decide_eq_true_eq, beq_iff_eq] at h
  obtain ⟨⟨⟨h1, h2⟩, h3⟩, h4⟩ := h
  refine ⟨h1, h2, h3, ?_⟩
  by_cases h : e < 4
  · rw [if_pos h] at h4
    simp only [Bool.and_eq_true, Bool.or_eq_true, decide_eq_true_eq, beq_iff_eq] at h4
    exact .inl ⟨by omega, h4.1, h4.2⟩
  · rw [if_neg h] at h4
    simp only [Bool.and_eq_true, Bool.or_eq_true, decide_eq_true_eq, beq_iff_eq, or_assoc] at h4
    exact .inr ⟨by omega, h4.1, h4.2⟩
theorem out_send {s e : Int} (h : s < 0 ∨ 4 < s ∨ e < 0 ∨ 8 < e) : sSend s e = (0, 11) ∧ sGet s e = (4, 102, true) ∧ sMay s e = false := by
  unfold sSend sGet sMay sRight eSends eGets
  refine ⟨?_, ?_, ?_⟩
  · rw [if_neg]; simp; omega
  · rw [if_neg]; simp; omega
  · simp; omega
section
variable {w : World}
set_option maxHeartbeats 4000000 in
set_option maxRecDepth 100000 in
/-- Where the state or the event is none. -/
theorem steps_out (htw : TabW w) (s e : Int) (h : s < 0 ∨ 4 < s ∨ e < 0 ∨ 8 < e) :
    Calls Tryd.prog 5 #[.int .i64 s, .int .i64 e] w fun y w' => y = .returned (.bool true) ∧ Below w.heap.size w w' := by
  refine calls_any fun K hK => ?_
  have ht := TabG.of htw
  have h1 := st_send s e w htw; have S0 := Sat.start w; have h2 := st_get S0 s e htw
  obtain ⟨e1, e2, e3⟩ := out_send h
  rw [e1] at h1
  rw [e2] at h2
  clear e1 e2 S0
  by_cases a1 : s < 0
  · clear h
    go_enter Tryd.func5, Tryd.ntmps5
    go_wp2_with fail
    (with_reducible refine h1.mono ?_); clear h1; rintro y w1 ⟨rfl, rfl⟩; go_wp2_with fail; (with_reducible refine h2.mono ?_); clear h2; rintro y w1 ⟨rfl, S1⟩; have S2 := S1.newBlk #[.int .i64 102, .bool true] 33; have c0 := S2.cell 0; have c1 := S2.cell 1; have h3 := st_may s e (S2.tab ht); clear S1
    rw [e3] at h3
    go_wp2_with fail
    (with_reducible refine h3.mono ?_)
    rintro y w3 ⟨rfl, rfl⟩
    go_wp2_with fail
    (with_reducible refine (law_awake (S2.drop) ht).mono ?_); rintro y w9 ⟨rfl, S9⟩; go_wp2_with fail; exact hK.out _ _ ⟨rfl, S9.above Gnd.le.rfl'⟩
  by_cases a2 : 4 < s
  · clear h
    go_enter Tryd.func5, Tryd.ntmps5
    go_wp2_with fail
    (with_reducible refine h1.mono ?_); clear h1; rintro y w1 ⟨rfl, rfl⟩; go_wp2_with fail; (with_reducible refine h2.mono ?_); clear h2; rintro y w1 ⟨rfl, S1⟩; have S2 := S1.newBlk #[.int .i64 102, .bool true] 33; have c0 := S2.cell 0; have c1 := S2.cell 1; have h3 := st_may s e (S2.tab ht); clear S1
    rw [e3] at h3
    go_wp2_with fail
    (with_reducible refine h3.mono ?_)
    rintro y w3 ⟨rfl, rfl⟩
    go_wp2_with fail
    (with_reducible refine (law_awake (S2.drop) ht).mono ?_); rintro y w9 ⟨rfl, S9⟩; go_wp2_with fail; exact hK.out _ _ ⟨rfl, S9.above Gnd.le.rfl'⟩
  by_cases a3 : e < 0
  · clear h
    go_enter Tryd.func5, Tryd.ntmps5
    go_wp2_with fail
    (with_reducible refine h1.mono ?_); clear h1; rintro y w1 ⟨rfl, rfl⟩; go_wp2_with fail; (with_reducible refine h2.mono ?_); clear h2; rintro y w1 ⟨rfl, S1⟩; have S2 := S1.newBlk #[.int .i64 102, .bool true] 33; have c0 := S2.cell 0; have c1 := S2.cell 1; have h3 := st_may s e (S2.tab ht); clear S1
    rw [e3] at h3
    go_wp2_with fail
    (with_reducible refine h3.mono ?_)
    rintro y w3 ⟨rfl, rfl⟩
    go_wp2_with fail
    (with_reducible refine (law_awake (S2.drop) ht).mono ?_); rintro y w9 ⟨rfl, S9⟩; go_wp2_with fail; exact hK.out _ _ ⟨rfl, S9.above Gnd.le.rfl'⟩
  · have a4 : 8 < e := by omega
    clear h
    go_enter Tryd.func5, Tryd.ntmps5
    go_wp2_with fail
    (with_reducible refine h1.mono ?_); clear h1; rintro y w1 ⟨rfl, rfl⟩; go_wp2_with fail; (with_reducible refine h2.mono ?_); clear h2; rintro y w1 ⟨rfl, S1⟩; have S2 := S1.newBlk #[.int .i64 102, .bool true] 33; have c0 := S2.cell 0; have c1 := S2.cell 1; have h3 := st_may s e (S2.tab ht); clear S1
    rw [e3] at h3
    go_wp2_with fail
    (with_reducible refine h3.mono ?_)
    rintro y w3 ⟨rfl, rfl⟩
    go_wp2_with fail
    (with_reducible refine (law_awake (S2.drop) ht).mono ?_); rintro y w9 ⟨rfl, S9⟩; go_wp2_with fail; exact hK.out _ _ ⟨rfl, S9.above Gnd.le.rfl'⟩
set_option maxHeartbeats 4000000 in
set_option maxRecDepth 100000 in
theorem steps_1 (htw : TabW w) (s e : Nat) (hs : s < 5) (he : e < 9) (hx : lawAt s ∈ goods) (hx' : (rDo (lawAt s) e).1 ∈ goods) (hm : sMay s e = ((rDo (lawAt s) e).2 == 0)) (hc : e ≤ 3) (hw : (rDo (lawAt s) e).2 = 1) (hsd : sSend s e = (0, 25)) (hgt : sGet s e = (4, 102, true)) :
    Calls Tryd.prog 5 #[.int .i64 s, .int .i64 e] w fun y w' => y = .returned (.bool true) ∧ Below w.heap.size w w' := by
  refine calls_any fun K hK => ?_
  have ht := TabG.of htw
  have h1 := st_send s e w htw
  have h2 := st_get (Sat.start w) s e htw
  rw [hsd] at h1
  rw [hgt] at h2
  simp only at h1 h2
  rw [hw] at hm
  have hd := fun {W : World} {l : List Asrt} (S : Sat (Gnd.of w) W l) => ref_do S (lawAt s) hx e he
  rw [hw] at hd
  have hnu := fun W => ref_number _ hx' W
  clear hsd hgt hw hx
  generalize (rDo (lawAt s) e).1 = x' at *
  have hat := fun {W : World} {l : List Asrt} (S : Sat (Gnd.of w) W l) => law_at S s hs
  generalize lawAt s = x at *
  generalize rNum x' = n at *
  obtain ⟨xb, xw, xt, xr⟩ := x
  obtain ⟨yb, yw, yt, yr⟩ := x'
  simp only [R4.cells] at hd hnu hat
  have hdn := fun W => st_done s W
  have hmy := fun {W : World} (h : TabW W) => st_may s e h
  rw [hm, show ((1 : Int) == 0) = false from by decide] at hmy
  clear hm hx'
  have hs1 : (s : Int) < 5 := by omega
  have he1 : (e : Int) < 9 := by omega
  go_enter Tryd.func5, Tryd.ntmps5
  go_wp2_with fail
  (with_reducible refine h1.mono ?_)
  clear h1
  rintro y w1 ⟨rfl, rfl⟩
  go_wp2_with fail
  (with_reducible refine h2.mono ?_)
  clear h2
  rintro y w1 ⟨rfl, S1⟩
  have S2 := S1.newBlk #[.int .i64 102, .bool true] 33
  clear S1
  have c0 := S2.cell 0
  have c1 := S2.cell 1
  have h3 := hat S2
  go_wp2_with fail
  (with_reducible refine h3.mono ?_)
  clear h3 c0 c1
  rintro y w2 ⟨rfl, S3⟩
  generalize w1.heap.size = a at *
  have h3 := hd S3
  clear S2 S3
  go_wp2_with fail
  (with_reducible refine h3.mono ?_)
  clear h3
  rintro y w3 ⟨rfl, S4⟩
  have S5 := S4.newBlk #[.int .i64 yb, .int .i64 yw, .int .i64 yt, .int .i64 yr] 27
  have S6 := S5.newBlk #[.int .i64 yb, .int .i64 yw, .int .i64 yt, .int .i64 yr] 27
  clear S4 S5
  simp only [World.size_alloc] at S6
  go_wp2_with fail
  (with_reducible refine (hnu _).mono ?_)
  rintro y w4 ⟨rfl, rfl⟩
  clear hnu
  go_upto_region 14 with fail
  refine wp_world S6 fun w4 S7 => ?_
  clear S6
  generalize w3.heap.size = b at *
  have c0 := S7.pull2.cell 0
  have c1 := S7.pull2.cell 1
  have hmy2 := hmy (S7.tab ht)
  clear hmy
  cases hs4 : ((s : Int) == 4) with
  | false =>
    rw [hs4] at hdn
    go_wp2_with fail
    (with_reducible refine hmy2.mono ?_)
    rintro y w5 ⟨rfl, rfl⟩
    go_wp2_with fail
    (with_reducible refine (hdn _).mono ?_)
    rintro y w5 ⟨rfl, rfl⟩
    go_wp2_with fail
    (with_reducible refine (law_awake (S7.drop.drop.drop) ht).mono ?_); rintro y w9 ⟨rfl, S9⟩; go_wp2_with fail; exact hK.out _ _ ⟨rfl, S9.above Gnd.le.rfl'⟩
  | true =>
    rw [hs4] at hdn
    go_wp2_with fail
    (with_reducible refine hmy2.mono ?_)
    rintro y w5 ⟨rfl, rfl⟩
    go_wp2_with fail
    (with_reducible refine (hdn _).mono ?_)
    rintro y w5 ⟨rfl, rfl⟩
    go_wp2_with fail
    (with_reducible refine (law_awake (S7.drop.drop.drop) ht).mono ?_); rintro y w9 ⟨rfl, S9⟩; go_wp2_with fail; exact hK.out _ _ ⟨rfl, S9.above Gnd.le.rfl'⟩
set_option maxHeartbeats 4000000 in
set_option maxRecDepth 100000 in
theorem steps_2 (htw : TabW w) (s e : Nat) (hs : s < 5) (he : e < 9) (hx : lawAt s ∈ goods) (hx' : (rDo (lawAt s) e).1 ∈ goods) (hm : sMay s e = ((rDo (lawAt s) e).2 == 0)) (hc : e ≤ 3) (hw : (rDo (lawAt s) e).2 = 0) (hsd : sSend s e = (rNum (rDo (lawAt s) e).1, 0)) (hgt : sGet s e = (4, 102, true)) :
    Calls Tryd.prog 5 #[.int .i64 s, .int .i64 e] w fun y w' => y = .returned (.bool true) ∧ Below w.heap.size w w' := by
  refine calls_any fun K hK => ?_
  have ht := TabG.of htw
  have h1 := st_send s e w htw
  have h2 := st_get (Sat.start w) s e htw
  rw [hsd] at h1
  rw [hgt] at h2
  simp only at h1 h2
  rw [hw] at hm
  have hd := fun {W : World} {l : List Asrt} (S : Sat (Gnd.of w) W l) => ref_do S (lawAt s) hx e he
  rw [hw] at hd
  have hnu := fun W => ref_number _ hx' W
  clear hsd hgt hw hx
  generalize (rDo (lawAt s) e).1 = x' at *
  have hat := fun {W : World} {l : List Asrt} (S : Sat (Gnd.of w) W l) => law_at S s hs
  generalize lawAt s = x at *
  generalize rNum x' = n at *
  obtain ⟨xb, xw, xt, xr⟩ := x
  obtain ⟨yb, yw, yt, yr⟩ := x'
  simp only [R4.cells] at hd hnu hat
  have hdn := fun W => st_done s W
  have hmy := fun {W : World} (h : TabW W) => st_may s e h
  rw [hm, show ((0 : Int) == 0) = true from by decide] at hmy
  clear hm hx'
  have hs1 : (s : Int) < 5 := by omega
  have he1 : (e : Int) < 9 := by omega
  go_enter Tryd.func5, Tryd.ntmps5
  go_wp2_with fail
  (with_reducible refine h1.mono ?_)
  clear h1
  rintro y w1 ⟨rfl, rfl⟩
  go_wp2_with fail
  (with_reducible refine h2.mono ?_)
  clear h2
  rintro y w1 ⟨rfl, S1⟩
  have S2 := S1.newBlk #[.int .i64 102, .bool true] 33
  clear S1
  have c0 := S2.cell 0
  have c1 := S2.cell 1
  have h3 := hat S2
  go_wp2_with fail
  (with_reducible refine h3.mono ?_)
  clear h3 c0 c1
  rintro y w2 ⟨rfl, S3⟩
  generalize w1.heap.size = a at *
  have h3 := hd S3
  clear S2 S3
  go_wp2_with fail
  (with_reducible refine h3.mono ?_)
  clear h3
  rintro y w3 ⟨rfl, S4⟩
  have S5 := S4.newBlk #[.int .i64 yb, .int .i64 yw, .int .i64 yt, .int .i64 yr] 27
  have S6 := S5.newBlk #[.int .i64 yb, .int .i64 yw, .int .i64 yt, .int .i64 yr] 27
  clear S4 S5
  simp only [World.size_alloc] at S6
  go_wp2_with fail
  (with_reducible refine (hnu _).mono ?_)
  rintro y w4 ⟨rfl, rfl⟩
  clear hnu
  go_upto_region 14 with fail
  refine wp_world S6 fun w4 S7 => ?_
  clear S6
  generalize w3.heap.size = b at *
  have c0 := S7.pull2.cell 0
  have c1 := S7.pull2.cell 1
  have hmy2 := hmy (S7.tab ht)
  clear hmy
  cases hs4 : ((s : Int) == 4) with
  | false =>
    rw [hs4] at hdn
    go_wp2_with fail
    (with_reducible refine hmy2.mono ?_)
    rintro y w5 ⟨rfl, rfl⟩
    go_wp2_with fail
    (with_reducible refine (hdn _).mono ?_)
    rintro y w5 ⟨rfl, rfl⟩
    go_wp2_with fail
    (with_reducible refine (law_awake (S7.drop.drop.drop) ht).mono ?_); rintro y w9 ⟨rfl, S9⟩; go_wp2_with fail; exact hK.out _ _ ⟨rfl, S9.above Gnd.le.rfl'⟩
  | true =>
    rw [hs4] at hdn
    go_wp2_with fail
    (with_reducible refine hmy2.mono ?_)
    rintro y w5 ⟨rfl, rfl⟩
    go_wp2_with fail
    (with_reducible refine (hdn _).mono ?_)
    rintro y w5 ⟨rfl, rfl⟩
    go_wp2_with fail
    (with_reducible refine (law_awake (S7.drop.drop.drop) ht).mono ?_); rintro y w9 ⟨rfl, S9⟩; go_wp2_with fail; exact hK.out _ _ ⟨rfl, S9.above Gnd.le.rfl'⟩
set_option maxHeartbeats 4000000 in
set_option maxRecDepth 100000 in
theorem steps_3 (htw : TabW w) (s e : Nat) (hs : s < 5) (he : e < 9) (hx : lawAt s ∈ goods) (hx' : (rDo (lawAt s) e).1 ∈ goods) (hm : sMay s e = ((rDo (lawAt s) e).2 == 0)) (hc : 4 ≤ e) (hw : (rDo (lawAt s) e).2 = 2) (hsd : sSend s e = (0, 11)) (hgt : sGet s e = ((s : Int), 101, true)) :
    Calls Tryd.prog 5 #[.int .i64 s, .int .i64 e] w fun y w' => y = .returned (.bool true) ∧ Below w.heap.size w w' := by
  refine calls_any fun K hK => ?_
  have ht := TabG.of htw
  have h1 := st_send s e w htw
  have h2 := st_get (Sat.start w) s e htw
  rw [hsd] at h1
  rw [hgt] at h2
  simp only at h1 h2
  rw [hw] at hm
  have hd := fun {W : World} {l : List Asrt} (S : Sat (Gnd.of w) W l) => ref_do S (lawAt s) hx e he
  rw [hw] at hd
  have hnu := fun W => ref_number _ hx' W
  clear hsd hgt hw hx
  generalize (rDo (lawAt s) e).1 = x' at *
  have hat := fun {W : World} {l : List Asrt} (S : Sat (Gnd.of w) W l) => law_at S s hs
  generalize lawAt s = x at *
  generalize rNum x' = n at *
  obtain ⟨xb, xw, xt, xr⟩ := x
  obtain ⟨yb, yw, yt, yr⟩ := x'
  simp only [R4.cells] at hd hnu hat
  have hdn := fun W => st_done s W
  have hmy := fun {W : World} (h : TabW W) => st_may s e h
  rw [hm, show ((2 : Int) == 0) = false from by decide] at hmy
  clear hm hx'
  have hs1 : (s : Int) < 5 := by omega
  have he1 : (e : Int) < 9 := by omega
  go_enter Tryd.func5, Tryd.ntmps5
  go_wp2_with fail
  (with_reducible refine h1.mono ?_)
  clear h1
  rintro y w1 ⟨rfl, rfl⟩
  go_wp2_with fail
  (with_reducible refine h2.mono ?_)
  clear h2
  rintro y w1 ⟨rfl, S1⟩
  have S2 := S1.newBlk #[.int .i64 101, .bool true] 33
  clear S1
  have c0 := S2.cell 0
  have c1 := S2.cell 1
  have h3 := hat S2
  go_wp2_with fail
  (with_reducible refine h3.mono ?_)
  clear h3 c0 c1
  rintro y w2 ⟨rfl, S3⟩
  generalize w1.heap.size = a at *
  have h3 := hd S3
  clear S2 S3
  go_wp2_with fail
  (with_reducible refine h3.mono ?_)
  clear h3
  rintro y w3 ⟨rfl, S4⟩
  have S5 := S4.newBlk #[.int .i64 yb, .int .i64 yw, .int .i64 yt, .int .i64 yr] 27
  have S6 := S5.newBlk #[.int .i64 yb, .int .i64 yw, .int .i64 yt, .int .i64 yr] 27
  clear S4 S5
  simp only [World.size_alloc] at S6
  go_wp2_with fail
  (with_reducible refine (hnu _).mono ?_)
  rintro y w4 ⟨rfl, rfl⟩
  clear hnu
  go_upto_region 14 with fail
  refine wp_world S6 fun w4 S7 => ?_
  clear S6
  generalize w3.heap.size = b at *
  have c0 := S7.pull2.cell 0
  have c1 := S7.pull2.cell 1
  have hmy2 := hmy (S7.tab ht)
  clear hmy
  cases hs4 : ((s : Int) == 4) with
  | false =>
    rw [hs4] at hdn
    go_wp2_with fail
    (with_reducible refine hmy2.mono ?_)
    rintro y w5 ⟨rfl, rfl⟩
    go_wp2_with fail
    (with_reducible refine (hdn _).mono ?_)
    rintro y w5 ⟨rfl, rfl⟩
    go_wp2_with fail
    (with_reducible refine (law_awake (S7.drop.drop.drop) ht).mono ?_); rintro y w9 ⟨rfl, S9⟩; go_wp2_with fail; exact hK.out _ _ ⟨rfl, S9.above Gnd.le.rfl'⟩
  | true =>
    rw [hs4] at hdn
    go_wp2_with fail
    (with_reducible refine hmy2.mono ?_)
    rintro y w5 ⟨rfl, rfl⟩
    go_wp2_with fail
    (with_reducible refine (hdn _).mono ?_)
    rintro y w5 ⟨rfl, rfl⟩
    go_wp2_with fail
    (with_reducible refine (law_awake (S7.drop.drop.drop) ht).mono ?_); rintro y w9 ⟨rfl, S9⟩; go_wp2_with fail; exact hK.out _ _ ⟨rfl, S9.above Gnd.le.rfl'⟩
set_option maxHeartbeats 4000000 in
set_option maxRecDepth 100000 in
theorem steps_4 (htw : TabW w) (s e : Nat) (hs : s < 5) (he : e < 9) (hx : lawAt s ∈ goods) (hx' : (rDo (lawAt s) e).1 ∈ goods) (hm : sMay s e = ((rDo (lawAt s) e).2 == 0)) (hc : 4 ≤ e) (hw : (rDo (lawAt s) e).2 = 3) (hsd : sSend s e = (0, 11)) (hgt : sGet s e = (4, 105, false)) :
    Calls Tryd.prog 5 #[.int .i64 s, .int .i64 e] w fun y w' => y = .returned (.bool true) ∧ Below w.heap.size w w' := by
  refine calls_any fun K hK => ?_
  have ht := TabG.of htw
  have h1 := st_send s e w htw
  have h2 := st_get (Sat.start w) s e htw
  rw [hsd] at h1
  rw [hgt] at h2
  simp only at h1 h2
  rw [hw] at hm
  have hd := fun {W : World} {l : List Asrt} (S : Sat (Gnd.of w) W l) => ref_do S (lawAt s) hx e he
  rw [hw] at hd
  have hnu := fun W => ref_number _ hx' W
  clear hsd hgt hw hx
  generalize (rDo (lawAt s) e).1 = x' at *
  have hat := fun {W : World} {l : List Asrt} (S : Sat (Gnd.of w) W l) => law_at S s hs
  generalize lawAt s = x at *
  generalize rNum x' = n at *
  obtain ⟨xb, xw, xt, xr⟩ := x
  obtain ⟨yb, yw, yt, yr⟩ := x'
  simp only [R4.cells] at hd hnu hat
  have hdn := fun W => st_done s W
  have hmy := fun {W : World} (h : TabW W) => st_may s e h
  rw [hm, show ((3 : Int) == 0) = false from by decide] at hmy
  clear hm hx'
  have hs1 : (s : Int) < 5 := by omega
  have he1 : (e : Int) < 9 := by omega
  go_enter Tryd.func5, Tryd.ntmps5
  go_wp2_with fail
  (with_reducible refine h1.mono ?_)
  clear h1
  rintro y w1 ⟨rfl, rfl⟩
  go_wp2_with fail
  (with_reducible refine h2.mono ?_)
  clear h2
  rintro y w1 ⟨rfl, S1⟩
  have S2 := S1.newBlk #[.int .i64 105, .bool false] 33
  clear S1
  have c0 := S2.cell 0
  have c1 := S2.cell 1
  have h3 := hat S2
  go_wp2_with fail
  (with_reducible refine h3.mono ?_)
  clear h3 c0 c1
  rintro y w2 ⟨rfl, S3⟩
  generalize w1.heap.size = a at *
  have h3 := hd S3
  clear S2 S3
  go_wp2_with fail
  (with_reducible refine h3.mono ?_)
  clear h3
  rintro y w3 ⟨rfl, S4⟩
  have S5 := S4.newBlk #[.int .i64 yb, .int .i64 yw, .int .i64 yt, .int .i64 yr] 27
  have S6 := S5.newBlk #[.int .i64 yb, .int .i64 yw, .int .i64 yt, .int .i64 yr] 27
  clear S4 S5
  simp only [World.size_alloc] at S6
  go_wp2_with fail
  (with_reducible refine (hnu _).mono ?_)
  rintro y w4 ⟨rfl, rfl⟩
  clear hnu
  go_upto_region 14 with fail
  refine wp_world S6 fun w4 S7 => ?_
  clear S6
  generalize w3.heap.size = b at *
  have c0 := S7.pull2.cell 0
  have c1 := S7.pull2.cell 1
  have hmy2 := hmy (S7.tab ht)
  clear hmy
  cases hs4 : ((s : Int) == 4) with
  | false =>
    rw [hs4] at hdn
    go_wp2_with fail
    (with_reducible refine hmy2.mono ?_)
    rintro y w5 ⟨rfl, rfl⟩
    go_wp2_with fail
    (with_reducible refine (hdn _).mono ?_)
    rintro y w5 ⟨rfl, rfl⟩
    go_wp2_with fail
    (with_reducible refine (law_awake (S7.drop.drop.drop) ht).mono ?_); rintro y w9 ⟨rfl, S9⟩; go_wp2_with fail; exact hK.out _ _ ⟨rfl, S9.above Gnd.le.rfl'⟩
  | true =>
    rw [hs4] at hdn
    go_wp2_with fail
    (with_reducible refine hmy2.mono ?_)
    rintro y w5 ⟨rfl, rfl⟩
    go_wp2_with fail
    (with_reducible refine (hdn _).mono ?_)
    rintro y w5 ⟨rfl, rfl⟩
    go_wp2_with fail
    (with_reducible refine (law_awake (S7.drop.drop.drop) ht).mono ?_); rintro y w9 ⟨rfl, S9⟩; go_wp2_with fail; exact hK.out _ _ ⟨rfl, S9.above Gnd.le.rfl'⟩
set_option maxHeartbeats 4000000 in
set_option maxRecDepth 100000 in
theorem steps_5 (htw : TabW w) (s e : Nat) (hs : s < 5) (he : e < 9) (hx : lawAt s ∈ goods) (hx' : (rDo (lawAt s) e).1 ∈ goods) (hm : sMay s e = ((rDo (lawAt s) e).2 == 0)) (hc : 4 ≤ e) (hw : (rDo (lawAt s) e).2 = 0) (hsd : sSend s e = (0, 11)) (hgt : sGet s e = (rNum (rDo (lawAt s) e).1, 0, false)) :
    Calls Tryd.prog 5 #[.int .i64 s, .int .i64 e] w fun y w' => y = .returned (.bool true) ∧ Below w.heap.size w w' := by
  refine calls_any fun K hK => ?_
  have ht := TabG.of htw
  have h1 := st_send s e w htw
  have h2 := st_get (Sat.start w) s e htw
  rw [hsd] at h1
  rw [hgt] at h2
  simp only at h1 h2
  rw [hw] at hm
  have hd := fun {W : World} {l : List Asrt} (S : Sat (Gnd.of w) W l) => ref_do S (lawAt s) hx e he
  rw [hw] at hd
  have hnu := fun W => ref_number _ hx' W
  clear hsd hgt hw hx
  generalize (rDo (lawAt s) e).1 = x' at *
  have hat := fun {W : World} {l : List Asrt} (S : Sat (Gnd.of w) W l) => law_at S s hs
  generalize lawAt s = x at *
  generalize rNum x' = n at *
  obtain ⟨xb, xw, xt, xr⟩ := x
  obtain ⟨yb, yw, yt, yr⟩ := x'
  simp only [R4.cells] at hd hnu hat
  have hdn := fun W => st_done s W
  have hmy := fun {W : World} (h : TabW W) => st_may s e h
  rw [hm, show ((0 : Int) == 0) = true from by decide] at hmy
  clear hm hx'
  have hs1 : (s : Int) < 5 := by omega
  have he1 : (e : Int) < 9 := by omega
  go_enter Tryd.func5, Tryd.ntmps5
  go_wp2_with fail
  (with_reducible refine h1.mono ?_)
  clear h1
  rintro y w1 ⟨rfl, rfl⟩
  go_wp2_with fail
  (with_reducible refine h2.mono ?_)
  clear h2
  rintro y w1 ⟨rfl, S1⟩
  have S2 := S1.newBlk #[.int .i64 0, .bool false] 33
  clear S1
  have c0 := S2.cell 0
  have c1 := S2.cell 1
  have h3 := hat S2
  go_wp2_with fail
  (with_reducible refine h3.mono ?_)
  clear h3 c0 c1
  rintro y w2 ⟨rfl, S3⟩
  generalize w1.heap.size = a at *
  have h3 := hd S3
  clear S2 S3
  go_wp2_with fail
  (with_reducible refine h3.mono ?_)
  clear h3
  rintro y w3 ⟨rfl, S4⟩
  have S5 := S4.newBlk #[.int .i64 yb, .int .i64 yw, .int .i64 yt, .int .i64 yr] 27
  have S6 := S5.newBlk #[.int .i64 yb, .int .i64 yw, .int .i64 yt, .int .i64 yr] 27
  clear S4 S5
  simp only [World.size_alloc] at S6
  go_wp2_with fail
  (with_reducible refine (hnu _).mono ?_)
  rintro y w4 ⟨rfl, rfl⟩
  clear hnu
  go_upto_region 14 with fail
  refine wp_world S6 fun w4 S7 => ?_
  clear S6
  generalize w3.heap.size = b at *
  have c0 := S7.pull2.cell 0
  have c1 := S7.pull2.cell 1
  have hmy2 := hmy (S7.tab ht)
  clear hmy
  cases hs4 : ((s : Int) == 4) with
  | false =>
    rw [hs4] at hdn
    go_wp2_with fail
    (with_reducible refine hmy2.mono ?_)
    rintro y w5 ⟨rfl, rfl⟩
    go_wp2_with fail
    (with_reducible refine (hdn _).mono ?_)
    rintro y w5 ⟨rfl, rfl⟩
    go_wp2_with fail
    (with_reducible refine (fa_ok S7 0 false).mono ?_)
    rintro y w6 ⟨rfl, S8⟩
    go_wp2_with fail
    (with_reducible refine (law_awake (S8.drop.drop.drop) ht).mono ?_); rintro y w9 ⟨rfl, S9⟩; go_wp2_with fail; exact hK.out _ _ ⟨rfl, S9.above Gnd.le.rfl'⟩
  | true =>
    rw [hs4] at hdn
    go_wp2_with fail
    (with_reducible refine hmy2.mono ?_)
    rintro y w5 ⟨rfl, rfl⟩
    go_wp2_with fail
    (with_reducible refine (hdn _).mono ?_)
    rintro y w5 ⟨rfl, rfl⟩
    go_wp2_with fail
    (with_reducible refine (fa_ok S7 0 false).mono ?_)
    rintro y w6 ⟨rfl, S8⟩
    go_wp2_with fail
    (with_reducible refine (law_awake (S8.drop.drop.drop) ht).mono ?_); rintro y w9 ⟨rfl, S9⟩; go_wp2_with fail; exact hK.out _ _ ⟨rfl, S9.above Gnd.le.rfl'⟩
theorem stateSteps_walk (w : World) (v0 v1 : Value) (h0 : ∃ d, ArgV w (.int .i64) v0 d) (h1 : ∃ d, ArgV w (.int .i64) v1 d) (htw : TabW w) :
    Calls Tryd.prog 5 #[v0, v1] w fun e w' => e = .returned (.bool true) ∧ Below w.heap.size w w' := by
  obtain ⟨_, h0⟩ := h0
  obtain ⟨s, rfl, -⟩ := arg_int h0
  obtain ⟨_, h1⟩ := h1
  obtain ⟨e, rfl, -⟩ := arg_int h1
  by_cases h : s < 0 ∨ 4 < s ∨ e < 0 ∨ 8 < e
  · exact steps_out htw s e h
  obtain ⟨s, rfl⟩ : ∃ j : Nat, s = j := ⟨s.toNat, by omega⟩
  obtain ⟨e, rfl⟩ : ∃ j : Nat, e = j := ⟨e.toNat, by omega⟩
  have hs : s < 5 := by omega
  have he : e < 9 := by omega
  obtain ⟨a1, a2, a3, ⟨b1, b2, ⟨b3, b4⟩ | ⟨b3, b4⟩⟩ | ⟨b1, b2, ⟨b3, b4⟩ | ⟨b3, b4⟩ | ⟨b3, b4⟩⟩⟩ := steps_of s e hs he
  · exact steps_1 htw s e hs he a2 a3 a1 b1 b3 b4 b2
  · exact steps_2 htw s e hs he a2 a3 a1 b1 b3 b4 b2
  · exact steps_3 htw s e hs he a2 a3 a1 b1 b3 b2 b4
  · exact steps_4 htw s e hs he a2 a3 a1 b1 b3 b2 b4
  · exact steps_5 htw s e hs he a2 a3 a1 b1 b3 b2 b4
end
end Go.Proofs.YtdmfapmdjhjlhaaDoor
