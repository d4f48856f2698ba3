/- The walk of the law PayloadPads. -/
import Derived.Test.YtdfdcenbpanegaaPadsP
import Derived.Test.YtdfdcenbpanegaaZer
import Derived.Deep.Cut
set_option linter.unusedSimpArgs false
set_option linter.unusedVariables false
namespace Go.Proofs.Ytdfdcenbpanegaa
open Go.RowKit

set_option maxHeartbeats 8000000 in
set_option maxRecDepth 100000 in
theorem pp_out (w : World) (st p : Int) (A : Option Addr) (bs : List UInt8) (c : Nat) (hb : SlB (cellR (Gnd.of w).ro) (.slice A bs.length c) bs) (h : st < 1 ∨ 2147483647 < st ∨ 300 < bs.length ∨ p < 0 ∨ 255 < p) :
    Calls Try.prog 4 #[.int .i64 st, .slice A bs.length c, .int .i64 p] w fun e w' => e = .returned (.bool true) ∧ Below w.heap.size w w' := by
  refine calls_any fun K hK => ?_
  have S1 := Sat.start w
  have hG := Gnd.le.rfl' (G := Gnd.of w)
  clear hb
  by_cases h1 : st < 1
  · clear h
    go_enter Try.func4, Try.ntmps4
    go_wp2_with fail
    (with_reducible refine (law_awake (S1)).mono ?_); rintro e w9 ⟨rfl, G9, hG9, S9⟩; go_wp2_with fail; exact hK.out _ _ ⟨rfl, S9.above (Gnd.le.trans (hG) hG9)⟩
  by_cases h1 : 2147483647 < st
  · clear h
    go_enter Try.func4, Try.ntmps4
    go_wp2_with fail
    (with_reducible refine (law_awake (S1)).mono ?_); rintro e w9 ⟨rfl, G9, hG9, S9⟩; go_wp2_with fail; exact hK.out _ _ ⟨rfl, S9.above (Gnd.le.trans (hG) hG9)⟩
  by_cases h1 : 300 < (bs.length : Int)
  · clear h
    go_enter Try.func4, Try.ntmps4
    go_wp2_with fail
    (with_reducible refine (law_awake (S1)).mono ?_); rintro e w9 ⟨rfl, G9, hG9, S9⟩; go_wp2_with fail; exact hK.out _ _ ⟨rfl, S9.above (Gnd.le.trans (hG) hG9)⟩
  by_cases h1 : p < 0
  · clear h
    go_enter Try.func4, Try.ntmps4
    go_wp2_with fail
    (with_reducible refine (law_awake (S1)).mono ?_); rintro e w9 ⟨rfl, G9, hG9, S9⟩; go_wp2_with fail; exact hK.out _ _ ⟨rfl, S9.above (Gnd.le.trans (hG) hG9)⟩
  have h5 : 255 < p := by omega
  clear h
  go_enter Try.func4, Try.ntmps4
  go_wp2_with fail
  (with_reducible refine (law_awake (S1)).mono ?_); rintro e w9 ⟨rfl, G9, hG9, S9⟩; go_wp2_with fail; exact hK.out _ _ ⟨rfl, S9.above (Gnd.le.trans (hG) hG9)⟩
set_option maxHeartbeats 8000000 in
set_option maxRecDepth 100000 in
theorem pp_zero (w : World) (st p : Int) (A : Option Addr) (bs : List UInt8) (c : Nat) (hb : SlB (cellR (Gnd.of w).ro) (.slice A bs.length c) bs) (hs : 1 ≤ st ∧ st ≤ 2147483647) (hl : bs.length ≤ 300) (hp0 : p = 0) :
    Calls Try.prog 4 #[.int .i64 st, .slice A bs.length c, .int .i64 p] w fun e w' => e = .returned (.bool true) ∧ Below w.heap.size w w' := by
  refine calls_any fun K hK => ?_
  obtain ⟨a1, a2⟩ := hs
  obtain ⟨z, rfl⟩ : ∃ z : Nat, p = z := ⟨p.toNat, by omega⟩
  have HQ := Lib.hid hp0
  have hz2 : z ≤ 255 := by omega
  have hb3 : ¬ (300 < (bs.length : Int)) := by omega
  have b1 : ¬ (st < 1) := by omega
  have b2 : ¬ (2147483647 < st) := by omega
  have b4 : ¬ ((z : Int) < 0) := by omega
  have b5 : ¬ (255 < (z : Int)) := by omega
  have hz8 : IntKind.u8.wrap (z : Int) = z := by unfold IntKind.wrap; simp [IntKind.bits, IntKind.signed]; omega
  have HB := Lib.hid hb
  have S1 := ((Sat.start w).newBlk #[.int .u8 z] 5).ownBlk (size := 1) 1 rfl (by decide)
  have hbn : SlV (w.alloc (.cells #[.int .u8 z] 5)).cell? (.slice A bs.length c) bs.length (bs.map byteV) := (hb.sat S1).1
  have hnil : A = none → c = 0 := fun e => hb.2 _ _ (by rw [e])
  clear hp0 hb
  go_enter Try.func4, Try.ntmps4
  go_upto_region 4 with (at_builtin; refine st_app S1 rfl _ _ rfl rfl rfl hbn hnil (by omega) ?_; intro v' w' S')
  clear S1 hbn hz8
  refine wp_world S' fun w1 S2 => ?_
  clear S' w'
  have hone : (1 + bs.length) + z ≤ 100000 := by omega
  go_upto_region 5 with (at_builtin; refine st_zeros S2 rfl _ _ rfl rfl z rfl (by omega) hone ?_; intro v9 w' S')
  clear S2
  have S3 : Sat (Gnd.of w) w' (ownS 5 1 v9 (padB bs z).length ((padB bs z).map byteV) :: []) := by
    rw [← padB_row bs z hz2, padB_length]
    simpa using S'
  clear S'
  obtain ⟨G1, hG1, S4, hu1⟩ := S3.ownFrz
  clear S3
  refine wp_world S4 fun w1 S5 => ?_
  clear S4
  obtain ⟨A1, c1, rfl, hc1, hm1, -⟩ := hu1.form
  have HU := Lib.hid hu1
  have HUT := Lib.hid (hu1.to z (by rw [padB_length]; omega) c1 (by have := hc1; rw [padB_length] at this; omega) (Nat.le_refl _))
  have hlz : ((padB bs z).take z).length = z := by rw [List.length_take, padB_length]; omega
  have HLZ := Lib.hid hlz
  have hpl := padB_length bs z
  obtain ⟨N, hN⟩ : ∃ N, N = (padB bs z).length := ⟨_, rfl⟩
  have HPL := Lib.hid hN
  rw [← hN] at hpl hu1 hc1 ⊢
  have HPN := Lib.hid hpl
  have hzN : z ≤ N := by omega
  have hbN : bs.length + z < N := by omega
  have hN9 : N ≤ 600 := by omega
  clear hu1 hN hlz hpl
  have hp := pl_parse S5 0 9 st _ HU.out (by rw [← HPL.out]; omega)
  rw [parse_pad hz2 a1, ← HPL.out] at hp
  simp only [ItS.cs, bareS] at hp
  clear S5
  go_wp2_with fail
  (with_reducible refine hp.mono ?_)
  clear hp
  rintro e w2 ⟨G2, v, u, hG2, rfl, hv, hu, T1⟩
  obtain ⟨xA, xc, rfl, -, -, -⟩ := hv.form
  obtain ⟨xU, xd, rfl, -⟩ := id hu
  have T2 := (T1.newBlk #[.int .i64 0, .int .i64 st, .slice xA bs.length xc, .bool true, .bool false, .bool false, .int .i64 N, .int .i64 0, .int .i64 0, .int .i64 0, .int .i64 0, .int .i64 0, .bool false, .bool false, .slice xU 0 xd] 28).newBlk #[.int .i64 0, .bool false] 31
  simp only [World.size_alloc] at T2
  have HX := Lib.hid hv
  clear T1 hv hu
  go_upto_region 6 with fail
  refine wp_world T2 fun w3 T3 => ?_
  clear T2
  generalize w2.heap.size + 1 = a2 at *
  generalize w2.heap.size = a1 at *
  have hp := pl_parse T3 0 1 st _ (HB.out.mono (hG1.trans hG2)) (by omega)
  rw [parse_bare (by omega)] at hp
  simp only [ItS.cs, bareS] at hp
  clear T3
  go_wp2_with fail
  (with_reducible refine hp.mono ?_)
  clear hp
  rintro e w4 ⟨G3, v, u, hG3, rfl, hv, hu, T1⟩
  obtain ⟨yA, yc, rfl, -, -, -⟩ := hv.form
  obtain ⟨yU, yd, rfl, -⟩ := id hu
  have T2 := (T1.newBlk #[.int .i64 0, .int .i64 st, .slice yA bs.length yc, .bool true, .bool false, .bool false, .int .i64 bs.length, .int .i64 0, .int .i64 0, .int .i64 0, .int .i64 0, .int .i64 0, .bool false, .bool false, .slice yU 0 yd] 28).newBlk #[.int .i64 0, .bool false] 31
  simp only [World.size_alloc] at T2
  have HY := Lib.hid hv
  clear T1 hv hu
  go_upto_region 7 with fail
  refine wp_world T2 fun w5 T3 => ?_
  clear T2
  generalize w4.heap.size + 1 = a4 at *
  generalize w4.heap.size = a3 at *
  have hut := (HUT.out.mono (hG2.trans hG3))
  have hp := pl_parse T3 0 9 st _ hut (by rw [HLZ.out]; omega)
  generalize hzr : parseS 0 9 st ((padB bs z).take z) = zr at *
  obtain ⟨⟨zf1, zf2⟩, zi, zt, zps⟩ := zr
  obtain ⟨zk, zs, ze, zl, za, zfl, zcode, zlast, zinc, zdep, zwgt, zwd, zex⟩ := zi
  simp only [ItS.cs] at hp
  have HZR := Lib.hid hzr
  clear T3 hut hzr
  have hmn : min (z : Int) ((N : Int) - bs.length) = z := by have := HPN.out; rw [Int.min_def]; split <;> omega
  have hmx : max (z : Int) 0 = z := by rw [Int.max_def]; split <;> omega
  go_wp2_with fail
  (with_reducible refine hp.mono ?_)
  clear hp hmn hmx
  rintro e w6 ⟨G4, v, u, hG4, rfl, hv, hu, T1⟩
  obtain ⟨zA, zc, rfl, -, -, -⟩ := hv.form
  obtain ⟨zU, zd, rfl, -⟩ := id hu
  have T2 := (T1.newBlk #[.int .i64 zk, .int .i64 zs, .slice zA zt.length zc, .bool ze, .bool zl, .bool za, .int .i64 zfl, .int .i64 zcode, .int .i64 zlast, .int .i64 zinc, .int .i64 zdep, .int .i64 zwgt, .bool zwd, .bool zex, .slice zU zps.length zd] 28).newBlk #[.int .i64 zf1, .bool zf2] 31
  simp only [World.size_alloc] at T2
  clear T1 hv hu
  go_upto_region 8 with fail
  refine wp_world T2 fun w7 T3 => ?_
  clear T2
  generalize w6.heap.size + 1 = a6 at *
  generalize w6.heap.size = a5 at *
  have q1 : ¬ (0 < (z : Int)) := by have := HQ.out; omega
  have HCB := Lib.hid T3
  clear T3
  go_upto_region 10 with fail
  have T5 := HCB.out.drop.drop.re [2, 0, 1, 3]
  have hx := (HX.out.mono (hG3.trans hG4))
  have hy := (HY.out.mono hG4)
  have hb := (HB.out.mono (hG1.trans (hG2.trans (hG3.trans hG4))))
  have hok1 := pl_ok T5 0 false
  rw [show ((0 : Int) == 0 && !false) = true from rfl] at hok1
  have d0 := T5.cell 0
  have d1 := T5.cell 1
  go_wp2_with fail
  (with_reducible refine hok1.mono ?_)
  clear hok1 d0 d1 T5
  rintro e w8 ⟨rfl, T5⟩
  have T6 := T5.re [1, 0, 2, 3]
  clear T5
  have hok1 := pl_ok T6 0 false
  rw [show ((0 : Int) == 0 && !false) = true from rfl] at hok1
  have d0 := T6.cell 0
  have d1 := T6.cell 1
  go_wp2_with fail
  (with_reducible refine hok1.mono ?_)
  clear hok1 d0 d1 T6
  rintro e w9 ⟨rfl, T7⟩
  have T8 := T7.re [3, 2, 0, 1]
  clear T7
  have y2 := T8.cell 2
  have y3 := T8.cell 3
  have y6 := T8.cell 6
  have z2 := T8.swap.cell 2
  have z3 := T8.swap.cell 3
  have z6 := T8.swap.cell 6
  have cv1 := conv_bytes _ bs _ ((hx.sat T8).1)
  have cv2 := conv_bytes _ bs _ ((hy.sat T8).1)
  have cv3 := conv_bytes _ bs _ ((hb.sat T8).1)
  have HT := Lib.hid T8
  have q9 : ((N : Int) == (bs.length : Int) + z + 1) = true := beq_iff_eq.2 (by have := HPN.out; omega)
  have HGG := Lib.hid (hG1.trans (hG2.trans (hG3.trans hG4)))
  clear T8 hx hy hb hG1 hG2 hG3 hG4
  go_wp2_with fail
  (with_reducible refine (law_awake (HT.out)).mono ?_); rintro e w9 ⟨rfl, G9, hG9, S9⟩; go_wp2_with fail; exact hK.out _ _ ⟨rfl, S9.above (Gnd.le.trans (HGG.out) hG9)⟩
set_option maxHeartbeats 8000000 in
set_option maxRecDepth 100000 in
theorem pp_text (w : World) (st p : Int) (A : Option Addr) (bs : List UInt8) (c : Nat) (hb : SlB (cellR (Gnd.of w).ro) (.slice A bs.length c) bs) (hs : 1 ≤ st ∧ st ≤ 2147483647) (hl : bs.length ≤ 300) (hp0 : 0 < p ∧ p ≤ 255) (hn : bs.length ≠ 0) :
    Calls Try.prog 4 #[.int .i64 st, .slice A bs.length c, .int .i64 p] w fun e w' => e = .returned (.bool true) ∧ Below w.heap.size w w' := by
  refine calls_any fun K hK => ?_
  obtain ⟨a1, a2⟩ := hs
  obtain ⟨z, rfl⟩ : ∃ z : Nat, p = z := ⟨p.toNat, by omega⟩
  have HQ := Lib.hid hp0
  have hz2 : z ≤ 255 := by omega
  have hb3 : ¬ (300 < (bs.length : Int)) := by omega
  have b1 : ¬ (st < 1) := by omega
  have b2 : ¬ (2147483647 < st) := by omega
  have b4 : ¬ ((z : Int) < 0) := by omega
  have b5 : ¬ (255 < (z : Int)) := by omega
  have hz8 : IntKind.u8.wrap (z : Int) = z := by unfold IntKind.wrap; simp [IntKind.bits, IntKind.signed]; omega
  have HB := Lib.hid hb
  have S1 := ((Sat.start w).newBlk #[.int .u8 z] 5).ownBlk (size := 1) 1 rfl (by decide)
  have hbn : SlV (w.alloc (.cells #[.int .u8 z] 5)).cell? (.slice A bs.length c) bs.length (bs.map byteV) := (hb.sat S1).1
  have hnil : A = none → c = 0 := fun e => hb.2 _ _ (by rw [e])
  clear hp0 hb
  go_enter Try.func4, Try.ntmps4
  go_upto_region 4 with (at_builtin; refine st_app S1 rfl _ _ rfl rfl rfl hbn hnil (by omega) ?_; intro v' w' S')
  clear S1 hbn hz8
  refine wp_world S' fun w1 S2 => ?_
  clear S' w'
  have hone : (1 + bs.length) + z ≤ 100000 := by omega
  go_upto_region 5 with (at_builtin; refine st_zeros S2 rfl _ _ rfl rfl z rfl (by omega) hone ?_; intro v9 w' S')
  clear S2
  have S3 : Sat (Gnd.of w) w' (ownS 5 1 v9 (padB bs z).length ((padB bs z).map byteV) :: []) := by
    rw [← padB_row bs z hz2, padB_length]
    simpa using S'
  clear S'
  obtain ⟨G1, hG1, S4, hu1⟩ := S3.ownFrz
  clear S3
  refine wp_world S4 fun w1 S5 => ?_
  clear S4
  obtain ⟨A1, c1, rfl, hc1, hm1, -⟩ := hu1.form
  have HU := Lib.hid hu1
  have HUT := Lib.hid (hu1.to z (by rw [padB_length]; omega) c1 (by have := hc1; rw [padB_length] at this; omega) (Nat.le_refl _))
  have hlz : ((padB bs z).take z).length = z := by rw [List.length_take, padB_length]; omega
  have HLZ := Lib.hid hlz
  have hpl := padB_length bs z
  obtain ⟨N, hN⟩ : ∃ N, N = (padB bs z).length := ⟨_, rfl⟩
  have HPL := Lib.hid hN
  rw [← hN] at hpl hu1 hc1 ⊢
  have HPN := Lib.hid hpl
  have hzN : z ≤ N := by omega
  have hbN : bs.length + z < N := by omega
  have hN9 : N ≤ 600 := by omega
  clear hu1 hN hlz hpl
  have hp := pl_parse S5 0 9 st _ HU.out (by rw [← HPL.out]; omega)
  rw [parse_pad hz2 a1, ← HPL.out] at hp
  simp only [ItS.cs, bareS] at hp
  clear S5
  go_wp2_with fail
  (with_reducible refine hp.mono ?_)
  clear hp
  rintro e w2 ⟨G2, v, u, hG2, rfl, hv, hu, T1⟩
  obtain ⟨xA, xc, rfl, -, -, -⟩ := hv.form
  obtain ⟨xU, xd, rfl, -⟩ := id hu
  have T2 := (T1.newBlk #[.int .i64 0, .int .i64 st, .slice xA bs.length xc, .bool true, .bool false, .bool false, .int .i64 N, .int .i64 0, .int .i64 0, .int .i64 0, .int .i64 0, .int .i64 0, .bool false, .bool false, .slice xU 0 xd] 28).newBlk #[.int .i64 0, .bool false] 31
  simp only [World.size_alloc] at T2
  have HX := Lib.hid hv
  clear T1 hv hu
  go_upto_region 6 with fail
  refine wp_world T2 fun w3 T3 => ?_
  clear T2
  generalize w2.heap.size + 1 = a2 at *
  generalize w2.heap.size = a1 at *
  have hp := pl_parse T3 0 1 st _ (HB.out.mono (hG1.trans hG2)) (by omega)
  rw [parse_bare (by omega)] at hp
  simp only [ItS.cs, bareS] at hp
  clear T3
  go_wp2_with fail
  (with_reducible refine hp.mono ?_)
  clear hp
  rintro e w4 ⟨G3, v, u, hG3, rfl, hv, hu, T1⟩
  obtain ⟨yA, yc, rfl, -, -, -⟩ := hv.form
  obtain ⟨yU, yd, rfl, -⟩ := id hu
  have T2 := (T1.newBlk #[.int .i64 0, .int .i64 st, .slice yA bs.length yc, .bool true, .bool false, .bool false, .int .i64 bs.length, .int .i64 0, .int .i64 0, .int .i64 0, .int .i64 0, .int .i64 0, .bool false, .bool false, .slice yU 0 yd] 28).newBlk #[.int .i64 0, .bool false] 31
  simp only [World.size_alloc] at T2
  have HY := Lib.hid hv
  clear T1 hv hu
  go_upto_region 7 with fail
  refine wp_world T2 fun w5 T3 => ?_
  clear T2
  generalize w4.heap.size + 1 = a4 at *
  generalize w4.heap.size = a3 at *
  have hut := (HUT.out.mono (hG2.trans hG3))
  have hp := pl_parse T3 0 9 st _ hut (by rw [HLZ.out]; omega)
  generalize hzr : parseS 0 9 st ((padB bs z).take z) = zr at *
  obtain ⟨⟨zf1, zf2⟩, zi, zt, zps⟩ := zr
  obtain ⟨zk, zs, ze, zl, za, zfl, zcode, zlast, zinc, zdep, zwgt, zwd, zex⟩ := zi
  simp only [ItS.cs] at hp
  have HZR := Lib.hid hzr
  clear T3 hut hzr
  have hmn : min (z : Int) ((N : Int) - bs.length) = z := by have := HPN.out; rw [Int.min_def]; split <;> omega
  have hmx : max (z : Int) 0 = z := by rw [Int.max_def]; split <;> omega
  go_wp2_with fail
  (with_reducible refine hp.mono ?_)
  clear hp hmn hmx
  rintro e w6 ⟨G4, v, u, hG4, rfl, hv, hu, T1⟩
  obtain ⟨zA, zc, rfl, -, -, -⟩ := hv.form
  obtain ⟨zU, zd, rfl, -⟩ := id hu
  have T2 := (T1.newBlk #[.int .i64 zk, .int .i64 zs, .slice zA zt.length zc, .bool ze, .bool zl, .bool za, .int .i64 zfl, .int .i64 zcode, .int .i64 zlast, .int .i64 zinc, .int .i64 zdep, .int .i64 zwgt, .bool zwd, .bool zex, .slice zU zps.length zd] 28).newBlk #[.int .i64 zf1, .bool zf2] 31
  simp only [World.size_alloc] at T2
  clear T1 hv hu
  go_upto_region 8 with fail
  refine wp_world T2 fun w7 T3 => ?_
  clear T2
  generalize w6.heap.size + 1 = a6 at *
  generalize w6.heap.size = a5 at *
  have q1 : 0 < (z : Int) := by have := HQ.out; omega
  have q2 : ((bs.length : Int) == 0) = false := beq_eq_false_iff_ne.2 (by omega)
  have HCB := Lib.hid T3
  clear T3
  go_upto_region 10 with fail
  have T5 := HCB.out.drop.drop.re [2, 0, 1, 3]
  have hx := (HX.out.mono (hG3.trans hG4))
  have hy := (HY.out.mono hG4)
  have hb := (HB.out.mono (hG1.trans (hG2.trans (hG3.trans hG4))))
  have hok1 := pl_ok T5 0 false
  rw [show ((0 : Int) == 0 && !false) = true from rfl] at hok1
  have d0 := T5.cell 0
  have d1 := T5.cell 1
  go_wp2_with fail
  (with_reducible refine hok1.mono ?_)
  clear hok1 d0 d1 T5
  rintro e w8 ⟨rfl, T5⟩
  have T6 := T5.re [1, 0, 2, 3]
  clear T5
  have hok1 := pl_ok T6 0 false
  rw [show ((0 : Int) == 0 && !false) = true from rfl] at hok1
  have d0 := T6.cell 0
  have d1 := T6.cell 1
  go_wp2_with fail
  (with_reducible refine hok1.mono ?_)
  clear hok1 d0 d1 T6
  rintro e w9 ⟨rfl, T7⟩
  have T8 := T7.re [3, 2, 0, 1]
  clear T7
  have y2 := T8.cell 2
  have y3 := T8.cell 3
  have y6 := T8.cell 6
  have z2 := T8.swap.cell 2
  have z3 := T8.swap.cell 3
  have z6 := T8.swap.cell 6
  have cv1 := conv_bytes _ bs _ ((hx.sat T8).1)
  have cv2 := conv_bytes _ bs _ ((hy.sat T8).1)
  have cv3 := conv_bytes _ bs _ ((hb.sat T8).1)
  have HT := Lib.hid T8
  have q9 : ((N : Int) == (bs.length : Int) + z + 1) = true := beq_iff_eq.2 (by have := HPN.out; omega)
  have HGG := Lib.hid (hG1.trans (hG2.trans (hG3.trans hG4)))
  clear T8 hx hy hb hG1 hG2 hG3 hG4
  go_wp2_with fail
  (with_reducible refine (law_awake (HT.out)).mono ?_); rintro e w9 ⟨rfl, G9, hG9, S9⟩; go_wp2_with fail; exact hK.out _ _ ⟨rfl, S9.above (Gnd.le.trans (HGG.out) hG9)⟩
set_option maxHeartbeats 8000000 in
set_option maxRecDepth 100000 in
theorem pp_none (w : World) (st p : Int) (A : Option Addr) (bs : List UInt8) (c : Nat) (hb : SlB (cellR (Gnd.of w).ro) (.slice A bs.length c) bs) (hs : 1 ≤ st ∧ st ≤ 2147483647) (hl : bs.length ≤ 300) (hp0 : 0 < p ∧ p ≤ 255) (hn : bs.length = 0) :
    Calls Try.prog 4 #[.int .i64 st, .slice A bs.length c, .int .i64 p] w fun e w' => e = .returned (.bool true) ∧ Below w.heap.size w w' := by
  refine calls_any fun K hK => ?_
  obtain ⟨a1, a2⟩ := hs
  have HN := Lib.hid hn
  clear hn
  obtain ⟨z, rfl⟩ : ∃ z : Nat, p = z := ⟨p.toNat, by omega⟩
  have HQ := Lib.hid hp0
  have hz2 : z ≤ 255 := by omega
  have hb3 : ¬ (300 < (bs.length : Int)) := by omega
  have b1 : ¬ (st < 1) := by omega
  have b2 : ¬ (2147483647 < st) := by omega
  have b4 : ¬ ((z : Int) < 0) := by omega
  have b5 : ¬ (255 < (z : Int)) := by omega
  have hz8 : IntKind.u8.wrap (z : Int) = z := by unfold IntKind.wrap; simp [IntKind.bits, IntKind.signed]; omega
  have HB := Lib.hid hb
  have S1 := ((Sat.start w).newBlk #[.int .u8 z] 5).ownBlk (size := 1) 1 rfl (by decide)
  have hbn : SlV (w.alloc (.cells #[.int .u8 z] 5)).cell? (.slice A bs.length c) bs.length (bs.map byteV) := (hb.sat S1).1
  have hnil : A = none → c = 0 := fun e => hb.2 _ _ (by rw [e])
  clear hp0 hb
  go_enter Try.func4, Try.ntmps4
  go_upto_region 4 with (at_builtin; refine st_app S1 rfl _ _ rfl rfl rfl hbn hnil (by omega) ?_; intro v' w' S')
  clear S1 hbn hz8
  refine wp_world S' fun w1 S2 => ?_
  clear S' w'
  have hone : (1 + bs.length) + z ≤ 100000 := by omega
  go_upto_region 5 with (at_builtin; refine st_zeros S2 rfl _ _ rfl rfl z rfl (by omega) hone ?_; intro v9 w' S')
  clear S2
  have S3 : Sat (Gnd.of w) w' (ownS 5 1 v9 (padB bs z).length ((padB bs z).map byteV) :: []) := by
    rw [← padB_row bs z hz2, padB_length]
    simpa using S'
  clear S'
  obtain ⟨G1, hG1, S4, hu1⟩ := S3.ownFrz
  clear S3
  refine wp_world S4 fun w1 S5 => ?_
  clear S4
  obtain ⟨A1, c1, rfl, hc1, hm1, -⟩ := hu1.form
  have HU := Lib.hid hu1
  have HUT := Lib.hid (hu1.to z (by rw [padB_length]; omega) c1 (by have := hc1; rw [padB_length] at this; omega) (Nat.le_refl _))
  have hlz : ((padB bs z).take z).length = z := by rw [List.length_take, padB_length]; omega
  have HLZ := Lib.hid hlz
  have hpl := padB_length bs z
  obtain ⟨N, hN⟩ : ∃ N, N = (padB bs z).length := ⟨_, rfl⟩
  have HPL := Lib.hid hN
  rw [← hN] at hpl hu1 hc1 ⊢
  have HPN := Lib.hid hpl
  have hzN : z ≤ N := by omega
  have hbN : bs.length + z < N := by omega
  have hN9 : N ≤ 600 := by omega
  clear hu1 hN hlz hpl
  have hp := pl_parse S5 0 9 st _ HU.out (by rw [← HPL.out]; omega)
  rw [parse_pad hz2 a1, ← HPL.out] at hp
  simp only [ItS.cs, bareS] at hp
  clear S5
  go_wp2_with fail
  (with_reducible refine hp.mono ?_)
  clear hp
  rintro e w2 ⟨G2, v, u, hG2, rfl, hv, hu, T1⟩
  obtain ⟨xA, xc, rfl, -, -, -⟩ := hv.form
  obtain ⟨xU, xd, rfl, -⟩ := id hu
  have T2 := (T1.newBlk #[.int .i64 0, .int .i64 st, .slice xA bs.length xc, .bool true, .bool false, .bool false, .int .i64 N, .int .i64 0, .int .i64 0, .int .i64 0, .int .i64 0, .int .i64 0, .bool false, .bool false, .slice xU 0 xd] 28).newBlk #[.int .i64 0, .bool false] 31
  simp only [World.size_alloc] at T2
  have HX := Lib.hid hv
  clear T1 hv hu
  go_upto_region 6 with fail
  refine wp_world T2 fun w3 T3 => ?_
  clear T2
  generalize w2.heap.size + 1 = a2 at *
  generalize w2.heap.size = a1 at *
  have hp := pl_parse T3 0 1 st _ (HB.out.mono (hG1.trans hG2)) (by omega)
  rw [parse_bare (by omega)] at hp
  simp only [ItS.cs, bareS] at hp
  clear T3
  go_wp2_with fail
  (with_reducible refine hp.mono ?_)
  clear hp
  rintro e w4 ⟨G3, v, u, hG3, rfl, hv, hu, T1⟩
  obtain ⟨yA, yc, rfl, -, -, -⟩ := hv.form
  obtain ⟨yU, yd, rfl, -⟩ := id hu
  have T2 := (T1.newBlk #[.int .i64 0, .int .i64 st, .slice yA bs.length yc, .bool true, .bool false, .bool false, .int .i64 bs.length, .int .i64 0, .int .i64 0, .int .i64 0, .int .i64 0, .int .i64 0, .bool false, .bool false, .slice yU 0 yd] 28).newBlk #[.int .i64 0, .bool false] 31
  simp only [World.size_alloc] at T2
  have HY := Lib.hid hv
  clear T1 hv hu
  go_upto_region 7 with fail
  refine wp_world T2 fun w5 T3 => ?_
  clear T2
  generalize w4.heap.size + 1 = a4 at *
  generalize w4.heap.size = a3 at *
  have hut := (HUT.out.mono (hG2.trans hG3))
  have hp := pl_parse T3 0 9 st _ hut (by rw [HLZ.out]; omega)
  generalize hzr : parseS 0 9 st ((padB bs z).take z) = zr at *
  obtain ⟨⟨zf1, zf2⟩, zi, zt, zps⟩ := zr
  obtain ⟨zk, zs, ze, zl, za, zfl, zcode, zlast, zinc, zdep, zwgt, zwd, zex⟩ := zi
  simp only [ItS.cs] at hp
  have HZR := Lib.hid hzr
  clear T3 hut hzr
  have hmn : min (z : Int) ((N : Int) - bs.length) = z := by have := HPN.out; rw [Int.min_def]; split <;> omega
  have hmx : max (z : Int) 0 = z := by rw [Int.max_def]; split <;> omega
  go_wp2_with fail
  (with_reducible refine hp.mono ?_)
  clear hp hmn hmx
  rintro e w6 ⟨G4, v, u, hG4, rfl, hv, hu, T1⟩
  obtain ⟨zA, zc, rfl, -, -, -⟩ := hv.form
  obtain ⟨zU, zd, rfl, -⟩ := id hu
  have T2 := (T1.newBlk #[.int .i64 zk, .int .i64 zs, .slice zA zt.length zc, .bool ze, .bool zl, .bool za, .int .i64 zfl, .int .i64 zcode, .int .i64 zlast, .int .i64 zinc, .int .i64 zdep, .int .i64 zwgt, .bool zwd, .bool zex, .slice zU zps.length zd] 28).newBlk #[.int .i64 zf1, .bool zf2] 31
  simp only [World.size_alloc] at T2
  clear T1 hv hu
  go_upto_region 8 with fail
  refine wp_world T2 fun w7 T3 => ?_
  clear T2
  generalize w6.heap.size + 1 = a6 at *
  generalize w6.heap.size = a5 at *
  have q1 : 0 < (z : Int) := by have := HQ.out; omega
  have q2 : ((bs.length : Int) == 0) = true := beq_iff_eq.2 (by have := HN.out; omega)
  obtain ⟨rfl, rfl⟩ : zf1 = 101 ∧ zf2 = true := by
    have h := parse_short (st := st) hz2 (by omega) (by omega)
    have e : bs = [] := List.eq_nil_of_length_eq_zero HN.out
    have hz := HZR.out
    rw [e] at hz
    rw [hz] at h
    exact ⟨congrArg Prod.fst h, congrArg Prod.snd h⟩
  have d0 := T3.cell 0
  have d1 := T3.cell 1
  have HCB := Lib.hid T3
  clear T3
  go_upto_region 10 with fail
  clear d0 d1
  have T5 := HCB.out.drop.drop.re [2, 0, 1, 3]
  have hx := (HX.out.mono (hG3.trans hG4))
  have hy := (HY.out.mono hG4)
  have hb := (HB.out.mono (hG1.trans (hG2.trans (hG3.trans hG4))))
  have hok1 := pl_ok T5 0 false
  rw [show ((0 : Int) == 0 && !false) = true from rfl] at hok1
  have d0 := T5.cell 0
  have d1 := T5.cell 1
  go_wp2_with fail
  (with_reducible refine hok1.mono ?_)
  clear hok1 d0 d1 T5
  rintro e w8 ⟨rfl, T5⟩
  have T6 := T5.re [1, 0, 2, 3]
  clear T5
  have hok1 := pl_ok T6 0 false
  rw [show ((0 : Int) == 0 && !false) = true from rfl] at hok1
  have d0 := T6.cell 0
  have d1 := T6.cell 1
  go_wp2_with fail
  (with_reducible refine hok1.mono ?_)
  clear hok1 d0 d1 T6
  rintro e w9 ⟨rfl, T7⟩
  have T8 := T7.re [3, 2, 0, 1]
  clear T7
  have y2 := T8.cell 2
  have y3 := T8.cell 3
  have y6 := T8.cell 6
  have z2 := T8.swap.cell 2
  have z3 := T8.swap.cell 3
  have z6 := T8.swap.cell 6
  have cv1 := conv_bytes _ bs _ ((hx.sat T8).1)
  have cv2 := conv_bytes _ bs _ ((hy.sat T8).1)
  have cv3 := conv_bytes _ bs _ ((hb.sat T8).1)
  have HT := Lib.hid T8
  have q9 : ((N : Int) == (bs.length : Int) + z + 1) = true := beq_iff_eq.2 (by have := HPN.out; omega)
  have HGG := Lib.hid (hG1.trans (hG2.trans (hG3.trans hG4)))
  clear T8 hx hy hb hG1 hG2 hG3 hG4
  go_wp2_with fail
  (with_reducible refine (law_awake (HT.out)).mono ?_); rintro e w9 ⟨rfl, G9, hG9, S9⟩; go_wp2_with fail; exact hK.out _ _ ⟨rfl, S9.above (Gnd.le.trans (HGG.out) hG9)⟩
theorem payloadPads_walk (w : World) (v0 v1 v2 : Value) (h0 : ∃ d, ArgV w (.int .i64) v0 d) (h1 : ∃ d, ArgV w (.sl 1 (.int .u8)) v1 d) (h2 : ∃ d, ArgV w (.int .i64) v2 d) :
    Calls Try.prog 4 #[v0, v1, v2] w fun e w' => e = .returned (.bool true) ∧ Below w.heap.size w w' := by
  obtain ⟨_, h0⟩ := h0
  obtain ⟨st, rfl, -⟩ := arg_int h0
  obtain ⟨_, h1⟩ := h1
  obtain ⟨l, h1⟩ := arg_sl h1
  obtain ⟨bs, -, hlen, hb⟩ := slb_of h1
  obtain ⟨_, h2⟩ := h2
  obtain ⟨p, rfl, -⟩ := arg_int h2
  clear h0 h1 h2
  obtain ⟨A, c, rfl, -, -, -⟩ := hb.form
  by_cases h : st < 1 ∨ 2147483647 < st ∨ 300 < bs.length ∨ p < 0 ∨ 255 < p
  · exact pp_out w st p A bs c hb h
  by_cases h0 : p = 0
  · exact pp_zero w st p A bs c hb (by omega) (by omega) h0
  by_cases hn : bs.length = 0
  · exact pp_none w st p A bs c hb (by omega) (by omega) (by omega) hn
  · exact pp_text w st p A bs c hb (by omega) (by omega) (by omega) hn
end Go.Proofs.Ytdfdcenbpanegaa
