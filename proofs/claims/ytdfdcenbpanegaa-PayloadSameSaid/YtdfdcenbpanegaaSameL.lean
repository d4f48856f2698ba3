/- The walk of the law PayloadSame. -/
import Derived.Test.YtdfdcenbpanegaaFaultP
import Derived.Test.YtdfdcenbpanegaaMiss
import Derived.Deep.Cut
set_option linter.unusedSimpArgs false
set_option linter.unusedVariables false
namespace Go.Proofs.Ytdfdcenbpanegaa
open Go.RowKit

theorem itEq_self' (x : ItS) (t : List UInt8) (ps : List (Int × Int)) : itEq x x t t ps ps = true := by simp [itEq, sameN, sameF]
theorem itEq_symm (x y : ItS) (t t' : List UInt8) (ps ps' : List (Int × Int)) : itEq x y t t' ps ps' = itEq y x t' t ps' ps := by
  have h1 : sameN x y = sameN y x := by unfold sameN; congr 1; simp only [eq_comm]
  have h2 : sameF x y = sameF y x := by unfold sameF; congr 1; simp only [eq_comm]
  have h3 : (t == t') = (t' == t) := by
    by_cases h : t = t'
    · subst h; rfl
    · rw [beq_eq_false_iff_ne.2 h, beq_eq_false_iff_ne.2 (fun e => h e.symm)]
  have h4 : decide (ps = ps') = decide (ps' = ps) := by congr 1; simp only [eq_comm]
  unfold itEq
  rw [h1, h2, h3, h4]
theorem itEq_true {x y : ItS} {t t' : List UInt8} {ps ps' : List (Int × Int)} (h : itEq x y t t' ps ps' = true) : x = y ∧ t = t' ∧ ps = ps' := by
  unfold itEq at h
  simp only [Bool.and_eq_true, sameN, sameF, decide_eq_true_eq, beq_iff_eq] at h
  obtain ⟨⟨⟨⟨a1, a2, a3, a4, a5, a6, a7, a8⟩, b1, b2, b3, b4, b5⟩, h2⟩, h3⟩ := h
  refine ⟨?_, h2, h3⟩
  cases x; cases y
  simp only at *
  subst a1 a2 a3 a4 a5 a6 a7 a8 b1 b2 b3 b4 b5
  rfl
theorem wrap_ne (n : Int) : IntKind.i64.wrap (n + 1) ≠ n := by
  rw [IntKind.wrap_i64]
  omega
set_option maxHeartbeats 8000000 in
set_option maxRecDepth 100000 in
theorem ps_big (w : World) (k fl s k2 fl2 s2 : Int) (A B : Option Addr) (bs cs : List UInt8) (c d : Nat) (h : 200 < bs.length ∨ 200 < cs.length) :
    Calls Try.prog 6 #[.agg #[.int .i64 k, .int .i64 fl, .int .i64 s, .slice A bs.length c], .agg #[.int .i64 k2, .int .i64 fl2, .int .i64 s2, .slice B cs.length d]] w fun e w' => e = .returned (.bool true) ∧ Below w.heap.size w w' := by
  refine calls_any fun K hK => ?_
  have S1 := ((Sat.start w).newBlk #[.int .i64 k, .int .i64 fl, .int .i64 s, .slice A bs.length c] 24).newBlk #[.int .i64 k2, .int .i64 fl2, .int .i64 s2, .slice B cs.length d] 24
  simp only [World.size_alloc] at S1
  have hG := Gnd.le.rfl' (G := Gnd.of w)
  have c3 := S1.swap.cell 3
  have e3 := S1.cell 3
  by_cases h1 : 200 < (bs.length : Int)
  · clear h
    go_enter Try.func6, Try.ntmps6
    go_wp2_with fail
    (with_reducible refine (law_awake (S1)).mono ?_); rintro e w9 ⟨rfl, G9, hG9, S9⟩; go_wp2_with fail; exact hK.out _ _ ⟨rfl, S9.above (Gnd.le.trans (hG) hG9)⟩
  · have h2 : 200 < (cs.length : Int) := by omega
    clear h
    go_enter Try.func6, Try.ntmps6
    go_wp2_with fail
    (with_reducible refine (law_awake (S1)).mono ?_); rintro e w9 ⟨rfl, G9, hG9, S9⟩; go_wp2_with fail; exact hK.out _ _ ⟨rfl, S9.above (Gnd.le.trans (hG) hG9)⟩
set_option maxHeartbeats 16000000 in
set_option maxRecDepth 100000 in
theorem ps_t (w : World) (k fl s k2 fl2 s2 : Int) (A B : Option Addr) (bs cs : List UInt8) (c d : Nat) (hb : SlB (cellR (Gnd.of w).ro) (.slice A bs.length c) bs) (hcb : SlB (cellR (Gnd.of w).ro) (.slice B cs.length d) cs) (hout : ¬ (200 < bs.length ∨ 200 < cs.length))
    (hxy : itEq (parseS k fl s bs).x (parseS k2 fl2 s2 cs).x (parseS k fl s bs).t (parseS k2 fl2 s2 cs).t (parseS k fl s bs).ps (parseS k2 fl2 s2 cs).ps = true) :
    Calls Try.prog 6 #[.agg #[.int .i64 k, .int .i64 fl, .int .i64 s, .slice A bs.length c], .agg #[.int .i64 k2, .int .i64 fl2, .int .i64 s2, .slice B cs.length d]] w fun e w' => e = .returned (.bool true) ∧ Below w.heap.size w w' := by
  refine calls_any fun K hK => ?_
  have g1 : ¬ (200 < (bs.length : Int)) := by omega
  have g2 : ¬ (200 < (cs.length : Int)) := by omega
  have S1 := ((Sat.start w).newBlk #[.int .i64 k, .int .i64 fl, .int .i64 s, .slice A bs.length c] 24).newBlk #[.int .i64 k2, .int .i64 fl2, .int .i64 s2, .slice B cs.length d] 24
  simp only [World.size_alloc] at S1
  have hp := pl_parse S1 k fl s _ hb (by omega)
  have HCB := Lib.hid hcb
  have HLB : Hid (cs.length ≤ 1000000000) := Lib.hid (by omega)
  have c0 := S1.swap.cell 0
  have c1 := S1.swap.cell 1
  have c2 := S1.swap.cell 2
  have c3 := S1.swap.cell 3
  have e3 := S1.cell 3
  generalize hyr : parseS k2 fl2 s2 cs = yr at hxy
  have HYR := Lib.hid hyr
  generalize hxr : parseS k fl s bs = xr at *
  obtain ⟨⟨xf1, xf2⟩, xi, xt, xps⟩ := xr
  obtain ⟨⟨yf1, yf2⟩, yi, yt, yps⟩ := yr
  simp only at hxy
  obtain ⟨e1, e2, e3'⟩ := itEq_true hxy
  subst e1 e2 e3'
  clear hxy
  obtain ⟨xk, xs, xe, xl, xa, xfl, xcode, xlast, xinc, xdep, xwgt, xwd, xex⟩ := xi
  simp only [ItS.cs] at hp
  clear hout S1 hb hcb hxr hyr
  go_enter Try.func6, Try.ntmps6
  go_wp2_with fail
  (with_reducible refine hp.mono ?_)
  clear hp c0 c1 c2 c3 e3
  obtain ⟨b1, hb1⟩ : ∃ b1, b1 = w.heap.size := ⟨_, rfl⟩
  rw [← hb1]
  clear hb1
  rintro e w1 ⟨G1, v, u, hG1, rfl, hv, hu, S2⟩
  obtain ⟨xA, xc, rfl, -, -, -⟩ := hv.form
  obtain ⟨xU, xd, rfl, -⟩ := id hu
  have S3 := ((S2.newBlk #[.int .i64 xk, .int .i64 xs, .slice xA xt.length xc, .bool xe, .bool xl, .bool xa, .int .i64 xfl, .int .i64 xcode, .int .i64 xlast, .int .i64 xinc, .int .i64 xdep, .int .i64 xwgt, .bool xwd, .bool xex, .slice xU xps.length xd] 28).newBlk #[.int .i64 xf1, .bool xf2] 31)
  simp only [World.size_alloc] at S3
  have HTx0 := Lib.hid hv
  have HPx0 := Lib.hid hu
  clear S2 hv hu
  go_upto_region 4 with fail
  refine wp_world S3 fun w2 S4 => ?_
  clear S3
  generalize w1.heap.size + 1 = a6 at *
  generalize w1.heap.size = a5 at *
  have hp := pl_parse S4 k2 fl2 s2 _ (HCB.out.mono hG1) HLB.out
  rw [HYR.out] at hp
  clear HYR
  have c0 := (S4.re [2, 0, 1]).cell 0
  have c1 := (S4.re [2, 0, 1]).cell 1
  have c2 := (S4.re [2, 0, 1]).cell 2
  have c3 := (S4.re [2, 0, 1]).cell 3
  simp only [ItS.cs] at hp
  clear S4
  go_wp2_with fail
  (with_reducible refine hp.mono ?_)
  clear hp c0 c1 c2 c3
  rintro e w3 ⟨G2, v, u, hG2, rfl, hv, hu, S5⟩
  obtain ⟨yA, yc, rfl, -, -, -⟩ := hv.form
  obtain ⟨yU, yd, rfl, -⟩ := id hu
  have S6 := ((S5.newBlk #[.int .i64 xk, .int .i64 xs, .slice yA xt.length yc, .bool xe, .bool xl, .bool xa, .int .i64 xfl, .int .i64 xcode, .int .i64 xlast, .int .i64 xinc, .int .i64 xdep, .int .i64 xwgt, .bool xwd, .bool xex, .slice yU xps.length yd] 28).newBlk #[.int .i64 yf1, .bool yf2] 31)
  simp only [World.size_alloc] at S6
  have HTy := Lib.hid hv
  have HPy := Lib.hid hu
  have HTx := Lib.hid (HTx0.out.mono hG2)
  have HPx := Lib.hid (HPx0.out.mono hG2)
  clear S5 hv hu HTx0 HPx0
  go_upto_region 5 with fail
  refine wp_world S6 fun w4 S7 => ?_
  clear S6
  generalize w3.heap.size + 1 = a8 at *
  generalize w3.heap.size = a7 at *
  have S8 := S7.re [3, 1, 0, 2]
  clear S7
  have y0 := S8.cell 0
  have y1 := S8.cell 1
  have y2 := S8.cell 2
  have y3 := S8.cell 3
  have y4 := S8.cell 4
  have y5 := S8.cell 5
  have y6 := S8.cell 6
  have y7 := S8.cell 7
  have y8 := S8.cell 8
  have y9 := S8.cell 9
  have y10 := S8.cell 10
  have y11 := S8.cell 11
  have y12 := S8.cell 12
  have y13 := S8.cell 13
  have y14 := S8.cell 14
  have S9 := S8.newBlk #[.int .i64 xk, .int .i64 xs, .slice xA xt.length xc, .bool xe, .bool xl, .bool xa, .int .i64 xfl, .int .i64 xcode, .int .i64 xlast, .int .i64 xinc, .int .i64 xdep, .int .i64 xwgt, .bool xwd, .bool xex, .slice xU xps.length xd] 28
  clear S8
  go_upto_region 6 with fail
  refine wp_world S9 fun w5 S10 => ?_
  clear S9 y0 y1 y2 y3 y4 y5 y6 y7 y8 y9 y10 y11 y12 y13 y14
  generalize w4.heap.size = a9 at *
  obtain ⟨zl, hzl⟩ : ∃ zl, zl = IntKind.i64.wrap (xlast + 1) := ⟨_, rfl⟩
  have hzn : zl ≠ xlast := by rw [hzl]; exact wrap_ne xlast
  have hzl2 : IntKind.i64.wrap (xlast + 1) = zl := hzl.symm
  have y8 := S10.cell 8
  have f8 := S10.frozen 8
  have S11 := S10.setCell 8 (.int .i64 zl)
  clear S10 hzl
  go_upto_region 7 with fail
  refine wp_world S11 fun w6 S12 => ?_
  clear S11 y8 f8
  have S2 : Sat G2 w6 [blk a5 #[.int .i64 xk, .int .i64 xs, .slice xA xt.length xc, .bool xe, .bool xl, .bool xa, .int .i64 xfl, .int .i64 xcode, .int .i64 xlast, .int .i64 xinc, .int .i64 xdep, .int .i64 xwgt, .bool xwd, .bool xex, .slice xU xps.length xd] 28, blk a7 #[.int .i64 xk, .int .i64 xs, .slice yA xt.length yc, .bool xe, .bool xl, .bool xa, .int .i64 xfl, .int .i64 xcode, .int .i64 xlast, .int .i64 xinc, .int .i64 xdep, .int .i64 xwgt, .bool xwd, .bool xex, .slice yU xps.length yd] 28, blk a9 #[.int .i64 xk, .int .i64 xs, .slice xA xt.length xc, .bool xe, .bool xl, .bool xa, .int .i64 xfl, .int .i64 xcode, .int .i64 zl, .int .i64 xinc, .int .i64 xdep, .int .i64 xwgt, .bool xwd, .bool xex, .slice xU xps.length xd] 28] := (S12.re [3, 4, 5, 6, 1, 2, 0]).drop.drop.drop.drop
  have hGG := hG1.trans hG2
  have HXX : Hid (itEq ⟨xk, xs, xe, xl, xa, xfl, xcode, xlast, xinc, xdep, xwgt, xwd, xex⟩ ⟨xk, xs, xe, xl, xa, xfl, xcode, xlast, xinc, xdep, xwgt, xwd, xex⟩ xt xt xps xps = true) := Lib.hid (itEq_self' _ _ _)
  have HXZ : Hid (itEq ⟨xk, xs, xe, xl, xa, xfl, xcode, xlast, xinc, xdep, xwgt, xwd, xex⟩ ⟨xk, xs, xe, xl, xa, xfl, xcode, zl, xinc, xdep, xwgt, xwd, xex⟩ xt xt xps xps = false) := Lib.hid (by simp [itEq, sameN, Ne.symm hzn])
  obtain ⟨XI, hXI⟩ : ∃ XI : ItS, XI = ⟨xk, xs, xe, xl, xa, xfl, xcode, xlast, xinc, xdep, xwgt, xwd, xex⟩ := ⟨_, rfl⟩
  obtain ⟨ZI, hZI⟩ : ∃ ZI : ItS, ZI = ⟨xk, xs, xe, xl, xa, xfl, xcode, zl, xinc, xdep, xwgt, xwd, xex⟩ := ⟨_, rfl⟩
  rw [← hXI] at HXX HXZ
  rw [← hZI] at HXZ
  replace S2 : Sat G2 w6 [blk a5 (ItS.cs XI (.slice xA xt.length xc) (.slice xU xps.length xd)) 28, blk a7 (ItS.cs XI (.slice yA xt.length yc) (.slice yU xps.length yd)) 28, blk a9 (ItS.cs ZI (.slice xA xt.length xc) (.slice xU xps.length xd)) 28] := by
    rw [hXI, hZI]
    exact S2
  clear S12 hzn hzl2 HCB HLB hXI hZI
  as_aux_lemma =>
  refine wp_act fun a0 ha0 => ?_
  have HSZ : a0.tmps.size = 95 := by rw [ha0]; rfl
  have E5 : a0.eval (.tmp 5) = .pointer (some ⟨a5, 0, none⟩) := by rw [ha0]; rfl
  have E7 : a0.eval (.tmp 7) = .pointer (some ⟨a7, 0, none⟩) := by rw [ha0]; rfl
  have E9 : a0.eval (.tmp 9) = .pointer (some ⟨a9, 0, none⟩) := by rw [ha0]; rfl
  refine wp_region_J (by as_aux_lemma => kernel_rfl) 60 (by as_aux_lemma => kernel_rfl) [[], [], [0, 1], [2, 2], [3], [3], [4, 5, 3, 3], [3], [3], [7, 8, 6, 3], [6, 9, 3], [3, 10], [11, 9], [12], [12], [13, 14, 12, 12], [15, 12], [12, 16], [17, 15], [18], [18], [19, 20, 18, 18], [21, 18], [22, 21, 18], [23], [24, 23], [25, 23], [23], [27, 23], [28, 23], [26, 29, 23], [30, 23, 23], [31], [32, 31], [31], [34, 31], [33, 35, 31], [31, 36, 23], [37, 31, 23], [38], [39, 38], [38], [41, 38], [40, 42, 38], [38, 43, 23], [44, 38, 23], [45], [46, 45], [47, 45], [45], [49, 45], [50, 45], [48, 51, 45], [45, 52, 23], [23, 53, 18], [18, 54], [55, 45], [56, 56], [56, 57], [58, 57, 0, 1, 2, 3, 4, 5, 6, 7, 8, 9, 10, 11, 12, 13, 14, 15, 16, 17, 18, 19, 20, 21, 22, 23, 24, 25, 26, 27, 28, 29, 30, 31, 32, 33, 34, 35, 36, 37, 38, 39, 40, 41, 42, 43, 44, 45, 46, 47, 48, 49, 50, 51, 52, 53, 54, 55, 56, 57, 58]] (by as_aux_lemma => kernel_rfl) (by as_aux_lemma => kernel_rfl) (fun f a' W => a' = acts [(0, 36, .agg (ItS.cs XI (.slice xA xt.length xc) (.slice xU xps.length xd))), (1, 37, .agg (ItS.cs XI (.slice xA xt.length xc) (.slice xU xps.length xd))), (2, 38, .bool true), (3, 39, .bool true), (4, 40, .agg (ItS.cs XI (.slice xA xt.length xc) (.slice xU xps.length xd))), (5, 41, .agg (ItS.cs XI (.slice yA xt.length yc) (.slice yU xps.length yd))), (6, 42, .bool true), (7, 43, .agg (ItS.cs XI (.slice yA xt.length yc) (.slice yU xps.length yd))), (8, 44, .agg (ItS.cs XI (.slice xA xt.length xc) (.slice xU xps.length xd))), (9, 45, .bool true), (10, 46, .bool true), (11, 47, .bool true), (12, 48, .bool true), (13, 49, .agg (ItS.cs XI (.slice xA xt.length xc) (.slice xU xps.length xd))), (14, 50, .agg (ItS.cs ZI (.slice xA xt.length xc) (.slice xU xps.length xd))), (15, 51, .bool false), (16, 52, .bool true), (17, 53, .bool true), (18, 54, .bool true), (19, 55, .agg (ItS.cs XI (.slice xA xt.length xc) (.slice xU xps.length xd))), (20, 56, .agg (ItS.cs XI (.slice yA xt.length yc) (.slice yU xps.length yd))), (21, 57, .bool true), (22, 58, .bool false), (23, 59, .bool false), (24, 60, .pointer (some ⟨a5, 2, none⟩)), (25, 61, (.slice xA xt.length xc)), (26, 62, .string (bstr xt)), (27, 63, .pointer (some ⟨a7, 2, none⟩)), (28, 64, (.slice yA xt.length yc)), (29, 65, .string (bstr xt)), (30, 66, .bool true), (31, 67, .bool true), (32, 68, .pointer (some ⟨a5, 0, none⟩)), (33, 69, .int .i64 XI.k), (34, 70, .pointer (some ⟨a7, 0, none⟩)), (35, 71, .int .i64 XI.k), (36, 72, .bool true), (37, 73, .bool true), (38, 74, .bool true), (39, 75, .pointer (some ⟨a5, 1, none⟩)), (40, 76, .int .i64 XI.s), (41, 77, .pointer (some ⟨a7, 1, none⟩)), (42, 78, .int .i64 XI.s), (43, 79, .bool true), (44, 80, .bool true), (45, 81, .bool true), (46, 82, .pointer (some ⟨a5, 14, none⟩)), (47, 83, (.slice xU xps.length xd)), (48, 84, .int .i64 xps.length), (49, 85, .pointer (some ⟨a7, 14, none⟩)), (50, 86, (.slice yU xps.length yd)), (51, 87, .int .i64 xps.length), (52, 88, .bool true), (53, 89, .bool true), (54, 90, .bool true), (55, 91, .bool true), (56, 92, .bool true), (57, 93, .bool true), (58, 94, .bool true), (59, 4, .bool true)] f a0 ∧ ∃ G9, G2.le G9 ∧ Sat G9 W [blk a5 (ItS.cs XI (.slice xA xt.length xc) (.slice xU xps.length xd)) 28, blk a7 (ItS.cs XI (.slice yA xt.length yc) (.slice yU xps.length yd)) 28, blk a9 (ItS.cs ZI (.slice xA xt.length xc) (.slice xU xps.length xd)) 28]) ?_ ?_ ?_
  · exact ⟨rfl, _, Gnd.le.rfl', S2.drew⟩
  · refine ⟨?_, ?_, ?_, ?_, ?_, ?_, ?_, ?_, ?_, ?_, ?_, ?_, ?_, ?_, ?_, ?_, ?_, ?_, ?_, ?_, ?_, ?_, ?_, ?_, ?_, ?_, ?_, ?_, ?_, ?_, ?_, ?_, ?_, ?_, ?_, ?_, ?_, ?_, ?_, ?_, ?_, ?_, ?_, ?_, ?_, ?_, ?_, ?_, ?_, ?_, ?_, ?_, ?_, ?_, ?_, ?_, ?_, ?_, ?_, ?_, trivial⟩
    · rintro f a' W h0 hd ⟨rfl, G9, hG9, S⟩
      refine wpOp_list rfl ?_
      refine st_load rfl _ _ rfl _ ((acts_eval_tmp 5 (by as_aux_lemma => kernel_rfl)).trans E5) _ _ (S) _ rfl rfl rfl ?_
      exact ⟨(acts_some 0 rfl (by as_aux_lemma => kernel_rfl) (by as_aux_lemma => kernel_rfl)).symm, G9, hG9, S⟩
    · rintro f a' W h1 hd ⟨rfl, G9, hG9, S⟩
      refine wpOp_list rfl ?_
      refine st_load rfl _ _ rfl _ ((acts_eval_tmp 5 (by as_aux_lemma => kernel_rfl)).trans E5) _ _ (S) _ rfl rfl rfl ?_
      exact ⟨(acts_some 1 rfl (by as_aux_lemma => kernel_rfl) (by as_aux_lemma => kernel_rfl)).symm, G9, hG9, S⟩
    · rintro f a' W h2 hd ⟨rfl, G9, hG9, S⟩
      refine wpOp_call rfl rfl (fun ρ hρ => ?_) ((pl_equal S XI XI (.slice xA xt.length xc) (.slice xU xps.length xd) (.slice xA xt.length xc) (.slice xU xps.length xd) xt xt xps xps (HTx.out.mono hG9) (HPx.out.mono hG9) (HTx.out.mono hG9) (HPx.out.mono hG9))) ?_
      · skip
        have e0 : ρ (.tmp 36) = .agg (ItS.cs XI (.slice xA xt.length xc) (.slice xU xps.length xd)) := by rw [hρ]; exact acts_eval_hit 0 rfl hd.1 (by rw [HSZ]; rfl) (by as_aux_lemma => kernel_rfl)
        have e1 : ρ (.tmp 37) = .agg (ItS.cs XI (.slice xA xt.length xc) (.slice xU xps.length xd)) := by rw [hρ]; exact acts_eval_hit 1 rfl hd.2.1 (by rw [HSZ]; rfl) (by as_aux_lemma => kernel_rfl)
        have ef : ρ (.func 14) = .func (.func 14) #[] #[] := by rw [hρ]; rfl
        clear hρ
        go_simp
      · (rintro e W' ⟨rfl, S'⟩; rw [HXX.out]; exact ⟨_, rfl, acts_swap rfl (k := 2) rfl (by as_aux_lemma => kernel_rfl) (by as_aux_lemma => kernel_rfl), G9, hG9, S'⟩)
    · rintro f a' W h3 hd ⟨rfl, G9, hG9, S⟩
      refine wpOp_run (v := .bool true) rfl rfl (fun ρ hρ => ?_) ⟨(acts_some 3 rfl (by as_aux_lemma => kernel_rfl) (by as_aux_lemma => kernel_rfl)).symm, G9, hG9, S⟩
      have e0 : ρ (.tmp 38) = .bool true := by rw [hρ]; exact acts_eval_hit 2 rfl hd.1 (by rw [HSZ]; rfl) (by as_aux_lemma => kernel_rfl)
      clear hρ
      go_simp
    · rintro f a' W h4 hd ⟨rfl, G9, hG9, S⟩
      refine wpOp_rowG rfl (wanted_hit (t := 39) rfl rfl (acts_eval_hit 3 rfl hd.1 (by rw [HSZ]; rfl) (by as_aux_lemma => kernel_rfl))) _ _ rfl _ ((acts_eval_tmp 5 (by as_aux_lemma => kernel_rfl)).trans E5) _ _ (S) _ rfl rfl rfl ?_
      exact ⟨(acts_some 4 rfl (by as_aux_lemma => kernel_rfl) (by as_aux_lemma => kernel_rfl)).symm, G9, hG9, S⟩
    · rintro f a' W h5 hd ⟨rfl, G9, hG9, S⟩
      refine wpOp_rowG rfl (wanted_hit (t := 39) rfl rfl (acts_eval_hit 3 rfl hd.1 (by rw [HSZ]; rfl) (by as_aux_lemma => kernel_rfl))) _ _ rfl _ ((acts_eval_tmp 7 (by as_aux_lemma => kernel_rfl)).trans E7) _ _ (S.swap) _ rfl rfl rfl ?_
      exact ⟨(acts_some 5 rfl (by as_aux_lemma => kernel_rfl) (by as_aux_lemma => kernel_rfl)).symm, G9, hG9, S⟩
    · rintro f a' W h6 hd ⟨rfl, G9, hG9, S⟩
      refine wpOp_callG rfl (wanted_hit (t := 39) rfl rfl (acts_eval_hit 3 rfl hd.2.2.1 (by rw [HSZ]; rfl) (by as_aux_lemma => kernel_rfl))) (fun ρ hρ => ?_) ((pl_equal S XI XI (.slice xA xt.length xc) (.slice xU xps.length xd) (.slice yA xt.length yc) (.slice yU xps.length yd) xt xt xps xps (HTx.out.mono hG9) (HPx.out.mono hG9) (HTy.out.mono hG9) (HPy.out.mono hG9))) ?_
      · skip
        have e0 : ρ (.tmp 40) = .agg (ItS.cs XI (.slice xA xt.length xc) (.slice xU xps.length xd)) := by rw [hρ]; exact acts_eval_hit 4 rfl hd.1 (by rw [HSZ]; rfl) (by as_aux_lemma => kernel_rfl)
        have e1 : ρ (.tmp 41) = .agg (ItS.cs XI (.slice yA xt.length yc) (.slice yU xps.length yd)) := by rw [hρ]; exact acts_eval_hit 5 rfl hd.2.1 (by rw [HSZ]; rfl) (by as_aux_lemma => kernel_rfl)
        have ef : ρ (.func 14) = .func (.func 14) #[] #[] := by rw [hρ]; rfl
        clear hρ
        go_simp
      · (rintro e W' ⟨rfl, S'⟩; rw [HXX.out]; exact ⟨_, rfl, acts_swap rfl (k := 6) rfl (by as_aux_lemma => kernel_rfl) (by as_aux_lemma => kernel_rfl), G9, hG9, S'⟩)
    · rintro f a' W h7 hd ⟨rfl, G9, hG9, S⟩
      refine wpOp_rowG rfl (wanted_hit (t := 39) rfl rfl (acts_eval_hit 3 rfl hd.1 (by rw [HSZ]; rfl) (by as_aux_lemma => kernel_rfl))) _ _ rfl _ ((acts_eval_tmp 7 (by as_aux_lemma => kernel_rfl)).trans E7) _ _ (S.swap) _ rfl rfl rfl ?_
      exact ⟨(acts_some 7 rfl (by as_aux_lemma => kernel_rfl) (by as_aux_lemma => kernel_rfl)).symm, G9, hG9, S⟩
    · rintro f a' W h8 hd ⟨rfl, G9, hG9, S⟩
      refine wpOp_rowG rfl (wanted_hit (t := 39) rfl rfl (acts_eval_hit 3 rfl hd.1 (by rw [HSZ]; rfl) (by as_aux_lemma => kernel_rfl))) _ _ rfl _ ((acts_eval_tmp 5 (by as_aux_lemma => kernel_rfl)).trans E5) _ _ (S) _ rfl rfl rfl ?_
      exact ⟨(acts_some 8 rfl (by as_aux_lemma => kernel_rfl) (by as_aux_lemma => kernel_rfl)).symm, G9, hG9, S⟩
    · rintro f a' W h9 hd ⟨rfl, G9, hG9, S⟩
      refine wpOp_callG rfl (wanted_hit (t := 39) rfl rfl (acts_eval_hit 3 rfl hd.2.2.2.1 (by rw [HSZ]; rfl) (by as_aux_lemma => kernel_rfl))) (fun ρ hρ => ?_) ((pl_equal S XI XI (.slice yA xt.length yc) (.slice yU xps.length yd) (.slice xA xt.length xc) (.slice xU xps.length xd) xt xt xps xps (HTy.out.mono hG9) (HPy.out.mono hG9) (HTx.out.mono hG9) (HPx.out.mono hG9))) ?_
      · skip
        have e0 : ρ (.tmp 43) = .agg (ItS.cs XI (.slice yA xt.length yc) (.slice yU xps.length yd)) := by rw [hρ]; exact acts_eval_hit 7 rfl hd.1 (by rw [HSZ]; rfl) (by as_aux_lemma => kernel_rfl)
        have e1 : ρ (.tmp 44) = .agg (ItS.cs XI (.slice xA xt.length xc) (.slice xU xps.length xd)) := by rw [hρ]; exact acts_eval_hit 8 rfl hd.2.1 (by rw [HSZ]; rfl) (by as_aux_lemma => kernel_rfl)
        have ef : ρ (.func 14) = .func (.func 14) #[] #[] := by rw [hρ]; rfl
        clear hρ
        go_simp
      · (rintro e W' ⟨rfl, S'⟩; rw [HXX.out]; exact ⟨_, rfl, acts_swap rfl (k := 9) rfl (by as_aux_lemma => kernel_rfl) (by as_aux_lemma => kernel_rfl), G9, hG9, S'⟩)
    · rintro f a' W h10 hd ⟨rfl, G9, hG9, S⟩
      refine wpOp_runG (v := .bool true) rfl ?_ (fun ρ hρ => ?_) ⟨(acts_some 10 rfl (by as_aux_lemma => kernel_rfl) (by as_aux_lemma => kernel_rfl)).symm, G9, hG9, S⟩
      · exact wanted_hit (t := 39) rfl rfl (acts_eval_hit 3 rfl hd.2.2.1 (by rw [HSZ]; rfl) (by as_aux_lemma => kernel_rfl))
      · skip
        have e0 : ρ (.tmp 42) = .bool true := by rw [hρ]; exact acts_eval_hit 6 rfl hd.1 (by rw [HSZ]; rfl) (by as_aux_lemma => kernel_rfl)
        have e1 : ρ (.tmp 45) = .bool true := by rw [hρ]; exact acts_eval_hit 9 rfl hd.2.1 (by rw [HSZ]; rfl) (by as_aux_lemma => kernel_rfl)
        clear hρ
        go_simp
    · rintro f a' W h11 hd ⟨rfl, G9, hG9, S⟩
      refine wpOp_run (v := .bool true) rfl rfl (fun ρ hρ => ?_) ⟨(acts_some 11 rfl (by as_aux_lemma => kernel_rfl) (by as_aux_lemma => kernel_rfl)).symm, G9, hG9, S⟩
      have e0 : ρ (.tmp 39) = .bool true := by rw [hρ]; exact acts_eval_hit 3 rfl hd.1 (by rw [HSZ]; rfl) (by as_aux_lemma => kernel_rfl)
      have e1 : ρ (.tmp 46) = .bool true := by rw [hρ]; exact acts_eval_hit 10 rfl hd.2.1 (by rw [HSZ]; rfl) (by as_aux_lemma => kernel_rfl)
      have ec : ∀ v, ρ (.const v) = v := by rw [hρ]; exact fun _ => rfl
      clear hρ
      go_simp
    · rintro f a' W h12 hd ⟨rfl, G9, hG9, S⟩
      refine wpOp_run (v := .bool true) rfl rfl (fun ρ hρ => ?_) ⟨(acts_some 12 rfl (by as_aux_lemma => kernel_rfl) (by as_aux_lemma => kernel_rfl)).symm, G9, hG9, S⟩
      have e0 : ρ (.tmp 47) = .bool true := by rw [hρ]; exact acts_eval_hit 11 rfl hd.1 (by rw [HSZ]; rfl) (by as_aux_lemma => kernel_rfl)
      clear hρ
      go_simp
    · rintro f a' W h13 hd ⟨rfl, G9, hG9, S⟩
      refine wpOp_rowG rfl (wanted_hit (t := 48) rfl rfl (acts_eval_hit 12 rfl hd.1 (by rw [HSZ]; rfl) (by as_aux_lemma => kernel_rfl))) _ _ rfl _ ((acts_eval_tmp 5 (by as_aux_lemma => kernel_rfl)).trans E5) _ _ (S) _ rfl rfl rfl ?_
      exact ⟨(acts_some 13 rfl (by as_aux_lemma => kernel_rfl) (by as_aux_lemma => kernel_rfl)).symm, G9, hG9, S⟩
    · rintro f a' W h14 hd ⟨rfl, G9, hG9, S⟩
      refine wpOp_rowG rfl (wanted_hit (t := 48) rfl rfl (acts_eval_hit 12 rfl hd.1 (by rw [HSZ]; rfl) (by as_aux_lemma => kernel_rfl))) _ _ rfl _ ((acts_eval_tmp 9 (by as_aux_lemma => kernel_rfl)).trans E9) _ _ (S.pull2) _ rfl rfl rfl ?_
      exact ⟨(acts_some 14 rfl (by as_aux_lemma => kernel_rfl) (by as_aux_lemma => kernel_rfl)).symm, G9, hG9, S⟩
    · rintro f a' W h15 hd ⟨rfl, G9, hG9, S⟩
      refine wpOp_callG rfl (wanted_hit (t := 48) rfl rfl (acts_eval_hit 12 rfl hd.2.2.1 (by rw [HSZ]; rfl) (by as_aux_lemma => kernel_rfl))) (fun ρ hρ => ?_) ((pl_equal S XI ZI (.slice xA xt.length xc) (.slice xU xps.length xd) (.slice xA xt.length xc) (.slice xU xps.length xd) xt xt xps xps (HTx.out.mono hG9) (HPx.out.mono hG9) (HTx.out.mono hG9) (HPx.out.mono hG9))) ?_
      · skip
        have e0 : ρ (.tmp 49) = .agg (ItS.cs XI (.slice xA xt.length xc) (.slice xU xps.length xd)) := by rw [hρ]; exact acts_eval_hit 13 rfl hd.1 (by rw [HSZ]; rfl) (by as_aux_lemma => kernel_rfl)
        have e1 : ρ (.tmp 50) = .agg (ItS.cs ZI (.slice xA xt.length xc) (.slice xU xps.length xd)) := by rw [hρ]; exact acts_eval_hit 14 rfl hd.2.1 (by rw [HSZ]; rfl) (by as_aux_lemma => kernel_rfl)
        have ef : ρ (.func 14) = .func (.func 14) #[] #[] := by rw [hρ]; rfl
        clear hρ
        go_simp
      · (rintro e W' ⟨rfl, S'⟩; rw [HXZ.out]; exact ⟨_, rfl, acts_swap rfl (k := 15) rfl (by as_aux_lemma => kernel_rfl) (by as_aux_lemma => kernel_rfl), G9, hG9, S'⟩)
    · rintro f a' W h16 hd ⟨rfl, G9, hG9, S⟩
      refine wpOp_runG (v := .bool true) rfl ?_ (fun ρ hρ => ?_) ⟨(acts_some 16 rfl (by as_aux_lemma => kernel_rfl) (by as_aux_lemma => kernel_rfl)).symm, G9, hG9, S⟩
      · exact wanted_hit (t := 48) rfl rfl (acts_eval_hit 12 rfl hd.2.1 (by rw [HSZ]; rfl) (by as_aux_lemma => kernel_rfl))
      · skip
        have e0 : ρ (.tmp 51) = .bool false := by rw [hρ]; exact acts_eval_hit 15 rfl hd.1 (by rw [HSZ]; rfl) (by as_aux_lemma => kernel_rfl)
        clear hρ
        go_simp
    · rintro f a' W h17 hd ⟨rfl, G9, hG9, S⟩
      refine wpOp_run (v := .bool true) rfl rfl (fun ρ hρ => ?_) ⟨(acts_some 17 rfl (by as_aux_lemma => kernel_rfl) (by as_aux_lemma => kernel_rfl)).symm, G9, hG9, S⟩
      have e0 : ρ (.tmp 48) = .bool true := by rw [hρ]; exact acts_eval_hit 12 rfl hd.1 (by rw [HSZ]; rfl) (by as_aux_lemma => kernel_rfl)
      have e1 : ρ (.tmp 52) = .bool true := by rw [hρ]; exact acts_eval_hit 16 rfl hd.2.1 (by rw [HSZ]; rfl) (by as_aux_lemma => kernel_rfl)
      have ec : ∀ v, ρ (.const v) = v := by rw [hρ]; exact fun _ => rfl
      clear hρ
      go_simp
    · rintro f a' W h18 hd ⟨rfl, G9, hG9, S⟩
      refine wpOp_run (v := .bool true) rfl rfl (fun ρ hρ => ?_) ⟨(acts_some 18 rfl (by as_aux_lemma => kernel_rfl) (by as_aux_lemma => kernel_rfl)).symm, G9, hG9, S⟩
      have e0 : ρ (.tmp 53) = .bool true := by rw [hρ]; exact acts_eval_hit 17 rfl hd.1 (by rw [HSZ]; rfl) (by as_aux_lemma => kernel_rfl)
      clear hρ
      go_simp
    · rintro f a' W h19 hd ⟨rfl, G9, hG9, S⟩
      refine wpOp_rowG rfl (wanted_hit (t := 54) rfl rfl (acts_eval_hit 18 rfl hd.1 (by rw [HSZ]; rfl) (by as_aux_lemma => kernel_rfl))) _ _ rfl _ ((acts_eval_tmp 5 (by as_aux_lemma => kernel_rfl)).trans E5) _ _ (S) _ rfl rfl rfl ?_
      exact ⟨(acts_some 19 rfl (by as_aux_lemma => kernel_rfl) (by as_aux_lemma => kernel_rfl)).symm, G9, hG9, S⟩
    · rintro f a' W h20 hd ⟨rfl, G9, hG9, S⟩
      refine wpOp_rowG rfl (wanted_hit (t := 54) rfl rfl (acts_eval_hit 18 rfl hd.1 (by rw [HSZ]; rfl) (by as_aux_lemma => kernel_rfl))) _ _ rfl _ ((acts_eval_tmp 7 (by as_aux_lemma => kernel_rfl)).trans E7) _ _ (S.swap) _ rfl rfl rfl ?_
      exact ⟨(acts_some 20 rfl (by as_aux_lemma => kernel_rfl) (by as_aux_lemma => kernel_rfl)).symm, G9, hG9, S⟩
    · rintro f a' W h21 hd ⟨rfl, G9, hG9, S⟩
      refine wpOp_callG rfl (wanted_hit (t := 54) rfl rfl (acts_eval_hit 18 rfl hd.2.2.1 (by rw [HSZ]; rfl) (by as_aux_lemma => kernel_rfl))) (fun ρ hρ => ?_) ((pl_equal S XI XI (.slice xA xt.length xc) (.slice xU xps.length xd) (.slice yA xt.length yc) (.slice yU xps.length yd) xt xt xps xps (HTx.out.mono hG9) (HPx.out.mono hG9) (HTy.out.mono hG9) (HPy.out.mono hG9))) ?_
      · skip
        have e0 : ρ (.tmp 55) = .agg (ItS.cs XI (.slice xA xt.length xc) (.slice xU xps.length xd)) := by rw [hρ]; exact acts_eval_hit 19 rfl hd.1 (by rw [HSZ]; rfl) (by as_aux_lemma => kernel_rfl)
        have e1 : ρ (.tmp 56) = .agg (ItS.cs XI (.slice yA xt.length yc) (.slice yU xps.length yd)) := by rw [hρ]; exact acts_eval_hit 20 rfl hd.2.1 (by rw [HSZ]; rfl) (by as_aux_lemma => kernel_rfl)
        have ef : ρ (.func 14) = .func (.func 14) #[] #[] := by rw [hρ]; rfl
        clear hρ
        go_simp
      · (rintro e W' ⟨rfl, S'⟩; rw [HXX.out]; exact ⟨_, rfl, acts_swap rfl (k := 21) rfl (by as_aux_lemma => kernel_rfl) (by as_aux_lemma => kernel_rfl), G9, hG9, S'⟩)
    · rintro f a' W h22 hd ⟨rfl, G9, hG9, S⟩
      refine wpOp_runG (v := .bool false) rfl ?_ (fun ρ hρ => ?_) ⟨(acts_some 22 rfl (by as_aux_lemma => kernel_rfl) (by as_aux_lemma => kernel_rfl)).symm, G9, hG9, S⟩
      · exact wanted_hit (t := 54) rfl rfl (acts_eval_hit 18 rfl hd.2.1 (by rw [HSZ]; rfl) (by as_aux_lemma => kernel_rfl))
      · skip
        have e0 : ρ (.tmp 57) = .bool true := by rw [hρ]; exact acts_eval_hit 21 rfl hd.1 (by rw [HSZ]; rfl) (by as_aux_lemma => kernel_rfl)
        clear hρ
        go_simp
    · rintro f a' W h23 hd ⟨rfl, G9, hG9, S⟩
      refine wpOp_runG (v := .bool false) rfl ?_ (fun ρ hρ => ?_) ⟨(acts_some 23 rfl (by as_aux_lemma => kernel_rfl) (by as_aux_lemma => kernel_rfl)).symm, G9, hG9, S⟩
      · exact wanted_hit (t := 54) rfl rfl (acts_eval_hit 18 rfl hd.2.2.1 (by rw [HSZ]; rfl) (by as_aux_lemma => kernel_rfl))
      · skip
        have e0 : ρ (.tmp 58) = .bool false := by rw [hρ]; exact acts_eval_hit 22 rfl hd.1 (by rw [HSZ]; rfl) (by as_aux_lemma => kernel_rfl)
        clear hρ
        go_simp
    · rintro f a' W h24 hd ⟨rfl, G9, hG9, S⟩
      refine wpOp_runG (v := .pointer (some ⟨a5, 2, none⟩)) rfl ?_ (fun ρ hρ => ?_) ⟨(acts_some 24 rfl (by as_aux_lemma => kernel_rfl) (by as_aux_lemma => kernel_rfl)).symm, G9, hG9, S⟩
      · exact wanted_hit (t := 59) rfl rfl (acts_eval_hit 23 rfl hd.1 (by rw [HSZ]; rfl) (by as_aux_lemma => kernel_rfl))
      · skip
        have e0 : ρ (.tmp 5) = .pointer (some ⟨a5, 0, none⟩) := by rw [hρ]; exact (acts_eval_tmp 5 (by as_aux_lemma => kernel_rfl)).trans E5
        clear hρ
        go_simp
    · rintro f a' W h25 hd ⟨rfl, G9, hG9, S⟩
      refine wpOp_runG (v := (.slice xA xt.length xc)) rfl ?_ (fun ρ hρ => ?_) ⟨(acts_some 25 rfl (by as_aux_lemma => kernel_rfl) (by as_aux_lemma => kernel_rfl)).symm, G9, hG9, S⟩
      · exact wanted_hit (t := 59) rfl rfl (acts_eval_hit 23 rfl hd.2.1 (by rw [HSZ]; rfl) (by as_aux_lemma => kernel_rfl))
      · skip
        have e0 : ρ (.tmp 60) = .pointer (some ⟨a5, 2, none⟩) := by rw [hρ]; exact acts_eval_hit 24 rfl hd.1 (by rw [HSZ]; rfl) (by as_aux_lemma => kernel_rfl)
        clear hρ
        (have z : W.cell? ⟨a5, 2, none⟩ = some ((.slice xA xt.length xc)) := S.cell 2)
        go_simp
    · rintro f a' W h26 hd ⟨rfl, G9, hG9, S⟩
      refine wpOp_runG (v := .string (bstr xt)) rfl ?_ (fun ρ hρ => ?_) ⟨(acts_some 26 rfl (by as_aux_lemma => kernel_rfl) (by as_aux_lemma => kernel_rfl)).symm, G9, hG9, S⟩
      · exact wanted_hit (t := 59) rfl rfl (acts_eval_hit 23 rfl hd.2.1 (by rw [HSZ]; rfl) (by as_aux_lemma => kernel_rfl))
      · skip
        have e0 : ρ (.tmp 61) = (.slice xA xt.length xc) := by rw [hρ]; exact acts_eval_hit 25 rfl hd.1 (by rw [HSZ]; rfl) (by as_aux_lemma => kernel_rfl)
        clear hρ
        (have cv := conv_bytes _ xt _ (((HTx.out.mono hG9).sat S).1))
        go_simp
    · rintro f a' W h27 hd ⟨rfl, G9, hG9, S⟩
      refine wpOp_runG (v := .pointer (some ⟨a7, 2, none⟩)) rfl ?_ (fun ρ hρ => ?_) ⟨(acts_some 27 rfl (by as_aux_lemma => kernel_rfl) (by as_aux_lemma => kernel_rfl)).symm, G9, hG9, S⟩
      · exact wanted_hit (t := 59) rfl rfl (acts_eval_hit 23 rfl hd.1 (by rw [HSZ]; rfl) (by as_aux_lemma => kernel_rfl))
      · skip
        have e0 : ρ (.tmp 7) = .pointer (some ⟨a7, 0, none⟩) := by rw [hρ]; exact (acts_eval_tmp 7 (by as_aux_lemma => kernel_rfl)).trans E7
        clear hρ
        go_simp
    · rintro f a' W h28 hd ⟨rfl, G9, hG9, S⟩
      refine wpOp_runG (v := (.slice yA xt.length yc)) rfl ?_ (fun ρ hρ => ?_) ⟨(acts_some 28 rfl (by as_aux_lemma => kernel_rfl) (by as_aux_lemma => kernel_rfl)).symm, G9, hG9, S⟩
      · exact wanted_hit (t := 59) rfl rfl (acts_eval_hit 23 rfl hd.2.1 (by rw [HSZ]; rfl) (by as_aux_lemma => kernel_rfl))
      · skip
        have e0 : ρ (.tmp 63) = .pointer (some ⟨a7, 2, none⟩) := by rw [hρ]; exact acts_eval_hit 27 rfl hd.1 (by rw [HSZ]; rfl) (by as_aux_lemma => kernel_rfl)
        clear hρ
        (have z : W.cell? ⟨a7, 2, none⟩ = some ((.slice yA xt.length yc)) := S.swap.cell 2)
        go_simp
    · rintro f a' W h29 hd ⟨rfl, G9, hG9, S⟩
      refine wpOp_runG (v := .string (bstr xt)) rfl ?_ (fun ρ hρ => ?_) ⟨(acts_some 29 rfl (by as_aux_lemma => kernel_rfl) (by as_aux_lemma => kernel_rfl)).symm, G9, hG9, S⟩
      · exact wanted_hit (t := 59) rfl rfl (acts_eval_hit 23 rfl hd.2.1 (by rw [HSZ]; rfl) (by as_aux_lemma => kernel_rfl))
      · skip
        have e0 : ρ (.tmp 64) = (.slice yA xt.length yc) := by rw [hρ]; exact acts_eval_hit 28 rfl hd.1 (by rw [HSZ]; rfl) (by as_aux_lemma => kernel_rfl)
        clear hρ
        (have cv := conv_bytes _ xt _ (((HTy.out.mono hG9).sat S).1))
        go_simp
    · rintro f a' W h30 hd ⟨rfl, G9, hG9, S⟩
      refine wpOp_runG (v := .bool true) rfl ?_ (fun ρ hρ => ?_) ⟨(acts_some 30 rfl (by as_aux_lemma => kernel_rfl) (by as_aux_lemma => kernel_rfl)).symm, G9, hG9, S⟩
      · exact wanted_hit (t := 59) rfl rfl (acts_eval_hit 23 rfl hd.2.2.1 (by rw [HSZ]; rfl) (by as_aux_lemma => kernel_rfl))
      · skip
        have e0 : ρ (.tmp 62) = .string (bstr xt) := by rw [hρ]; exact acts_eval_hit 26 rfl hd.1 (by rw [HSZ]; rfl) (by as_aux_lemma => kernel_rfl)
        have e1 : ρ (.tmp 65) = .string (bstr xt) := by rw [hρ]; exact acts_eval_hit 29 rfl hd.2.1 (by rw [HSZ]; rfl) (by as_aux_lemma => kernel_rfl)
        clear hρ
        go_simp
    · rintro f a' W h31 hd ⟨rfl, G9, hG9, S⟩
      refine wpOp_runG (v := .bool true) rfl ?_ (fun ρ hρ => ?_) ⟨(acts_some 31 rfl (by as_aux_lemma => kernel_rfl) (by as_aux_lemma => kernel_rfl)).symm, G9, hG9, S⟩
      · exact wanted_hit (t := 59) rfl rfl (acts_eval_hit 23 rfl hd.2.1 (by rw [HSZ]; rfl) (by as_aux_lemma => kernel_rfl))
      · skip
        have e0 : ρ (.tmp 66) = .bool true := by rw [hρ]; exact acts_eval_hit 30 rfl hd.1 (by rw [HSZ]; rfl) (by as_aux_lemma => kernel_rfl)
        clear hρ
        go_simp
    · rintro f a' W h32 hd ⟨rfl, G9, hG9, S⟩
      refine wpOp_runG (v := .pointer (some ⟨a5, 0, none⟩)) rfl ?_ (fun ρ hρ => ?_) ⟨(acts_some 32 rfl (by as_aux_lemma => kernel_rfl) (by as_aux_lemma => kernel_rfl)).symm, G9, hG9, S⟩
      · exact wanted_hit (t := 67) rfl rfl (acts_eval_hit 31 rfl hd.1 (by rw [HSZ]; rfl) (by as_aux_lemma => kernel_rfl))
      · skip
        have e0 : ρ (.tmp 5) = .pointer (some ⟨a5, 0, none⟩) := by rw [hρ]; exact (acts_eval_tmp 5 (by as_aux_lemma => kernel_rfl)).trans E5
        clear hρ
        go_simp
    · rintro f a' W h33 hd ⟨rfl, G9, hG9, S⟩
      refine wpOp_runG (v := .int .i64 XI.k) rfl ?_ (fun ρ hρ => ?_) ⟨(acts_some 33 rfl (by as_aux_lemma => kernel_rfl) (by as_aux_lemma => kernel_rfl)).symm, G9, hG9, S⟩
      · exact wanted_hit (t := 67) rfl rfl (acts_eval_hit 31 rfl hd.2.1 (by rw [HSZ]; rfl) (by as_aux_lemma => kernel_rfl))
      · skip
        have e0 : ρ (.tmp 68) = .pointer (some ⟨a5, 0, none⟩) := by rw [hρ]; exact acts_eval_hit 32 rfl hd.1 (by rw [HSZ]; rfl) (by as_aux_lemma => kernel_rfl)
        clear hρ
        (have z : W.cell? ⟨a5, 0, none⟩ = some (.int .i64 XI.k) := S.cell 0)
        go_simp
    · rintro f a' W h34 hd ⟨rfl, G9, hG9, S⟩
      refine wpOp_runG (v := .pointer (some ⟨a7, 0, none⟩)) rfl ?_ (fun ρ hρ => ?_) ⟨(acts_some 34 rfl (by as_aux_lemma => kernel_rfl) (by as_aux_lemma => kernel_rfl)).symm, G9, hG9, S⟩
      · exact wanted_hit (t := 67) rfl rfl (acts_eval_hit 31 rfl hd.1 (by rw [HSZ]; rfl) (by as_aux_lemma => kernel_rfl))
      · skip
        have e0 : ρ (.tmp 7) = .pointer (some ⟨a7, 0, none⟩) := by rw [hρ]; exact (acts_eval_tmp 7 (by as_aux_lemma => kernel_rfl)).trans E7
        clear hρ
        go_simp
    · rintro f a' W h35 hd ⟨rfl, G9, hG9, S⟩
      refine wpOp_runG (v := .int .i64 XI.k) rfl ?_ (fun ρ hρ => ?_) ⟨(acts_some 35 rfl (by as_aux_lemma => kernel_rfl) (by as_aux_lemma => kernel_rfl)).symm, G9, hG9, S⟩
      · exact wanted_hit (t := 67) rfl rfl (acts_eval_hit 31 rfl hd.2.1 (by rw [HSZ]; rfl) (by as_aux_lemma => kernel_rfl))
      · skip
        have e0 : ρ (.tmp 70) = .pointer (some ⟨a7, 0, none⟩) := by rw [hρ]; exact acts_eval_hit 34 rfl hd.1 (by rw [HSZ]; rfl) (by as_aux_lemma => kernel_rfl)
        clear hρ
        (have z : W.cell? ⟨a7, 0, none⟩ = some (.int .i64 XI.k) := S.swap.cell 0)
        go_simp
    · rintro f a' W h36 hd ⟨rfl, G9, hG9, S⟩
      refine wpOp_runG (v := .bool true) rfl ?_ (fun ρ hρ => ?_) ⟨(acts_some 36 rfl (by as_aux_lemma => kernel_rfl) (by as_aux_lemma => kernel_rfl)).symm, G9, hG9, S⟩
      · exact wanted_hit (t := 67) rfl rfl (acts_eval_hit 31 rfl hd.2.2.1 (by rw [HSZ]; rfl) (by as_aux_lemma => kernel_rfl))
      · skip
        have e0 : ρ (.tmp 69) = .int .i64 XI.k := by rw [hρ]; exact acts_eval_hit 33 rfl hd.1 (by rw [HSZ]; rfl) (by as_aux_lemma => kernel_rfl)
        have e1 : ρ (.tmp 71) = .int .i64 XI.k := by rw [hρ]; exact acts_eval_hit 35 rfl hd.2.1 (by rw [HSZ]; rfl) (by as_aux_lemma => kernel_rfl)
        clear hρ
        go_simp
    · rintro f a' W h37 hd ⟨rfl, G9, hG9, S⟩
      refine wpOp_runG (v := .bool true) rfl ?_ (fun ρ hρ => ?_) ⟨(acts_some 37 rfl (by as_aux_lemma => kernel_rfl) (by as_aux_lemma => kernel_rfl)).symm, G9, hG9, S⟩
      · exact wanted_hit (t := 59) rfl rfl (acts_eval_hit 23 rfl hd.2.2.1 (by rw [HSZ]; rfl) (by as_aux_lemma => kernel_rfl))
      · skip
        have e0 : ρ (.tmp 67) = .bool true := by rw [hρ]; exact acts_eval_hit 31 rfl hd.1 (by rw [HSZ]; rfl) (by as_aux_lemma => kernel_rfl)
        have e1 : ρ (.tmp 72) = .bool true := by rw [hρ]; exact acts_eval_hit 36 rfl hd.2.1 (by rw [HSZ]; rfl) (by as_aux_lemma => kernel_rfl)
        have ec : ∀ v, ρ (.const v) = v := by rw [hρ]; exact fun _ => rfl
        clear hρ
        go_simp
    · rintro f a' W h38 hd ⟨rfl, G9, hG9, S⟩
      refine wpOp_runG (v := .bool true) rfl ?_ (fun ρ hρ => ?_) ⟨(acts_some 38 rfl (by as_aux_lemma => kernel_rfl) (by as_aux_lemma => kernel_rfl)).symm, G9, hG9, S⟩
      · exact wanted_hit (t := 59) rfl rfl (acts_eval_hit 23 rfl hd.2.2.1 (by rw [HSZ]; rfl) (by as_aux_lemma => kernel_rfl))
      · skip
        have e0 : ρ (.tmp 73) = .bool true := by rw [hρ]; exact acts_eval_hit 37 rfl hd.1 (by rw [HSZ]; rfl) (by as_aux_lemma => kernel_rfl)
        clear hρ
        go_simp
    · rintro f a' W h39 hd ⟨rfl, G9, hG9, S⟩
      refine wpOp_runG (v := .pointer (some ⟨a5, 1, none⟩)) rfl ?_ (fun ρ hρ => ?_) ⟨(acts_some 39 rfl (by as_aux_lemma => kernel_rfl) (by as_aux_lemma => kernel_rfl)).symm, G9, hG9, S⟩
      · exact wanted_hit (t := 74) rfl rfl (acts_eval_hit 38 rfl hd.1 (by rw [HSZ]; rfl) (by as_aux_lemma => kernel_rfl))
      · skip
        have e0 : ρ (.tmp 5) = .pointer (some ⟨a5, 0, none⟩) := by rw [hρ]; exact (acts_eval_tmp 5 (by as_aux_lemma => kernel_rfl)).trans E5
        clear hρ
        go_simp
    · rintro f a' W h40 hd ⟨rfl, G9, hG9, S⟩
      refine wpOp_runG (v := .int .i64 XI.s) rfl ?_ (fun ρ hρ => ?_) ⟨(acts_some 40 rfl (by as_aux_lemma => kernel_rfl) (by as_aux_lemma => kernel_rfl)).symm, G9, hG9, S⟩
      · exact wanted_hit (t := 74) rfl rfl (acts_eval_hit 38 rfl hd.2.1 (by rw [HSZ]; rfl) (by as_aux_lemma => kernel_rfl))
      · skip
        have e0 : ρ (.tmp 75) = .pointer (some ⟨a5, 1, none⟩) := by rw [hρ]; exact acts_eval_hit 39 rfl hd.1 (by rw [HSZ]; rfl) (by as_aux_lemma => kernel_rfl)
        clear hρ
        (have z : W.cell? ⟨a5, 1, none⟩ = some (.int .i64 XI.s) := S.cell 1)
        go_simp
    · rintro f a' W h41 hd ⟨rfl, G9, hG9, S⟩
      refine wpOp_runG (v := .pointer (some ⟨a7, 1, none⟩)) rfl ?_ (fun ρ hρ => ?_) ⟨(acts_some 41 rfl (by as_aux_lemma => kernel_rfl) (by as_aux_lemma => kernel_rfl)).symm, G9, hG9, S⟩
      · exact wanted_hit (t := 74) rfl rfl (acts_eval_hit 38 rfl hd.1 (by rw [HSZ]; rfl) (by as_aux_lemma => kernel_rfl))
      · skip
        have e0 : ρ (.tmp 7) = .pointer (some ⟨a7, 0, none⟩) := by rw [hρ]; exact (acts_eval_tmp 7 (by as_aux_lemma => kernel_rfl)).trans E7
        clear hρ
        go_simp
    · rintro f a' W h42 hd ⟨rfl, G9, hG9, S⟩
      refine wpOp_runG (v := .int .i64 XI.s) rfl ?_ (fun ρ hρ => ?_) ⟨(acts_some 42 rfl (by as_aux_lemma => kernel_rfl) (by as_aux_lemma => kernel_rfl)).symm, G9, hG9, S⟩
      · exact wanted_hit (t := 74) rfl rfl (acts_eval_hit 38 rfl hd.2.1 (by rw [HSZ]; rfl) (by as_aux_lemma => kernel_rfl))
      · skip
        have e0 : ρ (.tmp 77) = .pointer (some ⟨a7, 1, none⟩) := by rw [hρ]; exact acts_eval_hit 41 rfl hd.1 (by rw [HSZ]; rfl) (by as_aux_lemma => kernel_rfl)
        clear hρ
        (have z : W.cell? ⟨a7, 1, none⟩ = some (.int .i64 XI.s) := S.swap.cell 1)
        go_simp
    · rintro f a' W h43 hd ⟨rfl, G9, hG9, S⟩
      refine wpOp_runG (v := .bool true) rfl ?_ (fun ρ hρ => ?_) ⟨(acts_some 43 rfl (by as_aux_lemma => kernel_rfl) (by as_aux_lemma => kernel_rfl)).symm, G9, hG9, S⟩
      · exact wanted_hit (t := 74) rfl rfl (acts_eval_hit 38 rfl hd.2.2.1 (by rw [HSZ]; rfl) (by as_aux_lemma => kernel_rfl))
      · skip
        have e0 : ρ (.tmp 76) = .int .i64 XI.s := by rw [hρ]; exact acts_eval_hit 40 rfl hd.1 (by rw [HSZ]; rfl) (by as_aux_lemma => kernel_rfl)
        have e1 : ρ (.tmp 78) = .int .i64 XI.s := by rw [hρ]; exact acts_eval_hit 42 rfl hd.2.1 (by rw [HSZ]; rfl) (by as_aux_lemma => kernel_rfl)
        clear hρ
        go_simp
    · rintro f a' W h44 hd ⟨rfl, G9, hG9, S⟩
      refine wpOp_runG (v := .bool true) rfl ?_ (fun ρ hρ => ?_) ⟨(acts_some 44 rfl (by as_aux_lemma => kernel_rfl) (by as_aux_lemma => kernel_rfl)).symm, G9, hG9, S⟩
      · exact wanted_hit (t := 59) rfl rfl (acts_eval_hit 23 rfl hd.2.2.1 (by rw [HSZ]; rfl) (by as_aux_lemma => kernel_rfl))
      · skip
        have e0 : ρ (.tmp 74) = .bool true := by rw [hρ]; exact acts_eval_hit 38 rfl hd.1 (by rw [HSZ]; rfl) (by as_aux_lemma => kernel_rfl)
        have e1 : ρ (.tmp 79) = .bool true := by rw [hρ]; exact acts_eval_hit 43 rfl hd.2.1 (by rw [HSZ]; rfl) (by as_aux_lemma => kernel_rfl)
        have ec : ∀ v, ρ (.const v) = v := by rw [hρ]; exact fun _ => rfl
        clear hρ
        go_simp
    · rintro f a' W h45 hd ⟨rfl, G9, hG9, S⟩
      refine wpOp_runG (v := .bool true) rfl ?_ (fun ρ hρ => ?_) ⟨(acts_some 45 rfl (by as_aux_lemma => kernel_rfl) (by as_aux_lemma => kernel_rfl)).symm, G9, hG9, S⟩
      · exact wanted_hit (t := 59) rfl rfl (acts_eval_hit 23 rfl hd.2.2.1 (by rw [HSZ]; rfl) (by as_aux_lemma => kernel_rfl))
      · skip
        have e0 : ρ (.tmp 80) = .bool true := by rw [hρ]; exact acts_eval_hit 44 rfl hd.1 (by rw [HSZ]; rfl) (by as_aux_lemma => kernel_rfl)
        clear hρ
        go_simp
    · rintro f a' W h46 hd ⟨rfl, G9, hG9, S⟩
      refine wpOp_runG (v := .pointer (some ⟨a5, 14, none⟩)) rfl ?_ (fun ρ hρ => ?_) ⟨(acts_some 46 rfl (by as_aux_lemma => kernel_rfl) (by as_aux_lemma => kernel_rfl)).symm, G9, hG9, S⟩
      · exact wanted_hit (t := 81) rfl rfl (acts_eval_hit 45 rfl hd.1 (by rw [HSZ]; rfl) (by as_aux_lemma => kernel_rfl))
      · skip
        have e0 : ρ (.tmp 5) = .pointer (some ⟨a5, 0, none⟩) := by rw [hρ]; exact (acts_eval_tmp 5 (by as_aux_lemma => kernel_rfl)).trans E5
        clear hρ
        go_simp
    · rintro f a' W h47 hd ⟨rfl, G9, hG9, S⟩
      refine wpOp_runG (v := (.slice xU xps.length xd)) rfl ?_ (fun ρ hρ => ?_) ⟨(acts_some 47 rfl (by as_aux_lemma => kernel_rfl) (by as_aux_lemma => kernel_rfl)).symm, G9, hG9, S⟩
      · exact wanted_hit (t := 81) rfl rfl (acts_eval_hit 45 rfl hd.2.1 (by rw [HSZ]; rfl) (by as_aux_lemma => kernel_rfl))
      · skip
        have e0 : ρ (.tmp 82) = .pointer (some ⟨a5, 14, none⟩) := by rw [hρ]; exact acts_eval_hit 46 rfl hd.1 (by rw [HSZ]; rfl) (by as_aux_lemma => kernel_rfl)
        clear hρ
        (have z : W.cell? ⟨a5, 14, none⟩ = some ((.slice xU xps.length xd)) := S.cell 14)
        go_simp
    · rintro f a' W h48 hd ⟨rfl, G9, hG9, S⟩
      refine wpOp_runG (v := .int .i64 xps.length) rfl ?_ (fun ρ hρ => ?_) ⟨(acts_some 48 rfl (by as_aux_lemma => kernel_rfl) (by as_aux_lemma => kernel_rfl)).symm, G9, hG9, S⟩
      · exact wanted_hit (t := 81) rfl rfl (acts_eval_hit 45 rfl hd.2.1 (by rw [HSZ]; rfl) (by as_aux_lemma => kernel_rfl))
      · skip
        have e0 : ρ (.tmp 83) = (.slice xU xps.length xd) := by rw [hρ]; exact acts_eval_hit 47 rfl hd.1 (by rw [HSZ]; rfl) (by as_aux_lemma => kernel_rfl)
        clear hρ
        go_simp
    · rintro f a' W h49 hd ⟨rfl, G9, hG9, S⟩
      refine wpOp_runG (v := .pointer (some ⟨a7, 14, none⟩)) rfl ?_ (fun ρ hρ => ?_) ⟨(acts_some 49 rfl (by as_aux_lemma => kernel_rfl) (by as_aux_lemma => kernel_rfl)).symm, G9, hG9, S⟩
      · exact wanted_hit (t := 81) rfl rfl (acts_eval_hit 45 rfl hd.1 (by rw [HSZ]; rfl) (by as_aux_lemma => kernel_rfl))
      · skip
        have e0 : ρ (.tmp 7) = .pointer (some ⟨a7, 0, none⟩) := by rw [hρ]; exact (acts_eval_tmp 7 (by as_aux_lemma => kernel_rfl)).trans E7
        clear hρ
        go_simp
    · rintro f a' W h50 hd ⟨rfl, G9, hG9, S⟩
      refine wpOp_runG (v := (.slice yU xps.length yd)) rfl ?_ (fun ρ hρ => ?_) ⟨(acts_some 50 rfl (by as_aux_lemma => kernel_rfl) (by as_aux_lemma => kernel_rfl)).symm, G9, hG9, S⟩
      · exact wanted_hit (t := 81) rfl rfl (acts_eval_hit 45 rfl hd.2.1 (by rw [HSZ]; rfl) (by as_aux_lemma => kernel_rfl))
      · skip
        have e0 : ρ (.tmp 85) = .pointer (some ⟨a7, 14, none⟩) := by rw [hρ]; exact acts_eval_hit 49 rfl hd.1 (by rw [HSZ]; rfl) (by as_aux_lemma => kernel_rfl)
        clear hρ
        (have z : W.cell? ⟨a7, 14, none⟩ = some ((.slice yU xps.length yd)) := S.swap.cell 14)
        go_simp
    · rintro f a' W h51 hd ⟨rfl, G9, hG9, S⟩
      refine wpOp_runG (v := .int .i64 xps.length) rfl ?_ (fun ρ hρ => ?_) ⟨(acts_some 51 rfl (by as_aux_lemma => kernel_rfl) (by as_aux_lemma => kernel_rfl)).symm, G9, hG9, S⟩
      · exact wanted_hit (t := 81) rfl rfl (acts_eval_hit 45 rfl hd.2.1 (by rw [HSZ]; rfl) (by as_aux_lemma => kernel_rfl))
      · skip
        have e0 : ρ (.tmp 86) = (.slice yU xps.length yd) := by rw [hρ]; exact acts_eval_hit 50 rfl hd.1 (by rw [HSZ]; rfl) (by as_aux_lemma => kernel_rfl)
        clear hρ
        go_simp
    · rintro f a' W h52 hd ⟨rfl, G9, hG9, S⟩
      refine wpOp_runG (v := .bool true) rfl ?_ (fun ρ hρ => ?_) ⟨(acts_some 52 rfl (by as_aux_lemma => kernel_rfl) (by as_aux_lemma => kernel_rfl)).symm, G9, hG9, S⟩
      · exact wanted_hit (t := 81) rfl rfl (acts_eval_hit 45 rfl hd.2.2.1 (by rw [HSZ]; rfl) (by as_aux_lemma => kernel_rfl))
      · skip
        have e0 : ρ (.tmp 84) = .int .i64 xps.length := by rw [hρ]; exact acts_eval_hit 48 rfl hd.1 (by rw [HSZ]; rfl) (by as_aux_lemma => kernel_rfl)
        have e1 : ρ (.tmp 87) = .int .i64 xps.length := by rw [hρ]; exact acts_eval_hit 51 rfl hd.2.1 (by rw [HSZ]; rfl) (by as_aux_lemma => kernel_rfl)
        clear hρ
        go_simp
    · rintro f a' W h53 hd ⟨rfl, G9, hG9, S⟩
      refine wpOp_runG (v := .bool true) rfl ?_ (fun ρ hρ => ?_) ⟨(acts_some 53 rfl (by as_aux_lemma => kernel_rfl) (by as_aux_lemma => kernel_rfl)).symm, G9, hG9, S⟩
      · exact wanted_hit (t := 59) rfl rfl (acts_eval_hit 23 rfl hd.2.2.1 (by rw [HSZ]; rfl) (by as_aux_lemma => kernel_rfl))
      · skip
        have e0 : ρ (.tmp 81) = .bool true := by rw [hρ]; exact acts_eval_hit 45 rfl hd.1 (by rw [HSZ]; rfl) (by as_aux_lemma => kernel_rfl)
        have e1 : ρ (.tmp 88) = .bool true := by rw [hρ]; exact acts_eval_hit 52 rfl hd.2.1 (by rw [HSZ]; rfl) (by as_aux_lemma => kernel_rfl)
        have ec : ∀ v, ρ (.const v) = v := by rw [hρ]; exact fun _ => rfl
        clear hρ
        go_simp
    · rintro f a' W h54 hd ⟨rfl, G9, hG9, S⟩
      refine wpOp_runG (v := .bool true) rfl ?_ (fun ρ hρ => ?_) ⟨(acts_some 54 rfl (by as_aux_lemma => kernel_rfl) (by as_aux_lemma => kernel_rfl)).symm, G9, hG9, S⟩
      · exact wanted_hit (t := 54) rfl rfl (acts_eval_hit 18 rfl hd.2.2.1 (by rw [HSZ]; rfl) (by as_aux_lemma => kernel_rfl))
      · skip
        have e0 : ρ (.tmp 59) = .bool false := by rw [hρ]; exact acts_eval_hit 23 rfl hd.1 (by rw [HSZ]; rfl) (by as_aux_lemma => kernel_rfl)
        have e1 : ρ (.tmp 89) = .bool true := by rw [hρ]; exact acts_eval_hit 53 rfl hd.2.1 (by rw [HSZ]; rfl) (by as_aux_lemma => kernel_rfl)
        have ec : ∀ v, ρ (.const v) = v := by rw [hρ]; exact fun _ => rfl
        clear hρ
        go_simp
    · rintro f a' W h55 hd ⟨rfl, G9, hG9, S⟩
      refine wpOp_run (v := .bool true) rfl rfl (fun ρ hρ => ?_) ⟨(acts_some 55 rfl (by as_aux_lemma => kernel_rfl) (by as_aux_lemma => kernel_rfl)).symm, G9, hG9, S⟩
      have e0 : ρ (.tmp 54) = .bool true := by rw [hρ]; exact acts_eval_hit 18 rfl hd.1 (by rw [HSZ]; rfl) (by as_aux_lemma => kernel_rfl)
      have e1 : ρ (.tmp 90) = .bool true := by rw [hρ]; exact acts_eval_hit 54 rfl hd.2.1 (by rw [HSZ]; rfl) (by as_aux_lemma => kernel_rfl)
      have ec : ∀ v, ρ (.const v) = v := by rw [hρ]; exact fun _ => rfl
      clear hρ
      go_simp
    · rintro f a' W h56 hd ⟨rfl, G9, hG9, S⟩
      refine wpOp_run (v := .bool true) rfl rfl (fun ρ hρ => ?_) ⟨(acts_some 56 rfl (by as_aux_lemma => kernel_rfl) (by as_aux_lemma => kernel_rfl)).symm, G9, hG9, S⟩
      have e0 : ρ (.tmp 91) = .bool true := by rw [hρ]; exact acts_eval_hit 55 rfl hd.1 (by rw [HSZ]; rfl) (by as_aux_lemma => kernel_rfl)
      clear hρ
      go_simp
    · rintro f a' W h57 hd ⟨rfl, G9, hG9, S⟩
      refine wpOp_callG rfl (wanted_hit (t := 92) rfl rfl (acts_eval_hit 56 rfl hd.1 (by rw [HSZ]; rfl) (by as_aux_lemma => kernel_rfl))) (fun ρ hρ => ?_) (law_awake S) ?_
      · skip
        have ef : ρ (.func 8) = .func (.func 8) #[] #[] := by rw [hρ]; rfl
        clear hρ
        go_simp
      · (rintro e W' ⟨rfl, G8, hG8, S'⟩; exact ⟨_, rfl, acts_swap rfl (k := 57) rfl (by as_aux_lemma => kernel_rfl) (by as_aux_lemma => kernel_rfl), G8, hG9.trans hG8, S'⟩)
    · rintro f a' W h58 hd ⟨rfl, G9, hG9, S⟩
      refine wpOp_run (v := .bool true) rfl rfl (fun ρ hρ => ?_) ⟨(acts_some 58 rfl (by as_aux_lemma => kernel_rfl) (by as_aux_lemma => kernel_rfl)).symm, G9, hG9, S⟩
      have e0 : ρ (.tmp 92) = .bool true := by rw [hρ]; exact acts_eval_hit 56 rfl hd.1 (by rw [HSZ]; rfl) (by as_aux_lemma => kernel_rfl)
      have e1 : ρ (.tmp 93) = .bool true := by rw [hρ]; exact acts_eval_hit 57 rfl hd.2.1 (by rw [HSZ]; rfl) (by as_aux_lemma => kernel_rfl)
      have ec : ∀ v, ρ (.const v) = v := by rw [hρ]; exact fun _ => rfl
      clear hρ
      go_simp
    · rintro f a' W h59 hd ⟨rfl, G9, hG9, S⟩
      refine wpOp_run (v := .bool true) rfl rfl (fun ρ hρ => ?_) ⟨(acts_some 59 rfl (by as_aux_lemma => kernel_rfl) (by as_aux_lemma => kernel_rfl)).symm, G9, hG9, S⟩
      have e0 : ρ (.tmp 94) = .bool true := by rw [hρ]; exact acts_eval_hit 58 rfl hd.1 (by rw [HSZ]; rfl) (by as_aux_lemma => kernel_rfl)
      clear hρ
      go_simp
  rintro a' W ⟨rfl, G9, hG9, S9⟩
  subst ha0
  simp only [acts, if_true, Act.put, List.setIfInBounds_toArray, List.set_cons_succ, List.set_cons_zero]
  have HS := Lib.hid S9
  clear S2 S9 HSZ E5 E7 E9
  go_wp2_with fail
  exact hK.out _ _ ⟨rfl, HS.out.above (Gnd.le.trans hGG hG9)⟩
set_option maxHeartbeats 16000000 in
set_option maxRecDepth 100000 in
theorem ps_f (w : World) (k fl s k2 fl2 s2 : Int) (A B : Option Addr) (bs cs : List UInt8) (c d : Nat) (hb : SlB (cellR (Gnd.of w).ro) (.slice A bs.length c) bs) (hcb : SlB (cellR (Gnd.of w).ro) (.slice B cs.length d) cs) (hout : ¬ (200 < bs.length ∨ 200 < cs.length))
    (hxy : itEq (parseS k fl s bs).x (parseS k2 fl2 s2 cs).x (parseS k fl s bs).t (parseS k2 fl2 s2 cs).t (parseS k fl s bs).ps (parseS k2 fl2 s2 cs).ps = false) :
    Calls Try.prog 6 #[.agg #[.int .i64 k, .int .i64 fl, .int .i64 s, .slice A bs.length c], .agg #[.int .i64 k2, .int .i64 fl2, .int .i64 s2, .slice B cs.length d]] w fun e w' => e = .returned (.bool true) ∧ Below w.heap.size w w' := by
  refine calls_any fun K hK => ?_
  have g1 : ¬ (200 < (bs.length : Int)) := by omega
  have g2 : ¬ (200 < (cs.length : Int)) := by omega
  have S1 := ((Sat.start w).newBlk #[.int .i64 k, .int .i64 fl, .int .i64 s, .slice A bs.length c] 24).newBlk #[.int .i64 k2, .int .i64 fl2, .int .i64 s2, .slice B cs.length d] 24
  simp only [World.size_alloc] at S1
  have hp := pl_parse S1 k fl s _ hb (by omega)
  have HCB := Lib.hid hcb
  have HLB : Hid (cs.length ≤ 1000000000) := Lib.hid (by omega)
  have c0 := S1.swap.cell 0
  have c1 := S1.swap.cell 1
  have c2 := S1.swap.cell 2
  have c3 := S1.swap.cell 3
  have e3 := S1.cell 3
  generalize hyr : parseS k2 fl2 s2 cs = yr at hxy
  have HYR := Lib.hid hyr
  generalize hxr : parseS k fl s bs = xr at *
  obtain ⟨⟨xf1, xf2⟩, xi, xt, xps⟩ := xr
  obtain ⟨⟨yf1, yf2⟩, yi, yt, yps⟩ := yr
  simp only at hxy
  obtain ⟨xk, xs, xe, xl, xa, xfl, xcode, xlast, xinc, xdep, xwgt, xwd, xex⟩ := xi
  obtain ⟨yk, ys, ye, yl, ya, yfl, ycode, ylast, yinc, ydep, ywgt, ywd, yex⟩ := yi
  have HXY := Lib.hid hxy
  have HYX : Hid (itEq ⟨yk, ys, ye, yl, ya, yfl, ycode, ylast, yinc, ydep, ywgt, ywd, yex⟩ ⟨xk, xs, xe, xl, xa, xfl, xcode, xlast, xinc, xdep, xwgt, xwd, xex⟩ yt xt yps xps = false) := Lib.hid (by rw [itEq_symm]; exact hxy)
  clear hxy
  simp only [ItS.cs] at hp
  clear hout S1 hb hcb hxr hyr
  go_enter Try.func6, Try.ntmps6
  go_wp2_with fail
  (with_reducible refine hp.mono ?_)
  clear hp c0 c1 c2 c3 e3
  obtain ⟨b1, hb1⟩ : ∃ b1, b1 = w.heap.size := ⟨_, rfl⟩
  rw [← hb1]
  clear hb1
  rintro e w1 ⟨G1, v, u, hG1, rfl, hv, hu, S2⟩
  obtain ⟨xA, xc, rfl, -, -, -⟩ := hv.form
  obtain ⟨xU, xd, rfl, -⟩ := id hu
  have S3 := ((S2.newBlk #[.int .i64 xk, .int .i64 xs, .slice xA xt.length xc, .bool xe, .bool xl, .bool xa, .int .i64 xfl, .int .i64 xcode, .int .i64 xlast, .int .i64 xinc, .int .i64 xdep, .int .i64 xwgt, .bool xwd, .bool xex, .slice xU xps.length xd] 28).newBlk #[.int .i64 xf1, .bool xf2] 31)
  simp only [World.size_alloc] at S3
  have HTx0 := Lib.hid hv
  have HPx0 := Lib.hid hu
  clear S2 hv hu
  go_upto_region 4 with fail
  refine wp_world S3 fun w2 S4 => ?_
  clear S3
  generalize w1.heap.size + 1 = a6 at *
  generalize w1.heap.size = a5 at *
  have hp := pl_parse S4 k2 fl2 s2 _ (HCB.out.mono hG1) HLB.out
  rw [HYR.out] at hp
  clear HYR
  have c0 := (S4.re [2, 0, 1]).cell 0
  have c1 := (S4.re [2, 0, 1]).cell 1
  have c2 := (S4.re [2, 0, 1]).cell 2
  have c3 := (S4.re [2, 0, 1]).cell 3
  simp only [ItS.cs] at hp
  clear S4
  go_wp2_with fail
  (with_reducible refine hp.mono ?_)
  clear hp c0 c1 c2 c3
  rintro e w3 ⟨G2, v, u, hG2, rfl, hv, hu, S5⟩
  obtain ⟨yA, yc, rfl, -, -, -⟩ := hv.form
  obtain ⟨yU, yd, rfl, -⟩ := id hu
  have S6 := ((S5.newBlk #[.int .i64 yk, .int .i64 ys, .slice yA yt.length yc, .bool ye, .bool yl, .bool ya, .int .i64 yfl, .int .i64 ycode, .int .i64 ylast, .int .i64 yinc, .int .i64 ydep, .int .i64 ywgt, .bool ywd, .bool yex, .slice yU yps.length yd] 28).newBlk #[.int .i64 yf1, .bool yf2] 31)
  simp only [World.size_alloc] at S6
  have HTy := Lib.hid hv
  have HPy := Lib.hid hu
  have HTx := Lib.hid (HTx0.out.mono hG2)
  have HPx := Lib.hid (HPx0.out.mono hG2)
  clear S5 hv hu HTx0 HPx0
  go_upto_region 5 with fail
  refine wp_world S6 fun w4 S7 => ?_
  clear S6
  generalize w3.heap.size + 1 = a8 at *
  generalize w3.heap.size = a7 at *
  have S8 := S7.re [3, 1, 0, 2]
  clear S7
  have y0 := S8.cell 0
  have y1 := S8.cell 1
  have y2 := S8.cell 2
  have y3 := S8.cell 3
  have y4 := S8.cell 4
  have y5 := S8.cell 5
  have y6 := S8.cell 6
  have y7 := S8.cell 7
  have y8 := S8.cell 8
  have y9 := S8.cell 9
  have y10 := S8.cell 10
  have y11 := S8.cell 11
  have y12 := S8.cell 12
  have y13 := S8.cell 13
  have y14 := S8.cell 14
  have S9 := S8.newBlk #[.int .i64 xk, .int .i64 xs, .slice xA xt.length xc, .bool xe, .bool xl, .bool xa, .int .i64 xfl, .int .i64 xcode, .int .i64 xlast, .int .i64 xinc, .int .i64 xdep, .int .i64 xwgt, .bool xwd, .bool xex, .slice xU xps.length xd] 28
  clear S8
  go_upto_region 6 with fail
  refine wp_world S9 fun w5 S10 => ?_
  clear S9 y0 y1 y2 y3 y4 y5 y6 y7 y8 y9 y10 y11 y12 y13 y14
  generalize w4.heap.size = a9 at *
  obtain ⟨zl, hzl⟩ : ∃ zl, zl = IntKind.i64.wrap (xlast + 1) := ⟨_, rfl⟩
  have hzn : zl ≠ xlast := by rw [hzl]; exact wrap_ne xlast
  have hzl2 : IntKind.i64.wrap (xlast + 1) = zl := hzl.symm
  have y8 := S10.cell 8
  have f8 := S10.frozen 8
  have S11 := S10.setCell 8 (.int .i64 zl)
  clear S10 hzl
  go_upto_region 7 with fail
  refine wp_world S11 fun w6 S12 => ?_
  clear S11 y8 f8
  have S2 : Sat G2 w6 [blk a5 #[.int .i64 xk, .int .i64 xs, .slice xA xt.length xc, .bool xe, .bool xl, .bool xa, .int .i64 xfl, .int .i64 xcode, .int .i64 xlast, .int .i64 xinc, .int .i64 xdep, .int .i64 xwgt, .bool xwd, .bool xex, .slice xU xps.length xd] 28, blk a7 #[.int .i64 yk, .int .i64 ys, .slice yA yt.length yc, .bool ye, .bool yl, .bool ya, .int .i64 yfl, .int .i64 ycode, .int .i64 ylast, .int .i64 yinc, .int .i64 ydep, .int .i64 ywgt, .bool ywd, .bool yex, .slice yU yps.length yd] 28, blk a9 #[.int .i64 xk, .int .i64 xs, .slice xA xt.length xc, .bool xe, .bool xl, .bool xa, .int .i64 xfl, .int .i64 xcode, .int .i64 zl, .int .i64 xinc, .int .i64 xdep, .int .i64 xwgt, .bool xwd, .bool xex, .slice xU xps.length xd] 28] := (S12.re [3, 4, 5, 6, 1, 2, 0]).drop.drop.drop.drop
  have hGG := hG1.trans hG2
  have HXX : Hid (itEq ⟨xk, xs, xe, xl, xa, xfl, xcode, xlast, xinc, xdep, xwgt, xwd, xex⟩ ⟨xk, xs, xe, xl, xa, xfl, xcode, xlast, xinc, xdep, xwgt, xwd, xex⟩ xt xt xps xps = true) := Lib.hid (itEq_self' _ _ _)
  have HXZ : Hid (itEq ⟨xk, xs, xe, xl, xa, xfl, xcode, xlast, xinc, xdep, xwgt, xwd, xex⟩ ⟨xk, xs, xe, xl, xa, xfl, xcode, zl, xinc, xdep, xwgt, xwd, xex⟩ xt xt xps xps = false) := Lib.hid (by simp [itEq, sameN, Ne.symm hzn])
  obtain ⟨XI, hXI⟩ : ∃ XI : ItS, XI = ⟨xk, xs, xe, xl, xa, xfl, xcode, xlast, xinc, xdep, xwgt, xwd, xex⟩ := ⟨_, rfl⟩
  obtain ⟨ZI, hZI⟩ : ∃ ZI : ItS, ZI = ⟨xk, xs, xe, xl, xa, xfl, xcode, zl, xinc, xdep, xwgt, xwd, xex⟩ := ⟨_, rfl⟩
  obtain ⟨YI, hYI⟩ : ∃ YI : ItS, YI = ⟨yk, ys, ye, yl, ya, yfl, ycode, ylast, yinc, ydep, ywgt, ywd, yex⟩ := ⟨_, rfl⟩
  rw [← hXI] at HXX HXZ HXY HYX
  rw [← hZI] at HXZ
  rw [← hYI] at HXY HYX
  replace S2 : Sat G2 w6 [blk a5 (ItS.cs XI (.slice xA xt.length xc) (.slice xU xps.length xd)) 28, blk a7 (ItS.cs YI (.slice yA yt.length yc) (.slice yU yps.length yd)) 28, blk a9 (ItS.cs ZI (.slice xA xt.length xc) (.slice xU xps.length xd)) 28] := by
    rw [hXI, hZI, hYI]
    exact S2
  clear S12 hzn hzl2 HCB HLB hXI hZI hYI
  as_aux_lemma =>
  refine wp_act fun a0 ha0 => ?_
  have HSZ : a0.tmps.size = 95 := by rw [ha0]; rfl
  have E5 : a0.eval (.tmp 5) = .pointer (some ⟨a5, 0, none⟩) := by rw [ha0]; rfl
  have E7 : a0.eval (.tmp 7) = .pointer (some ⟨a7, 0, none⟩) := by rw [ha0]; rfl
  have E9 : a0.eval (.tmp 9) = .pointer (some ⟨a9, 0, none⟩) := by rw [ha0]; rfl
  refine wp_region_J (by as_aux_lemma => kernel_rfl) 60 (by as_aux_lemma => kernel_rfl) [[], [], [0, 1], [2, 2], [3], [3], [4, 5, 3, 3], [3], [3], [7, 8, 6, 3], [6, 9, 3], [3, 10], [11, 9], [12], [12], [13, 14, 12, 12], [15, 12], [12, 16], [17, 15], [18], [18], [19, 20, 18, 18], [21, 18], [22, 21, 18], [23], [24, 23], [25, 23], [23], [27, 23], [28, 23], [26, 29, 23], [30, 23, 23], [31], [32, 31], [31], [34, 31], [33, 35, 31], [31, 36, 23], [37, 31, 23], [38], [39, 38], [38], [41, 38], [40, 42, 38], [38, 43, 23], [44, 38, 23], [45], [46, 45], [47, 45], [45], [49, 45], [50, 45], [48, 51, 45], [45, 52, 23], [23, 53, 18], [18, 54], [55, 45], [56, 56], [56, 57], [58, 57, 0, 1, 2, 3, 4, 5, 6, 7, 8, 9, 10, 11, 12, 13, 14, 15, 16, 17, 18, 19, 20, 21, 22, 23, 24, 25, 26, 27, 28, 29, 30, 31, 32, 33, 34, 35, 36, 37, 38, 39, 40, 41, 42, 43, 44, 45, 46, 47, 48, 49, 50, 51, 52, 53, 54, 55, 56, 57, 58]] (by as_aux_lemma => kernel_rfl) (by as_aux_lemma => kernel_rfl) (fun f a' W => a' = acts [(0, 36, .agg (ItS.cs XI (.slice xA xt.length xc) (.slice xU xps.length xd))), (1, 37, .agg (ItS.cs XI (.slice xA xt.length xc) (.slice xU xps.length xd))), (2, 38, .bool true), (3, 39, .bool true), (4, 40, .agg (ItS.cs XI (.slice xA xt.length xc) (.slice xU xps.length xd))), (5, 41, .agg (ItS.cs YI (.slice yA yt.length yc) (.slice yU yps.length yd))), (6, 42, .bool false), (7, 43, .agg (ItS.cs YI (.slice yA yt.length yc) (.slice yU yps.length yd))), (8, 44, .agg (ItS.cs XI (.slice xA xt.length xc) (.slice xU xps.length xd))), (9, 45, .bool false), (10, 46, .bool true), (11, 47, .bool true), (12, 48, .bool true), (13, 49, .agg (ItS.cs XI (.slice xA xt.length xc) (.slice xU xps.length xd))), (14, 50, .agg (ItS.cs ZI (.slice xA xt.length xc) (.slice xU xps.length xd))), (15, 51, .bool false), (16, 52, .bool true), (17, 53, .bool true), (18, 54, .bool true), (19, 55, .agg (ItS.cs XI (.slice xA xt.length xc) (.slice xU xps.length xd))), (20, 56, .agg (ItS.cs YI (.slice yA yt.length yc) (.slice yU yps.length yd))), (21, 57, .bool false), (22, 58, .bool true), (23, 59, .bool true), (24, 60, undef), (25, 61, undef), (26, 62, undef), (27, 63, undef), (28, 64, undef), (29, 65, undef), (30, 66, undef), (31, 67, undef), (32, 68, undef), (33, 69, undef), (34, 70, undef), (35, 71, undef), (36, 72, undef), (37, 73, undef), (38, 74, undef), (39, 75, undef), (40, 76, undef), (41, 77, undef), (42, 78, undef), (43, 79, undef), (44, 80, undef), (45, 81, undef), (46, 82, undef), (47, 83, undef), (48, 84, undef), (49, 85, undef), (50, 86, undef), (51, 87, undef), (52, 88, undef), (53, 89, undef), (54, 90, .bool true), (55, 91, .bool true), (56, 92, .bool true), (57, 93, .bool true), (58, 94, .bool true), (59, 4, .bool true)] f a0 ∧ ∃ G9, G2.le G9 ∧ Sat G9 W [blk a5 (ItS.cs XI (.slice xA xt.length xc) (.slice xU xps.length xd)) 28, blk a7 (ItS.cs YI (.slice yA yt.length yc) (.slice yU yps.length yd)) 28, blk a9 (ItS.cs ZI (.slice xA xt.length xc) (.slice xU xps.length xd)) 28]) ?_ ?_ ?_
  · exact ⟨rfl, _, Gnd.le.rfl', S2.drew⟩
  · refine ⟨?_, ?_, ?_, ?_, ?_, ?_, ?_, ?_, ?_, ?_, ?_, ?_, ?_, ?_, ?_, ?_, ?_, ?_, ?_, ?_, ?_, ?_, ?_, ?_, ?_, ?_, ?_, ?_, ?_, ?_, ?_, ?_, ?_, ?_, ?_, ?_, ?_, ?_, ?_, ?_, ?_, ?_, ?_, ?_, ?_, ?_, ?_, ?_, ?_, ?_, ?_, ?_, ?_, ?_, ?_, ?_, ?_, ?_, ?_, ?_, trivial⟩
    · rintro f a' W h0 hd ⟨rfl, G9, hG9, S⟩
      refine wpOp_list rfl ?_
      refine st_load rfl _ _ rfl _ ((acts_eval_tmp 5 (by as_aux_lemma => kernel_rfl)).trans E5) _ _ (S) _ rfl rfl rfl ?_
      exact ⟨(acts_some 0 rfl (by as_aux_lemma => kernel_rfl) (by as_aux_lemma => kernel_rfl)).symm, G9, hG9, S⟩
    · rintro f a' W h1 hd ⟨rfl, G9, hG9, S⟩
      refine wpOp_list rfl ?_
      refine st_load rfl _ _ rfl _ ((acts_eval_tmp 5 (by as_aux_lemma => kernel_rfl)).trans E5) _ _ (S) _ rfl rfl rfl ?_
      exact ⟨(acts_some 1 rfl (by as_aux_lemma => kernel_rfl) (by as_aux_lemma => kernel_rfl)).symm, G9, hG9, S⟩
    · rintro f a' W h2 hd ⟨rfl, G9, hG9, S⟩
      refine wpOp_call rfl rfl (fun ρ hρ => ?_) ((pl_equal S XI XI (.slice xA xt.length xc) (.slice xU xps.length xd) (.slice xA xt.length xc) (.slice xU xps.length xd) xt xt xps xps (HTx.out.mono hG9) (HPx.out.mono hG9) (HTx.out.mono hG9) (HPx.out.mono hG9))) ?_
      · skip
        have e0 : ρ (.tmp 36) = .agg (ItS.cs XI (.slice xA xt.length xc) (.slice xU xps.length xd)) := by rw [hρ]; exact acts_eval_hit 0 rfl hd.1 (by rw [HSZ]; rfl) (by as_aux_lemma => kernel_rfl)
        have e1 : ρ (.tmp 37) = .agg (ItS.cs XI (.slice xA xt.length xc) (.slice xU xps.length xd)) := by rw [hρ]; exact acts_eval_hit 1 rfl hd.2.1 (by rw [HSZ]; rfl) (by as_aux_lemma => kernel_rfl)
        have ef : ρ (.func 14) = .func (.func 14) #[] #[] := by rw [hρ]; rfl
        clear hρ
        go_simp
      · (rintro e W' ⟨rfl, S'⟩; rw [HXX.out]; exact ⟨_, rfl, acts_swap rfl (k := 2) rfl (by as_aux_lemma => kernel_rfl) (by as_aux_lemma => kernel_rfl), G9, hG9, S'⟩)
    · rintro f a' W h3 hd ⟨rfl, G9, hG9, S⟩
      refine wpOp_run (v := .bool true) rfl rfl (fun ρ hρ => ?_) ⟨(acts_some 3 rfl (by as_aux_lemma => kernel_rfl) (by as_aux_lemma => kernel_rfl)).symm, G9, hG9, S⟩
      have e0 : ρ (.tmp 38) = .bool true := by rw [hρ]; exact acts_eval_hit 2 rfl hd.1 (by rw [HSZ]; rfl) (by as_aux_lemma => kernel_rfl)
      clear hρ
      go_simp
    · rintro f a' W h4 hd ⟨rfl, G9, hG9, S⟩
      refine wpOp_rowG rfl (wanted_hit (t := 39) rfl rfl (acts_eval_hit 3 rfl hd.1 (by rw [HSZ]; rfl) (by as_aux_lemma => kernel_rfl))) _ _ rfl _ ((acts_eval_tmp 5 (by as_aux_lemma => kernel_rfl)).trans E5) _ _ (S) _ rfl rfl rfl ?_
      exact ⟨(acts_some 4 rfl (by as_aux_lemma => kernel_rfl) (by as_aux_lemma => kernel_rfl)).symm, G9, hG9, S⟩
    · rintro f a' W h5 hd ⟨rfl, G9, hG9, S⟩
      refine wpOp_rowG rfl (wanted_hit (t := 39) rfl rfl (acts_eval_hit 3 rfl hd.1 (by rw [HSZ]; rfl) (by as_aux_lemma => kernel_rfl))) _ _ rfl _ ((acts_eval_tmp 7 (by as_aux_lemma => kernel_rfl)).trans E7) _ _ (S.swap) _ rfl rfl rfl ?_
      exact ⟨(acts_some 5 rfl (by as_aux_lemma => kernel_rfl) (by as_aux_lemma => kernel_rfl)).symm, G9, hG9, S⟩
    · rintro f a' W h6 hd ⟨rfl, G9, hG9, S⟩
      refine wpOp_callG rfl (wanted_hit (t := 39) rfl rfl (acts_eval_hit 3 rfl hd.2.2.1 (by rw [HSZ]; rfl) (by as_aux_lemma => kernel_rfl))) (fun ρ hρ => ?_) ((pl_equal S XI YI (.slice xA xt.length xc) (.slice xU xps.length xd) (.slice yA yt.length yc) (.slice yU yps.length yd) xt yt xps yps (HTx.out.mono hG9) (HPx.out.mono hG9) (HTy.out.mono hG9) (HPy.out.mono hG9))) ?_
      · skip
        have e0 : ρ (.tmp 40) = .agg (ItS.cs XI (.slice xA xt.length xc) (.slice xU xps.length xd)) := by rw [hρ]; exact acts_eval_hit 4 rfl hd.1 (by rw [HSZ]; rfl) (by as_aux_lemma => kernel_rfl)
        have e1 : ρ (.tmp 41) = .agg (ItS.cs YI (.slice yA yt.length yc) (.slice yU yps.length yd)) := by rw [hρ]; exact acts_eval_hit 5 rfl hd.2.1 (by rw [HSZ]; rfl) (by as_aux_lemma => kernel_rfl)
        have ef : ρ (.func 14) = .func (.func 14) #[] #[] := by rw [hρ]; rfl
        clear hρ
        go_simp
      · (rintro e W' ⟨rfl, S'⟩; rw [HXY.out]; exact ⟨_, rfl, acts_swap rfl (k := 6) rfl (by as_aux_lemma => kernel_rfl) (by as_aux_lemma => kernel_rfl), G9, hG9, S'⟩)
    · rintro f a' W h7 hd ⟨rfl, G9, hG9, S⟩
      refine wpOp_rowG rfl (wanted_hit (t := 39) rfl rfl (acts_eval_hit 3 rfl hd.1 (by rw [HSZ]; rfl) (by as_aux_lemma => kernel_rfl))) _ _ rfl _ ((acts_eval_tmp 7 (by as_aux_lemma => kernel_rfl)).trans E7) _ _ (S.swap) _ rfl rfl rfl ?_
      exact ⟨(acts_some 7 rfl (by as_aux_lemma => kernel_rfl) (by as_aux_lemma => kernel_rfl)).symm, G9, hG9, S⟩
    · rintro f a' W h8 hd ⟨rfl, G9, hG9, S⟩
      refine wpOp_rowG rfl (wanted_hit (t := 39) rfl rfl (acts_eval_hit 3 rfl hd.1 (by rw [HSZ]; rfl) (by as_aux_lemma => kernel_rfl))) _ _ rfl _ ((acts_eval_tmp 5 (by as_aux_lemma => kernel_rfl)).trans E5) _ _ (S) _ rfl rfl rfl ?_
      exact ⟨(acts_some 8 rfl (by as_aux_lemma => kernel_rfl) (by as_aux_lemma => kernel_rfl)).symm, G9, hG9, S⟩
    · rintro f a' W h9 hd ⟨rfl, G9, hG9, S⟩
      refine wpOp_callG rfl (wanted_hit (t := 39) rfl rfl (acts_eval_hit 3 rfl hd.2.2.2.1 (by rw [HSZ]; rfl) (by as_aux_lemma => kernel_rfl))) (fun ρ hρ => ?_) ((pl_equal S YI XI (.slice yA yt.length yc) (.slice yU yps.length yd) (.slice xA xt.length xc) (.slice xU xps.length xd) yt xt yps xps (HTy.out.mono hG9) (HPy.out.mono hG9) (HTx.out.mono hG9) (HPx.out.mono hG9))) ?_
      · skip
        have e0 : ρ (.tmp 43) = .agg (ItS.cs YI (.slice yA yt.length yc) (.slice yU yps.length yd)) := by rw [hρ]; exact acts_eval_hit 7 rfl hd.1 (by rw [HSZ]; rfl) (by as_aux_lemma => kernel_rfl)
        have e1 : ρ (.tmp 44) = .agg (ItS.cs XI (.slice xA xt.length xc) (.slice xU xps.length xd)) := by rw [hρ]; exact acts_eval_hit 8 rfl hd.2.1 (by rw [HSZ]; rfl) (by as_aux_lemma => kernel_rfl)
        have ef : ρ (.func 14) = .func (.func 14) #[] #[] := by rw [hρ]; rfl
        clear hρ
        go_simp
      · (rintro e W' ⟨rfl, S'⟩; rw [HYX.out]; exact ⟨_, rfl, acts_swap rfl (k := 9) rfl (by as_aux_lemma => kernel_rfl) (by as_aux_lemma => kernel_rfl), G9, hG9, S'⟩)
    · rintro f a' W h10 hd ⟨rfl, G9, hG9, S⟩
      refine wpOp_runG (v := .bool true) rfl ?_ (fun ρ hρ => ?_) ⟨(acts_some 10 rfl (by as_aux_lemma => kernel_rfl) (by as_aux_lemma => kernel_rfl)).symm, G9, hG9, S⟩
      · exact wanted_hit (t := 39) rfl rfl (acts_eval_hit 3 rfl hd.2.2.1 (by rw [HSZ]; rfl) (by as_aux_lemma => kernel_rfl))
      · skip
        have e0 : ρ (.tmp 42) = .bool false := by rw [hρ]; exact acts_eval_hit 6 rfl hd.1 (by rw [HSZ]; rfl) (by as_aux_lemma => kernel_rfl)
        have e1 : ρ (.tmp 45) = .bool false := by rw [hρ]; exact acts_eval_hit 9 rfl hd.2.1 (by rw [HSZ]; rfl) (by as_aux_lemma => kernel_rfl)
        clear hρ
        go_simp
    · rintro f a' W h11 hd ⟨rfl, G9, hG9, S⟩
      refine wpOp_run (v := .bool true) rfl rfl (fun ρ hρ => ?_) ⟨(acts_some 11 rfl (by as_aux_lemma => kernel_rfl) (by as_aux_lemma => kernel_rfl)).symm, G9, hG9, S⟩
      have e0 : ρ (.tmp 39) = .bool true := by rw [hρ]; exact acts_eval_hit 3 rfl hd.1 (by rw [HSZ]; rfl) (by as_aux_lemma => kernel_rfl)
      have e1 : ρ (.tmp 46) = .bool true := by rw [hρ]; exact acts_eval_hit 10 rfl hd.2.1 (by rw [HSZ]; rfl) (by as_aux_lemma => kernel_rfl)
      have ec : ∀ v, ρ (.const v) = v := by rw [hρ]; exact fun _ => rfl
      clear hρ
      go_simp
    · rintro f a' W h12 hd ⟨rfl, G9, hG9, S⟩
      refine wpOp_run (v := .bool true) rfl rfl (fun ρ hρ => ?_) ⟨(acts_some 12 rfl (by as_aux_lemma => kernel_rfl) (by as_aux_lemma => kernel_rfl)).symm, G9, hG9, S⟩
      have e0 : ρ (.tmp 47) = .bool true := by rw [hρ]; exact acts_eval_hit 11 rfl hd.1 (by rw [HSZ]; rfl) (by as_aux_lemma => kernel_rfl)
      clear hρ
      go_simp
    · rintro f a' W h13 hd ⟨rfl, G9, hG9, S⟩
      refine wpOp_rowG rfl (wanted_hit (t := 48) rfl rfl (acts_eval_hit 12 rfl hd.1 (by rw [HSZ]; rfl) (by as_aux_lemma => kernel_rfl))) _ _ rfl _ ((acts_eval_tmp 5 (by as_aux_lemma => kernel_rfl)).trans E5) _ _ (S) _ rfl rfl rfl ?_
      exact ⟨(acts_some 13 rfl (by as_aux_lemma => kernel_rfl) (by as_aux_lemma => kernel_rfl)).symm, G9, hG9, S⟩
    · rintro f a' W h14 hd ⟨rfl, G9, hG9, S⟩
      refine wpOp_rowG rfl (wanted_hit (t := 48) rfl rfl (acts_eval_hit 12 rfl hd.1 (by rw [HSZ]; rfl) (by as_aux_lemma => kernel_rfl))) _ _ rfl _ ((acts_eval_tmp 9 (by as_aux_lemma => kernel_rfl)).trans E9) _ _ (S.pull2) _ rfl rfl rfl ?_
      exact ⟨(acts_some 14 rfl (by as_aux_lemma => kernel_rfl) (by as_aux_lemma => kernel_rfl)).symm, G9, hG9, S⟩
    · rintro f a' W h15 hd ⟨rfl, G9, hG9, S⟩
      refine wpOp_callG rfl (wanted_hit (t := 48) rfl rfl (acts_eval_hit 12 rfl hd.2.2.1 (by rw [HSZ]; rfl) (by as_aux_lemma => kernel_rfl))) (fun ρ hρ => ?_) ((pl_equal S XI ZI (.slice xA xt.length xc) (.slice xU xps.length xd) (.slice xA xt.length xc) (.slice xU xps.length xd) xt xt xps xps (HTx.out.mono hG9) (HPx.out.mono hG9) (HTx.out.mono hG9) (HPx.out.mono hG9))) ?_
      · skip
        have e0 : ρ (.tmp 49) = .agg (ItS.cs XI (.slice xA xt.length xc) (.slice xU xps.length xd)) := by rw [hρ]; exact acts_eval_hit 13 rfl hd.1 (by rw [HSZ]; rfl) (by as_aux_lemma => kernel_rfl)
        have e1 : ρ (.tmp 50) = .agg (ItS.cs ZI (.slice xA xt.length xc) (.slice xU xps.length xd)) := by rw [hρ]; exact acts_eval_hit 14 rfl hd.2.1 (by rw [HSZ]; rfl) (by as_aux_lemma => kernel_rfl)
        have ef : ρ (.func 14) = .func (.func 14) #[] #[] := by rw [hρ]; rfl
        clear hρ
        go_simp
      · (rintro e W' ⟨rfl, S'⟩; rw [HXZ.out]; exact ⟨_, rfl, acts_swap rfl (k := 15) rfl (by as_aux_lemma => kernel_rfl) (by as_aux_lemma => kernel_rfl), G9, hG9, S'⟩)
    · rintro f a' W h16 hd ⟨rfl, G9, hG9, S⟩
      refine wpOp_runG (v := .bool true) rfl ?_ (fun ρ hρ => ?_) ⟨(acts_some 16 rfl (by as_aux_lemma => kernel_rfl) (by as_aux_lemma => kernel_rfl)).symm, G9, hG9, S⟩
      · exact wanted_hit (t := 48) rfl rfl (acts_eval_hit 12 rfl hd.2.1 (by rw [HSZ]; rfl) (by as_aux_lemma => kernel_rfl))
      · skip
        have e0 : ρ (.tmp 51) = .bool false := by rw [hρ]; exact acts_eval_hit 15 rfl hd.1 (by rw [HSZ]; rfl) (by as_aux_lemma => kernel_rfl)
        clear hρ
        go_simp
    · rintro f a' W h17 hd ⟨rfl, G9, hG9, S⟩
      refine wpOp_run (v := .bool true) rfl rfl (fun ρ hρ => ?_) ⟨(acts_some 17 rfl (by as_aux_lemma => kernel_rfl) (by as_aux_lemma => kernel_rfl)).symm, G9, hG9, S⟩
      have e0 : ρ (.tmp 48) = .bool true := by rw [hρ]; exact acts_eval_hit 12 rfl hd.1 (by rw [HSZ]; rfl) (by as_aux_lemma => kernel_rfl)
      have e1 : ρ (.tmp 52) = .bool true := by rw [hρ]; exact acts_eval_hit 16 rfl hd.2.1 (by rw [HSZ]; rfl) (by as_aux_lemma => kernel_rfl)
      have ec : ∀ v, ρ (.const v) = v := by rw [hρ]; exact fun _ => rfl
      clear hρ
      go_simp
    · rintro f a' W h18 hd ⟨rfl, G9, hG9, S⟩
      refine wpOp_run (v := .bool true) rfl rfl (fun ρ hρ => ?_) ⟨(acts_some 18 rfl (by as_aux_lemma => kernel_rfl) (by as_aux_lemma => kernel_rfl)).symm, G9, hG9, S⟩
      have e0 : ρ (.tmp 53) = .bool true := by rw [hρ]; exact acts_eval_hit 17 rfl hd.1 (by rw [HSZ]; rfl) (by as_aux_lemma => kernel_rfl)
      clear hρ
      go_simp
    · rintro f a' W h19 hd ⟨rfl, G9, hG9, S⟩
      refine wpOp_rowG rfl (wanted_hit (t := 54) rfl rfl (acts_eval_hit 18 rfl hd.1 (by rw [HSZ]; rfl) (by as_aux_lemma => kernel_rfl))) _ _ rfl _ ((acts_eval_tmp 5 (by as_aux_lemma => kernel_rfl)).trans E5) _ _ (S) _ rfl rfl rfl ?_
      exact ⟨(acts_some 19 rfl (by as_aux_lemma => kernel_rfl) (by as_aux_lemma => kernel_rfl)).symm, G9, hG9, S⟩
    · rintro f a' W h20 hd ⟨rfl, G9, hG9, S⟩
      refine wpOp_rowG rfl (wanted_hit (t := 54) rfl rfl (acts_eval_hit 18 rfl hd.1 (by rw [HSZ]; rfl) (by as_aux_lemma => kernel_rfl))) _ _ rfl _ ((acts_eval_tmp 7 (by as_aux_lemma => kernel_rfl)).trans E7) _ _ (S.swap) _ rfl rfl rfl ?_
      exact ⟨(acts_some 20 rfl (by as_aux_lemma => kernel_rfl) (by as_aux_lemma => kernel_rfl)).symm, G9, hG9, S⟩
    · rintro f a' W h21 hd ⟨rfl, G9, hG9, S⟩
      refine wpOp_callG rfl (wanted_hit (t := 54) rfl rfl (acts_eval_hit 18 rfl hd.2.2.1 (by rw [HSZ]; rfl) (by as_aux_lemma => kernel_rfl))) (fun ρ hρ => ?_) ((pl_equal S XI YI (.slice xA xt.length xc) (.slice xU xps.length xd) (.slice yA yt.length yc) (.slice yU yps.length yd) xt yt xps yps (HTx.out.mono hG9) (HPx.out.mono hG9) (HTy.out.mono hG9) (HPy.out.mono hG9))) ?_
      · skip
        have e0 : ρ (.tmp 55) = .agg (ItS.cs XI (.slice xA xt.length xc) (.slice xU xps.length xd)) := by rw [hρ]; exact acts_eval_hit 19 rfl hd.1 (by rw [HSZ]; rfl) (by as_aux_lemma => kernel_rfl)
        have e1 : ρ (.tmp 56) = .agg (ItS.cs YI (.slice yA yt.length yc) (.slice yU yps.length yd)) := by rw [hρ]; exact acts_eval_hit 20 rfl hd.2.1 (by rw [HSZ]; rfl) (by as_aux_lemma => kernel_rfl)
        have ef : ρ (.func 14) = .func (.func 14) #[] #[] := by rw [hρ]; rfl
        clear hρ
        go_simp
      · (rintro e W' ⟨rfl, S'⟩; rw [HXY.out]; exact ⟨_, rfl, acts_swap rfl (k := 21) rfl (by as_aux_lemma => kernel_rfl) (by as_aux_lemma => kernel_rfl), G9, hG9, S'⟩)
    · rintro f a' W h22 hd ⟨rfl, G9, hG9, S⟩
      refine wpOp_runG (v := .bool true) rfl ?_ (fun ρ hρ => ?_) ⟨(acts_some 22 rfl (by as_aux_lemma => kernel_rfl) (by as_aux_lemma => kernel_rfl)).symm, G9, hG9, S⟩
      · exact wanted_hit (t := 54) rfl rfl (acts_eval_hit 18 rfl hd.2.1 (by rw [HSZ]; rfl) (by as_aux_lemma => kernel_rfl))
      · skip
        have e0 : ρ (.tmp 57) = .bool false := by rw [hρ]; exact acts_eval_hit 21 rfl hd.1 (by rw [HSZ]; rfl) (by as_aux_lemma => kernel_rfl)
        clear hρ
        go_simp
    · rintro f a' W h23 hd ⟨rfl, G9, hG9, S⟩
      refine wpOp_runG (v := .bool true) rfl ?_ (fun ρ hρ => ?_) ⟨(acts_some 23 rfl (by as_aux_lemma => kernel_rfl) (by as_aux_lemma => kernel_rfl)).symm, G9, hG9, S⟩
      · exact wanted_hit (t := 54) rfl rfl (acts_eval_hit 18 rfl hd.2.2.1 (by rw [HSZ]; rfl) (by as_aux_lemma => kernel_rfl))
      · skip
        have e0 : ρ (.tmp 58) = .bool true := by rw [hρ]; exact acts_eval_hit 22 rfl hd.1 (by rw [HSZ]; rfl) (by as_aux_lemma => kernel_rfl)
        clear hρ
        go_simp
    · rintro f a' W h24 hd ⟨rfl, G9, hG9, S⟩
      refine wpOp_skip rfl (wanted_miss (t := 59) rfl rfl (acts_eval_hit 23 rfl hd.1 (by rw [HSZ]; rfl) (by as_aux_lemma => kernel_rfl)) (by decide)) ⟨(acts_some 24 rfl (by as_aux_lemma => kernel_rfl) (by as_aux_lemma => kernel_rfl)).symm, G9, hG9, S⟩
    · rintro f a' W h25 hd ⟨rfl, G9, hG9, S⟩
      refine wpOp_skip rfl (wanted_miss (t := 59) rfl rfl (acts_eval_hit 23 rfl hd.2.1 (by rw [HSZ]; rfl) (by as_aux_lemma => kernel_rfl)) (by decide)) ⟨(acts_some 25 rfl (by as_aux_lemma => kernel_rfl) (by as_aux_lemma => kernel_rfl)).symm, G9, hG9, S⟩
    · rintro f a' W h26 hd ⟨rfl, G9, hG9, S⟩
      refine wpOp_skip rfl (wanted_miss (t := 59) rfl rfl (acts_eval_hit 23 rfl hd.2.1 (by rw [HSZ]; rfl) (by as_aux_lemma => kernel_rfl)) (by decide)) ⟨(acts_some 26 rfl (by as_aux_lemma => kernel_rfl) (by as_aux_lemma => kernel_rfl)).symm, G9, hG9, S⟩
    · rintro f a' W h27 hd ⟨rfl, G9, hG9, S⟩
      refine wpOp_skip rfl (wanted_miss (t := 59) rfl rfl (acts_eval_hit 23 rfl hd.1 (by rw [HSZ]; rfl) (by as_aux_lemma => kernel_rfl)) (by decide)) ⟨(acts_some 27 rfl (by as_aux_lemma => kernel_rfl) (by as_aux_lemma => kernel_rfl)).symm, G9, hG9, S⟩
    · rintro f a' W h28 hd ⟨rfl, G9, hG9, S⟩
      refine wpOp_skip rfl (wanted_miss (t := 59) rfl rfl (acts_eval_hit 23 rfl hd.2.1 (by rw [HSZ]; rfl) (by as_aux_lemma => kernel_rfl)) (by decide)) ⟨(acts_some 28 rfl (by as_aux_lemma => kernel_rfl) (by as_aux_lemma => kernel_rfl)).symm, G9, hG9, S⟩
    · rintro f a' W h29 hd ⟨rfl, G9, hG9, S⟩
      refine wpOp_skip rfl (wanted_miss (t := 59) rfl rfl (acts_eval_hit 23 rfl hd.2.1 (by rw [HSZ]; rfl) (by as_aux_lemma => kernel_rfl)) (by decide)) ⟨(acts_some 29 rfl (by as_aux_lemma => kernel_rfl) (by as_aux_lemma => kernel_rfl)).symm, G9, hG9, S⟩
    · rintro f a' W h30 hd ⟨rfl, G9, hG9, S⟩
      refine wpOp_skip rfl (wanted_miss (t := 59) rfl rfl (acts_eval_hit 23 rfl hd.2.2.1 (by rw [HSZ]; rfl) (by as_aux_lemma => kernel_rfl)) (by decide)) ⟨(acts_some 30 rfl (by as_aux_lemma => kernel_rfl) (by as_aux_lemma => kernel_rfl)).symm, G9, hG9, S⟩
    · rintro f a' W h31 hd ⟨rfl, G9, hG9, S⟩
      refine wpOp_skip rfl (wanted_miss (t := 59) rfl rfl (acts_eval_hit 23 rfl hd.2.1 (by rw [HSZ]; rfl) (by as_aux_lemma => kernel_rfl)) (by decide)) ⟨(acts_some 31 rfl (by as_aux_lemma => kernel_rfl) (by as_aux_lemma => kernel_rfl)).symm, G9, hG9, S⟩
    · rintro f a' W h32 hd ⟨rfl, G9, hG9, S⟩
      refine wpOp_skip rfl (wanted_none (t := 67) rfl rfl (acts_eval_hit 31 rfl hd.1 (by rw [HSZ]; rfl) (by as_aux_lemma => kernel_rfl))) ⟨(acts_some 32 rfl (by as_aux_lemma => kernel_rfl) (by as_aux_lemma => kernel_rfl)).symm, G9, hG9, S⟩
    · rintro f a' W h33 hd ⟨rfl, G9, hG9, S⟩
      refine wpOp_skip rfl (wanted_none (t := 67) rfl rfl (acts_eval_hit 31 rfl hd.2.1 (by rw [HSZ]; rfl) (by as_aux_lemma => kernel_rfl))) ⟨(acts_some 33 rfl (by as_aux_lemma => kernel_rfl) (by as_aux_lemma => kernel_rfl)).symm, G9, hG9, S⟩
    · rintro f a' W h34 hd ⟨rfl, G9, hG9, S⟩
      refine wpOp_skip rfl (wanted_none (t := 67) rfl rfl (acts_eval_hit 31 rfl hd.1 (by rw [HSZ]; rfl) (by as_aux_lemma => kernel_rfl))) ⟨(acts_some 34 rfl (by as_aux_lemma => kernel_rfl) (by as_aux_lemma => kernel_rfl)).symm, G9, hG9, S⟩
    · rintro f a' W h35 hd ⟨rfl, G9, hG9, S⟩
      refine wpOp_skip rfl (wanted_none (t := 67) rfl rfl (acts_eval_hit 31 rfl hd.2.1 (by rw [HSZ]; rfl) (by as_aux_lemma => kernel_rfl))) ⟨(acts_some 35 rfl (by as_aux_lemma => kernel_rfl) (by as_aux_lemma => kernel_rfl)).symm, G9, hG9, S⟩
    · rintro f a' W h36 hd ⟨rfl, G9, hG9, S⟩
      refine wpOp_skip rfl (wanted_none (t := 67) rfl rfl (acts_eval_hit 31 rfl hd.2.2.1 (by rw [HSZ]; rfl) (by as_aux_lemma => kernel_rfl))) ⟨(acts_some 36 rfl (by as_aux_lemma => kernel_rfl) (by as_aux_lemma => kernel_rfl)).symm, G9, hG9, S⟩
    · rintro f a' W h37 hd ⟨rfl, G9, hG9, S⟩
      refine wpOp_skip rfl (wanted_miss (t := 59) rfl rfl (acts_eval_hit 23 rfl hd.2.2.1 (by rw [HSZ]; rfl) (by as_aux_lemma => kernel_rfl)) (by decide)) ⟨(acts_some 37 rfl (by as_aux_lemma => kernel_rfl) (by as_aux_lemma => kernel_rfl)).symm, G9, hG9, S⟩
    · rintro f a' W h38 hd ⟨rfl, G9, hG9, S⟩
      refine wpOp_skip rfl (wanted_miss (t := 59) rfl rfl (acts_eval_hit 23 rfl hd.2.2.1 (by rw [HSZ]; rfl) (by as_aux_lemma => kernel_rfl)) (by decide)) ⟨(acts_some 38 rfl (by as_aux_lemma => kernel_rfl) (by as_aux_lemma => kernel_rfl)).symm, G9, hG9, S⟩
    · rintro f a' W h39 hd ⟨rfl, G9, hG9, S⟩
      refine wpOp_skip rfl (wanted_none (t := 74) rfl rfl (acts_eval_hit 38 rfl hd.1 (by rw [HSZ]; rfl) (by as_aux_lemma => kernel_rfl))) ⟨(acts_some 39 rfl (by as_aux_lemma => kernel_rfl) (by as_aux_lemma => kernel_rfl)).symm, G9, hG9, S⟩
    · rintro f a' W h40 hd ⟨rfl, G9, hG9, S⟩
      refine wpOp_skip rfl (wanted_none (t := 74) rfl rfl (acts_eval_hit 38 rfl hd.2.1 (by rw [HSZ]; rfl) (by as_aux_lemma => kernel_rfl))) ⟨(acts_some 40 rfl (by as_aux_lemma => kernel_rfl) (by as_aux_lemma => kernel_rfl)).symm, G9, hG9, S⟩
    · rintro f a' W h41 hd ⟨rfl, G9, hG9, S⟩
      refine wpOp_skip rfl (wanted_none (t := 74) rfl rfl (acts_eval_hit 38 rfl hd.1 (by rw [HSZ]; rfl) (by as_aux_lemma => kernel_rfl))) ⟨(acts_some 41 rfl (by as_aux_lemma => kernel_rfl) (by as_aux_lemma => kernel_rfl)).symm, G9, hG9, S⟩
    · rintro f a' W h42 hd ⟨rfl, G9, hG9, S⟩
      refine wpOp_skip rfl (wanted_none (t := 74) rfl rfl (acts_eval_hit 38 rfl hd.2.1 (by rw [HSZ]; rfl) (by as_aux_lemma => kernel_rfl))) ⟨(acts_some 42 rfl (by as_aux_lemma => kernel_rfl) (by as_aux_lemma => kernel_rfl)).symm, G9, hG9, S⟩
    · rintro f a' W h43 hd ⟨rfl, G9, hG9, S⟩
      refine wpOp_skip rfl (wanted_none (t := 74) rfl rfl (acts_eval_hit 38 rfl hd.2.2.1 (by rw [HSZ]; rfl) (by as_aux_lemma => kernel_rfl))) ⟨(acts_some 43 rfl (by as_aux_lemma => kernel_rfl) (by as_aux_lemma => kernel_rfl)).symm, G9, hG9, S⟩
    · rintro f a' W h44 hd ⟨rfl, G9, hG9, S⟩
      refine wpOp_skip rfl (wanted_miss (t := 59) rfl rfl (acts_eval_hit 23 rfl hd.2.2.1 (by rw [HSZ]; rfl) (by as_aux_lemma => kernel_rfl)) (by decide)) ⟨(acts_some 44 rfl (by as_aux_lemma => kernel_rfl) (by as_aux_lemma => kernel_rfl)).symm, G9, hG9, S⟩
    · rintro f a' W h45 hd ⟨rfl, G9, hG9, S⟩
      refine wpOp_skip rfl (wanted_miss (t := 59) rfl rfl (acts_eval_hit 23 rfl hd.2.2.1 (by rw [HSZ]; rfl) (by as_aux_lemma => kernel_rfl)) (by decide)) ⟨(acts_some 45 rfl (by as_aux_lemma => kernel_rfl) (by as_aux_lemma => kernel_rfl)).symm, G9, hG9, S⟩
    · rintro f a' W h46 hd ⟨rfl, G9, hG9, S⟩
      refine wpOp_skip rfl (wanted_none (t := 81) rfl rfl (acts_eval_hit 45 rfl hd.1 (by rw [HSZ]; rfl) (by as_aux_lemma => kernel_rfl))) ⟨(acts_some 46 rfl (by as_aux_lemma => kernel_rfl) (by as_aux_lemma => kernel_rfl)).symm, G9, hG9, S⟩
    · rintro f a' W h47 hd ⟨rfl, G9, hG9, S⟩
      refine wpOp_skip rfl (wanted_none (t := 81) rfl rfl (acts_eval_hit 45 rfl hd.2.1 (by rw [HSZ]; rfl) (by as_aux_lemma => kernel_rfl))) ⟨(acts_some 47 rfl (by as_aux_lemma => kernel_rfl) (by as_aux_lemma => kernel_rfl)).symm, G9, hG9, S⟩
    · rintro f a' W h48 hd ⟨rfl, G9, hG9, S⟩
      refine wpOp_skip rfl (wanted_none (t := 81) rfl rfl (acts_eval_hit 45 rfl hd.2.1 (by rw [HSZ]; rfl) (by as_aux_lemma => kernel_rfl))) ⟨(acts_some 48 rfl (by as_aux_lemma => kernel_rfl) (by as_aux_lemma => kernel_rfl)).symm, G9, hG9, S⟩
    · rintro f a' W h49 hd ⟨rfl, G9, hG9, S⟩
      refine wpOp_skip rfl (wanted_none (t := 81) rfl rfl (acts_eval_hit 45 rfl hd.1 (by rw [HSZ]; rfl) (by as_aux_lemma => kernel_rfl))) ⟨(acts_some 49 rfl (by as_aux_lemma => kernel_rfl) (by as_aux_lemma => kernel_rfl)).symm, G9, hG9, S⟩
    · rintro f a' W h50 hd ⟨rfl, G9, hG9, S⟩
      refine wpOp_skip rfl (wanted_none (t := 81) rfl rfl (acts_eval_hit 45 rfl hd.2.1 (by rw [HSZ]; rfl) (by as_aux_lemma => kernel_rfl))) ⟨(acts_some 50 rfl (by as_aux_lemma => kernel_rfl) (by as_aux_lemma => kernel_rfl)).symm, G9, hG9, S⟩
    · rintro f a' W h51 hd ⟨rfl, G9, hG9, S⟩
      refine wpOp_skip rfl (wanted_none (t := 81) rfl rfl (acts_eval_hit 45 rfl hd.2.1 (by rw [HSZ]; rfl) (by as_aux_lemma => kernel_rfl))) ⟨(acts_some 51 rfl (by as_aux_lemma => kernel_rfl) (by as_aux_lemma => kernel_rfl)).symm, G9, hG9, S⟩
    · rintro f a' W h52 hd ⟨rfl, G9, hG9, S⟩
      refine wpOp_skip rfl (wanted_none (t := 81) rfl rfl (acts_eval_hit 45 rfl hd.2.2.1 (by rw [HSZ]; rfl) (by as_aux_lemma => kernel_rfl))) ⟨(acts_some 52 rfl (by as_aux_lemma => kernel_rfl) (by as_aux_lemma => kernel_rfl)).symm, G9, hG9, S⟩
    · rintro f a' W h53 hd ⟨rfl, G9, hG9, S⟩
      refine wpOp_skip rfl (wanted_miss (t := 59) rfl rfl (acts_eval_hit 23 rfl hd.2.2.1 (by rw [HSZ]; rfl) (by as_aux_lemma => kernel_rfl)) (by decide)) ⟨(acts_some 53 rfl (by as_aux_lemma => kernel_rfl) (by as_aux_lemma => kernel_rfl)).symm, G9, hG9, S⟩
    · rintro f a' W h54 hd ⟨rfl, G9, hG9, S⟩
      refine wpOp_runG (v := .bool true) rfl ?_ (fun ρ hρ => ?_) ⟨(acts_some 54 rfl (by as_aux_lemma => kernel_rfl) (by as_aux_lemma => kernel_rfl)).symm, G9, hG9, S⟩
      · exact wanted_hit (t := 54) rfl rfl (acts_eval_hit 18 rfl hd.2.2.1 (by rw [HSZ]; rfl) (by as_aux_lemma => kernel_rfl))
      · skip
        have e0 : ρ (.tmp 59) = .bool true := by rw [hρ]; exact acts_eval_hit 23 rfl hd.1 (by rw [HSZ]; rfl) (by as_aux_lemma => kernel_rfl)
        have e1 : ρ (.tmp 89) = undef := by rw [hρ]; exact acts_eval_hit 53 rfl hd.2.1 (by rw [HSZ]; rfl) (by as_aux_lemma => kernel_rfl)
        have ec : ∀ v, ρ (.const v) = v := by rw [hρ]; exact fun _ => rfl
        clear hρ
        go_simp
    · rintro f a' W h55 hd ⟨rfl, G9, hG9, S⟩
      refine wpOp_run (v := .bool true) rfl rfl (fun ρ hρ => ?_) ⟨(acts_some 55 rfl (by as_aux_lemma => kernel_rfl) (by as_aux_lemma => kernel_rfl)).symm, G9, hG9, S⟩
      have e0 : ρ (.tmp 54) = .bool true := by rw [hρ]; exact acts_eval_hit 18 rfl hd.1 (by rw [HSZ]; rfl) (by as_aux_lemma => kernel_rfl)
      have e1 : ρ (.tmp 90) = .bool true := by rw [hρ]; exact acts_eval_hit 54 rfl hd.2.1 (by rw [HSZ]; rfl) (by as_aux_lemma => kernel_rfl)
      have ec : ∀ v, ρ (.const v) = v := by rw [hρ]; exact fun _ => rfl
      clear hρ
      go_simp
    · rintro f a' W h56 hd ⟨rfl, G9, hG9, S⟩
      refine wpOp_run (v := .bool true) rfl rfl (fun ρ hρ => ?_) ⟨(acts_some 56 rfl (by as_aux_lemma => kernel_rfl) (by as_aux_lemma => kernel_rfl)).symm, G9, hG9, S⟩
      have e0 : ρ (.tmp 91) = .bool true := by rw [hρ]; exact acts_eval_hit 55 rfl hd.1 (by rw [HSZ]; rfl) (by as_aux_lemma => kernel_rfl)
      clear hρ
      go_simp
    · rintro f a' W h57 hd ⟨rfl, G9, hG9, S⟩
      refine wpOp_callG rfl (wanted_hit (t := 92) rfl rfl (acts_eval_hit 56 rfl hd.1 (by rw [HSZ]; rfl) (by as_aux_lemma => kernel_rfl))) (fun ρ hρ => ?_) (law_awake S) ?_
      · skip
        have ef : ρ (.func 8) = .func (.func 8) #[] #[] := by rw [hρ]; rfl
        clear hρ
        go_simp
      · (rintro e W' ⟨rfl, G8, hG8, S'⟩; exact ⟨_, rfl, acts_swap rfl (k := 57) rfl (by as_aux_lemma => kernel_rfl) (by as_aux_lemma => kernel_rfl), G8, hG9.trans hG8, S'⟩)
    · rintro f a' W h58 hd ⟨rfl, G9, hG9, S⟩
      refine wpOp_run (v := .bool true) rfl rfl (fun ρ hρ => ?_) ⟨(acts_some 58 rfl (by as_aux_lemma => kernel_rfl) (by as_aux_lemma => kernel_rfl)).symm, G9, hG9, S⟩
      have e0 : ρ (.tmp 92) = .bool true := by rw [hρ]; exact acts_eval_hit 56 rfl hd.1 (by rw [HSZ]; rfl) (by as_aux_lemma => kernel_rfl)
      have e1 : ρ (.tmp 93) = .bool true := by rw [hρ]; exact acts_eval_hit 57 rfl hd.2.1 (by rw [HSZ]; rfl) (by as_aux_lemma => kernel_rfl)
      have ec : ∀ v, ρ (.const v) = v := by rw [hρ]; exact fun _ => rfl
      clear hρ
      go_simp
    · rintro f a' W h59 hd ⟨rfl, G9, hG9, S⟩
      refine wpOp_run (v := .bool true) rfl rfl (fun ρ hρ => ?_) ⟨(acts_some 59 rfl (by as_aux_lemma => kernel_rfl) (by as_aux_lemma => kernel_rfl)).symm, G9, hG9, S⟩
      have e0 : ρ (.tmp 94) = .bool true := by rw [hρ]; exact acts_eval_hit 58 rfl hd.1 (by rw [HSZ]; rfl) (by as_aux_lemma => kernel_rfl)
      clear hρ
      go_simp
  rintro a' W ⟨rfl, G9, hG9, S9⟩
  subst ha0
  simp only [acts, if_true, Act.put, List.setIfInBounds_toArray, List.set_cons_succ, List.set_cons_zero]
  have HS := Lib.hid S9
  clear S2 S9 HSZ E5 E7 E9
  go_wp2_with fail
  exact hK.out _ _ ⟨rfl, HS.out.above (Gnd.le.trans hGG hG9)⟩
theorem payloadSame_walk (w : World) (v0 v1 : Value) (h0 : ∃ d, ArgV w (Ty.agg [.int .i64, .int .i64, .int .i64, .sl 1 (.int .u8)]) v0 d) (h1 : ∃ d, ArgV w (Ty.agg [.int .i64, .int .i64, .int .i64, .sl 1 (.int .u8)]) v1 d) :
    Calls Try.prog 6 #[v0, v1] w fun e w' => e = .returned (.bool true) ∧ Below w.heap.size w w' := by
  obtain ⟨_, h0⟩ := h0
  obtain ⟨k, fl, s, u, bs, rfl, hb, -⟩ := arg_fr h0
  obtain ⟨_, h1⟩ := h1
  obtain ⟨k2, fl2, s2, u2, cs, rfl, hcb, -⟩ := arg_fr h1
  clear h0 h1
  obtain ⟨A, c, rfl, -, -, -⟩ := hb.form
  obtain ⟨B, d, rfl, -, -, -⟩ := hcb.form
  by_cases hout : 200 < bs.length ∨ 200 < cs.length
  · exact ps_big w k fl s k2 fl2 s2 A B bs cs c d hout
  cases hxy : itEq (parseS k fl s bs).x (parseS k2 fl2 s2 cs).x (parseS k fl s bs).t (parseS k2 fl2 s2 cs).t (parseS k fl s bs).ps (parseS k2 fl2 s2 cs).ps with
  | true => exact ps_t w k fl s k2 fl2 s2 A B bs cs c d hb hcb hout hxy
  | false => exact ps_f w k fl s k2 fl2 s2 A B bs cs c d hb hcb hout hxy
end Go.Proofs.Ytdfdcenbpanegaa
