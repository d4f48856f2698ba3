/- Chapter 10: the law's same, walked: an item and the document's one that says just that. -/
import Derived.Test.YtdfdcenbpanegaaRp0
import Derived.Test.YtdfdcenbpanegaaOpt
set_option linter.unusedSimpArgs false
set_option linter.unusedVariables false
namespace Go.Proofs.Ytdfdcenbpanegaa
open Go.RowKit

theorem law_number (b : Bool) (w : World) : Calls Try.prog 24 #[.bool b] w fun e w' => e = .returned (.int .i64 (b2i b)) ∧ w = w' := by
  refine calls_any fun K hK => ?_
  cases b with
  | true =>
    go_enter Try.func24, Try.ntmps24
    go_wp2_with fail
    exact hK.out _ _ ⟨rfl, rfl⟩
  | false =>
    go_enter Try.func24, Try.ntmps24
    go_wp2_with fail
    exact hK.out _ _ ⟨rfl, rfl⟩
theorem eq8_self (p0 p1 p2 p3 p4 p5 p6 p7 : Int) (w : World) : (Op.equalIn 10000 51 (.agg #[.int .i64 p0, .int .i64 p1, .int .i64 p2, .int .i64 p3, .int .i64 p4, .int .i64 p5, .int .i64 p6, .int .i64 p7]) (.agg #[.int .i64 p0, .int .i64 p1, .int .i64 p2, .int .i64 p3, .int .i64 p4, .int .i64 p5, .int .i64 p6, .int .i64 p7])).run Try.prog w = .ok true w := by
  have h := eq_arr8 p0 p1 p2 p3 p4 p5 p6 p7 p0 p1 p2 p3 p4 p5 p6 p7 w
  rw [decide_eq_true (by simp)] at h
  exact h
theorem eq2_self (p0 p1 : Int) (w : World) : (Op.equalIn 10000 50 (.agg #[.int .i64 p0, .int .i64 p1]) (.agg #[.int .i64 p0, .int .i64 p1])).run Try.prog w = .ok true w := by
  have h := eq_arr2 p0 p1 p0 p1 w
  rw [decide_eq_true (by simp)] at h
  exact h
theorem eq5_self (p0 p1 p2 p3 p4 : Int) (w : World) : (Op.equalIn 10000 53 (.agg #[.int .i64 p0, .int .i64 p1, .int .i64 p2, .int .i64 p3, .int .i64 p4]) (.agg #[.int .i64 p0, .int .i64 p1, .int .i64 p2, .int .i64 p3, .int .i64 p4])).run Try.prog w = .ok true w := by
  have hu := Try.underlying3
  have ha := Try.isAgg3
  have hz := Try.sizeOf3
  rw [show (10000 : Nat) = 9999 + 1 from rfl, Op.equalIn]
  simp only [Sem.run_bind, run_underlying Try.underlying53, Result.andThen_ok]
  simp only [Std.Legacy.Range.forIn_eq_forIn_range', Std.Legacy.Range.size, Nat.sub_zero, Nat.add_sub_cancel, Nat.div_one, List.range'_succ, List.range'_zero, List.forIn_cons, List.forIn_nil]
  go_simp
def HCn (f : Nat → Bool) : Prop := f 17 = true → f 16 = true
section
variable {G : Gnd} {w : World} {l : List Asrt}
set_option maxHeartbeats 8000000 in
set_option maxRecDepth 100000 in
theorem law_same (H : Sat G w l) (x : ItS) (v u q : Value) (t : List UInt8) (ps : List (Int × Int)) (ht : SlB (cellR G.ro) v t) (hp : RPr G.ro u ps) (hq : RPr G.ro q ps) :
    Calls Try.prog 12 #[.agg (x.cs v u), .agg (x.rs t q)] w fun e w' => e = .returned (.bool true) ∧ Sat G w' l := by
  refine calls_any fun K hK => ?_
  have HT := Lib.hid ht
  obtain ⟨VA, vc, rfl, -, -, -⟩ := ht.form
  obtain ⟨UA, uc, rfl, hu1, hu2, hue⟩ := hp
  obtain ⟨QA, qc, rfl, hq1, hq2, hqe⟩ := hq
  obtain ⟨tn, htn⟩ : ∃ tn, tn = t.length := ⟨_, rfl⟩
  obtain ⟨pn, hpn⟩ : ∃ pn, pn = ps.length := ⟨_, rfl⟩
  rw [← hpn] at hu1 hq1
  rw [← htn, ← hpn]
  have HTN := Lib.hid htn
  have HPN := Lib.hid hpn
  have HUE := Lib.hid hue
  have HQE := Lib.hid hqe
  have huc : uc ≤ 9223372036854775807 := hu2
  have hqc : qc ≤ 9223372036854775807 := hq2
  clear ht hue hqe htn hpn hu2 hq2
  obtain ⟨k, s, e, ll, a, fl, code, last, inc, dep, wgt, wd, ex⟩ := x
  have S1 := (H.newBlk #[.int .i64 k, .int .i64 s, .slice VA tn vc, .bool e, .bool ll, .bool a, .int .i64 fl, .int .i64 code, .int .i64 last, .int .i64 inc, .int .i64 dep, .int .i64 wgt, .bool wd, .bool ex, .slice UA pn uc] 28).newBlk #[.int .i64 k, .int .i64 s, .string (bstr t), .int .i64 (b2i e), .int .i64 (b2i ll), .int .i64 (b2i a), .int .i64 fl, .int .i64 code, .int .i64 last, .int .i64 inc, .int .i64 dep, .int .i64 wgt, .int .i64 (b2i wd), .int .i64 (b2i ex), .slice QA pn qc] 35
  simp only [World.size_alloc] at S1
  clear H
  show Calls _ _ #[.agg #[.int .i64 k, .int .i64 s, .slice VA tn vc, .bool e, .bool ll, .bool a, .int .i64 fl, .int .i64 code, .int .i64 last, .int .i64 inc, .int .i64 dep, .int .i64 wgt, .bool wd, .bool ex, .slice UA pn uc], .agg #[.int .i64 k, .int .i64 s, .string (bstr t), .int .i64 (b2i e), .int .i64 (b2i ll), .int .i64 (b2i a), .int .i64 fl, .int .i64 code, .int .i64 last, .int .i64 inc, .int .i64 dep, .int .i64 wgt, .int .i64 (b2i wd), .int .i64 (b2i ex), .slice QA pn qc]] _ _
  go_enter Try.func12, Try.ntmps12
  go_upto_region 1 with fail
  generalize w.heap.size + 1 = a3 at *
  generalize w.heap.size = a2 at *
  refine wp_world S1 fun w2 S2 => ?_
  clear S1
  have c14 := S2.swap.cell 14
  have d14 := S2.cell 14
  have hpb : pn ≤ 9223372036854775807 := by omega
  go_wp2_with fail
  go_loopw [19] (fun i wr => ∃ j : Nat, j ≤ pn ∧ i = .int .i64 j ∧ Sat G wr (blk a3 #[.int .i64 k, .int .i64 s, .string (bstr t), .int .i64 (b2i e), .int .i64 (b2i ll), .int .i64 (b2i a), .int .i64 fl, .int .i64 code, .int .i64 last, .int .i64 inc, .int .i64 dep, .int .i64 wgt, .int .i64 (b2i wd), .int .i64 (b2i ex), .slice QA pn qc] 35 :: blk a2 #[.int .i64 k, .int .i64 s, .slice VA tn vc, .bool e, .bool ll, .bool a, .int .i64 fl, .int .i64 code, .int .i64 last, .int .i64 inc, .int .i64 dep, .int .i64 wgt, .bool wd, .bool ex, .slice UA pn uc] 28 :: l)) (fun i _ => pn - (intOf i).toNat)
  case atStart => exact ⟨0, Nat.zero_le _, rfl, S2⟩
  case round =>
    obtain ⟨j, hj, rfl, S3⟩ := hrel
    clear S2 c14 d14
    by_cases hlt : j < pn
    · obtain ⟨p, hpj⟩ : ∃ p, ps[j]? = some p := ⟨_, List.getElem?_eq_getElem (by rw [← HPN.out]; exact hlt)⟩
      obtain ⟨gu, rfl, x0, x1⟩ := HUE.out j p hpj
      obtain ⟨gq, rfl, y0, y1⟩ := HQE.out j p hpj
      obtain ⟨p1, p2⟩ := p
      have HX := Lib.hid fun (W : World) (l : List Asrt) (S : Sat G W l) => And.intro (S.cellR x0) (S.cellR x1)
      have HY := Lib.hid fun (W : World) (l : List Asrt) (S : Sat G W l) => And.intro (S.cellR y0) (S.cellR y1)
      have hlt2 : (j : Int) < (pn : Int) := by omega
      have HEQ := Lib.hid fun W : World => eq2_self p1 p2 W
      clear x0 x1 y0 y1 hpj
      go_wp2_with fail
      refine wp_act fun a0 ha0 => ?_
      have HSZ : a0.tmps.size = 110 := by rw [ha0]; rfl
      have E2 : a0.eval (.tmp 2) = .pointer (some ⟨a2, 0, none⟩) := by rw [ha0]; rfl
      have E3 : a0.eval (.tmp 3) = .pointer (some ⟨a3, 0, none⟩) := by rw [ha0]; rfl
      have E5 : a0.eval (.tmp 5) = .int .i64 j := by rw [ha0]; rfl
      refine wp_region_J (by kernel_rfl) 11 (by kernel_rfl) [[], [0], [], [1, 2], [3], [], [5], [], [6, 7], [8], [4, 9]] (by kernel_rfl) (by kernel_rfl) (fun f a' W => a' = acts [(0, 22, .pointer (some ⟨a2, 14, none⟩)), (1, 23, .slice (some ⟨gu, 0, none⟩) pn uc), (2, 24, .int .i64 j), (3, 25, .pointer (some ⟨gu, j * 2, none⟩)), (4, 26, .agg #[.int .i64 p1, .int .i64 p2]), (5, 27, .pointer (some ⟨a3, 14, none⟩)), (6, 28, .slice (some ⟨gq, 0, none⟩) pn qc), (7, 29, .int .i64 j), (8, 30, .pointer (some ⟨gq, j * 2, none⟩)), (9, 31, .agg #[.int .i64 p1, .int .i64 p2]), (10, 32, .bool false)] f a0 ∧ Sat G W (blk a3 #[.int .i64 k, .int .i64 s, .string (bstr t), .int .i64 (b2i e), .int .i64 (b2i ll), .int .i64 (b2i a), .int .i64 fl, .int .i64 code, .int .i64 last, .int .i64 inc, .int .i64 dep, .int .i64 wgt, .int .i64 (b2i wd), .int .i64 (b2i ex), .slice (some ⟨gq, 0, none⟩) pn qc] 35 :: blk a2 #[.int .i64 k, .int .i64 s, .slice VA tn vc, .bool e, .bool ll, .bool a, .int .i64 fl, .int .i64 code, .int .i64 last, .int .i64 inc, .int .i64 dep, .int .i64 wgt, .bool wd, .bool ex, .slice (some ⟨gu, 0, none⟩) pn uc] 28 :: l)) ?_ ?_ ?_
      · exact ⟨rfl, S3.drew⟩
      · refine ⟨?_, ?_, ?_, ?_, ?_, ?_, ?_, ?_, ?_, ?_, ?_, trivial⟩
        · rintro f a' W h0 hd ⟨rfl, S⟩
          refine wpOp_run (v := .pointer (some ⟨a2, 14, none⟩)) rfl rfl (fun ρ hρ => ?_) ⟨(acts_some 0 rfl (by kernel_rfl) (by kernel_rfl)).symm, S⟩
          have e0 : ρ (.tmp 2) = .pointer (some ⟨a2, 0, none⟩) := by rw [hρ]; exact (acts_eval_tmp 2 (by kernel_rfl)).trans E2
          clear hρ
          go_simp
        · rintro f a' W h1 hd ⟨rfl, S⟩
          refine wpOp_run (v := .slice (some ⟨gu, 0, none⟩) pn uc) rfl rfl (fun ρ hρ => ?_) ⟨(acts_some 1 rfl (by kernel_rfl) (by kernel_rfl)).symm, S⟩
          have e0 : ρ (.tmp 22) = .pointer (some ⟨a2, 14, none⟩) := by rw [hρ]; exact acts_eval_hit 0 rfl hd.1 (by rw [HSZ]; rfl) (by kernel_rfl)
          clear hρ
          (have z : W.cell? ⟨a2, 14, none⟩ = _ := S.swap.cell 14)
          go_simp
        · rintro f a' W h2 hd ⟨rfl, S⟩
          refine wpOp_run (v := .int .i64 j) rfl rfl (fun ρ hρ => ?_) ⟨(acts_some 2 rfl (by kernel_rfl) (by kernel_rfl)).symm, S⟩
          have e0 : ρ (.tmp 5) = .int .i64 j := by rw [hρ]; exact (acts_eval_tmp 5 (by kernel_rfl)).trans E5
          clear hρ
          go_simp
        · rintro f a' W h3 hd ⟨rfl, S⟩
          refine wpOp_run (v := .pointer (some ⟨gu, j * 2, none⟩)) rfl rfl (fun ρ hρ => ?_) ⟨(acts_some 3 rfl (by kernel_rfl) (by kernel_rfl)).symm, S⟩
          have e0 : ρ (.tmp 23) = .slice (some ⟨gu, 0, none⟩) pn uc := by rw [hρ]; exact acts_eval_hit 1 rfl hd.1 (by rw [HSZ]; rfl) (by kernel_rfl)
          have e1 : ρ (.tmp 24) = .int .i64 j := by rw [hρ]; exact acts_eval_hit 2 rfl hd.2.1 (by rw [HSZ]; rfl) (by kernel_rfl)
          clear hρ
          go_simp
        · rintro f a' W h4 hd ⟨rfl, S⟩
          refine wpOp_run (v := .agg #[.int .i64 p1, .int .i64 p2]) rfl rfl (fun ρ hρ => ?_) ⟨(acts_some 4 rfl (by kernel_rfl) (by kernel_rfl)).symm, S⟩
          have e0 : ρ (.tmp 25) = .pointer (some ⟨gu, j * 2, none⟩) := by rw [hρ]; exact acts_eval_hit 3 rfl hd.1 (by rw [HSZ]; rfl) (by kernel_rfl)
          clear hρ
          (have z0 := (HX.out W _ S).1; have z1 := (HX.out W _ S).2)
          go_simp
        · rintro f a' W h5 hd ⟨rfl, S⟩
          refine wpOp_run (v := .pointer (some ⟨a3, 14, none⟩)) rfl rfl (fun ρ hρ => ?_) ⟨(acts_some 5 rfl (by kernel_rfl) (by kernel_rfl)).symm, S⟩
          have e0 : ρ (.tmp 3) = .pointer (some ⟨a3, 0, none⟩) := by rw [hρ]; exact (acts_eval_tmp 3 (by kernel_rfl)).trans E3
          clear hρ
          go_simp
        · rintro f a' W h6 hd ⟨rfl, S⟩
          refine wpOp_run (v := .slice (some ⟨gq, 0, none⟩) pn qc) rfl rfl (fun ρ hρ => ?_) ⟨(acts_some 6 rfl (by kernel_rfl) (by kernel_rfl)).symm, S⟩
          have e0 : ρ (.tmp 27) = .pointer (some ⟨a3, 14, none⟩) := by rw [hρ]; exact acts_eval_hit 5 rfl hd.1 (by rw [HSZ]; rfl) (by kernel_rfl)
          clear hρ
          (have z : W.cell? ⟨a3, 14, none⟩ = _ := S.cell 14)
          go_simp
        · rintro f a' W h7 hd ⟨rfl, S⟩
          refine wpOp_run (v := .int .i64 j) rfl rfl (fun ρ hρ => ?_) ⟨(acts_some 7 rfl (by kernel_rfl) (by kernel_rfl)).symm, S⟩
          have e0 : ρ (.tmp 5) = .int .i64 j := by rw [hρ]; exact (acts_eval_tmp 5 (by kernel_rfl)).trans E5
          clear hρ
          go_simp
        · rintro f a' W h8 hd ⟨rfl, S⟩
          refine wpOp_run (v := .pointer (some ⟨gq, j * 2, none⟩)) rfl rfl (fun ρ hρ => ?_) ⟨(acts_some 8 rfl (by kernel_rfl) (by kernel_rfl)).symm, S⟩
          have e0 : ρ (.tmp 28) = .slice (some ⟨gq, 0, none⟩) pn qc := by rw [hρ]; exact acts_eval_hit 6 rfl hd.1 (by rw [HSZ]; rfl) (by kernel_rfl)
          have e1 : ρ (.tmp 29) = .int .i64 j := by rw [hρ]; exact acts_eval_hit 7 rfl hd.2.1 (by rw [HSZ]; rfl) (by kernel_rfl)
          clear hρ
          go_simp
        · rintro f a' W h9 hd ⟨rfl, S⟩
          refine wpOp_run (v := .agg #[.int .i64 p1, .int .i64 p2]) rfl rfl (fun ρ hρ => ?_) ⟨(acts_some 9 rfl (by kernel_rfl) (by kernel_rfl)).symm, S⟩
          have e0 : ρ (.tmp 30) = .pointer (some ⟨gq, j * 2, none⟩) := by rw [hρ]; exact acts_eval_hit 8 rfl hd.1 (by rw [HSZ]; rfl) (by kernel_rfl)
          clear hρ
          (have z0 := (HY.out W _ S).1; have z1 := (HY.out W _ S).2)
          go_simp
        · rintro f a' W h10 hd ⟨rfl, S⟩
          refine wpOp_run (v := .bool false) rfl rfl (fun ρ hρ => ?_) ⟨(acts_some 10 rfl (by kernel_rfl) (by kernel_rfl)).symm, S⟩
          have e0 : ρ (.tmp 26) = .agg #[.int .i64 p1, .int .i64 p2] := by rw [hρ]; exact acts_eval_hit 4 rfl hd.1 (by rw [HSZ]; rfl) (by kernel_rfl)
          have e1 : ρ (.tmp 31) = .agg #[.int .i64 p1, .int .i64 p2] := by rw [hρ]; exact acts_eval_hit 9 rfl hd.2.1 (by rw [HSZ]; rfl) (by kernel_rfl)
          clear hρ
          (have z0 := HEQ.out W)
          go_simp
      · rintro a' W ⟨rfl, S4⟩
        subst ha0
        simp only [acts, if_true, Act.put, List.setIfInBounds_toArray, List.set_cons_succ, List.set_cons_zero]
        have HS := Lib.hid S4
        have hwj : IntKind.i64.wrap ((j : Int) + 1) = ((j + 1 : Nat) : Int) := by rw [IntWalk.i64_in _ (by omega)]; omega
        clear S3 S4 HSZ E2 E3 E5
        go_wp2_with fail
        go_roundw
        case rel => exact ⟨j + 1, by omega, (by first | rfl | trivial), HS.out⟩
        case measure => simp [intOf]; omega
    · obtain rfl : pn = j := by omega
      have x0 := S3.swap.cell 0
      have x1 := S3.swap.cell 1
      have x6 := S3.swap.cell 6
      have x7 := S3.swap.cell 7
      have x8 := S3.swap.cell 8
      have x9 := S3.swap.cell 9
      have x10 := S3.swap.cell 10
      have x11 := S3.swap.cell 11
      have S4 := S3.newBlk #[.int .i64 k, .int .i64 s, .int .i64 fl, .int .i64 code, .int .i64 last, .int .i64 inc, .int .i64 dep, .int .i64 wgt] 51
      have y0 := S4.swap.cell 0
      have y1 := S4.swap.cell 1
      have y6 := S4.swap.cell 6
      have y7 := S4.swap.cell 7
      have y8 := S4.swap.cell 8
      have y9 := S4.swap.cell 9
      have y10 := S4.swap.cell 10
      have y11 := S4.swap.cell 11
      have S5 := S4.newBlk #[.int .i64 k, .int .i64 s, .int .i64 fl, .int .i64 code, .int .i64 last, .int .i64 inc, .int .i64 dep, .int .i64 wgt] 51
      simp only [World.size_alloc] at S5
      clear S3
      go_upto_region 11 with fail
      generalize wr.heap.size + 1 = a7 at *
      generalize wr.heap.size = a6 at *
      refine wp_world S5 fun w5 S6 => ?_
      clear S4 S5 x0 x1 x6 x7 x8 x9 x10 x11 y0 y1 y6 y7 y8 y9 y10 y11
      refine wp_act fun a0 ha0 => ?_
      have HSZ : a0.tmps.size = 110 := by rw [ha0]; rfl
      have E2 : a0.eval (.tmp 2) = .pointer (some ⟨a2, 0, none⟩) := by rw [ha0]; rfl
      refine wp_region_J (by kernel_rfl) 18 (by kernel_rfl) [[], [0], [1], [], [3], [4, 2], [], [6], [7, 5], [], [9], [10, 8], [], [12], [13, 11], [2, 5, 8, 11, 14], [], [16, 15, 14, 0, 1, 2, 3, 4, 5, 6, 7, 8, 9, 10, 11, 12, 13, 14, 15, 16]] (by kernel_rfl) (by kernel_rfl) (fun f a' W => ∃ a8, HCn f ∧ a' = acts [(0, 68, .pointer (some ⟨a2, 3, none⟩)), (1, 69, .bool e), (2, 70, .int .i64 (b2i e)), (3, 71, .pointer (some ⟨a2, 4, none⟩)), (4, 72, .bool ll), (5, 73, .int .i64 (b2i ll)), (6, 74, .pointer (some ⟨a2, 5, none⟩)), (7, 75, .bool a), (8, 76, .int .i64 (b2i a)), (9, 77, .pointer (some ⟨a2, 12, none⟩)), (10, 78, .bool wd), (11, 79, .int .i64 (b2i wd)), (12, 80, .pointer (some ⟨a2, 13, none⟩)), (13, 81, .bool ex), (14, 82, .int .i64 (b2i ex)), (15, 83, .agg #[.int .i64 (b2i e), .int .i64 (b2i ll), .int .i64 (b2i a), .int .i64 (b2i wd), .int .i64 (b2i ex)]), (16, 8, .pointer (some ⟨a8, 0, none⟩))] f a0 ∧ Sat G W (opt (f 16) (blk a8 (cond (f 17) #[.int .i64 (b2i e), .int .i64 (b2i ll), .int .i64 (b2i a), .int .i64 (b2i wd), .int .i64 (b2i ex)] #[.int .i64 0, .int .i64 0, .int .i64 0, .int .i64 0, .int .i64 0]) 53) :: blk a7 #[.int .i64 k, .int .i64 s, .int .i64 fl, .int .i64 code, .int .i64 last, .int .i64 inc, .int .i64 dep, .int .i64 wgt] 51 :: blk a6 #[.int .i64 k, .int .i64 s, .int .i64 fl, .int .i64 code, .int .i64 last, .int .i64 inc, .int .i64 dep, .int .i64 wgt] 51 :: blk a3 #[.int .i64 k, .int .i64 s, .string (bstr t), .int .i64 (b2i e), .int .i64 (b2i ll), .int .i64 (b2i a), .int .i64 fl, .int .i64 code, .int .i64 last, .int .i64 inc, .int .i64 dep, .int .i64 wgt, .int .i64 (b2i wd), .int .i64 (b2i ex), .slice QA pn qc] 35 :: blk a2 #[.int .i64 k, .int .i64 s, .slice VA tn vc, .bool e, .bool ll, .bool a, .int .i64 fl, .int .i64 code, .int .i64 last, .int .i64 inc, .int .i64 dep, .int .i64 wgt, .bool wd, .bool ex, .slice UA pn uc] 28 :: l)) ?_ ?_ ?_
      · exact ⟨0, (by unfold HCn; decide), rfl, S6.drew.opt0⟩
      · refine ⟨?_, ?_, ?_, ?_, ?_, ?_, ?_, ?_, ?_, ?_, ?_, ?_, ?_, ?_, ?_, ?_, ?_, ?_, trivial⟩
        · rintro f a' W h0 hd ⟨a8, hh, rfl, S⟩
          refine wpOp_run (v := .pointer (some ⟨a2, 3, none⟩)) rfl rfl (fun ρ hρ => ?_) ⟨a8, hh, (acts_some 0 rfl (by kernel_rfl) (by kernel_rfl)).symm, S⟩
          have e0 : ρ (.tmp 2) = .pointer (some ⟨a2, 0, none⟩) := by rw [hρ]; exact (acts_eval_tmp 2 (by kernel_rfl)).trans E2
          clear hρ
          go_simp
        · rintro f a' W h1 hd ⟨a8, hh, rfl, S⟩
          refine wpOp_run (v := .bool e) rfl rfl (fun ρ hρ => ?_) ⟨a8, hh, (acts_some 1 rfl (by kernel_rfl) (by kernel_rfl)).symm, S⟩
          have e0 : ρ (.tmp 68) = .pointer (some ⟨a2, 3, none⟩) := by rw [hρ]; exact acts_eval_hit 0 rfl hd.1 (by rw [HSZ]; rfl) (by kernel_rfl)
          clear hρ
          (have z : W.cell? ⟨a2, 3, none⟩ = _ := (S.re [4, 0, 1, 2, 3]).cell 3)
          go_simp
        · rintro f a' W h2 hd ⟨a8, hh, rfl, S⟩
          refine wpOp_call rfl rfl (fun ρ hρ => ?_) ((law_number e W)) ?_
          · skip
            have e0 : ρ (.tmp 69) = .bool e := by rw [hρ]; exact acts_eval_hit 1 rfl hd.1 (by rw [HSZ]; rfl) (by kernel_rfl)
            have ef : ρ (.func 24) = .func (.func 24) #[] #[] := by rw [hρ]; rfl
            clear hρ
            go_simp
          · (rintro x W' ⟨rfl, rfl⟩; exact ⟨_, rfl, a8, hh, acts_swap rfl (k := 2) rfl (by kernel_rfl) (by kernel_rfl), S⟩)
        · rintro f a' W h3 hd ⟨a8, hh, rfl, S⟩
          refine wpOp_run (v := .pointer (some ⟨a2, 4, none⟩)) rfl rfl (fun ρ hρ => ?_) ⟨a8, hh, (acts_some 3 rfl (by kernel_rfl) (by kernel_rfl)).symm, S⟩
          have e0 : ρ (.tmp 2) = .pointer (some ⟨a2, 0, none⟩) := by rw [hρ]; exact (acts_eval_tmp 2 (by kernel_rfl)).trans E2
          clear hρ
          go_simp
        · rintro f a' W h4 hd ⟨a8, hh, rfl, S⟩
          refine wpOp_run (v := .bool ll) rfl rfl (fun ρ hρ => ?_) ⟨a8, hh, (acts_some 4 rfl (by kernel_rfl) (by kernel_rfl)).symm, S⟩
          have e0 : ρ (.tmp 71) = .pointer (some ⟨a2, 4, none⟩) := by rw [hρ]; exact acts_eval_hit 3 rfl hd.1 (by rw [HSZ]; rfl) (by kernel_rfl)
          clear hρ
          (have z : W.cell? ⟨a2, 4, none⟩ = _ := (S.re [4, 0, 1, 2, 3]).cell 4)
          go_simp
        · rintro f a' W h5 hd ⟨a8, hh, rfl, S⟩
          refine wpOp_call rfl rfl (fun ρ hρ => ?_) ((law_number ll W)) ?_
          · skip
            have e0 : ρ (.tmp 72) = .bool ll := by rw [hρ]; exact acts_eval_hit 4 rfl hd.1 (by rw [HSZ]; rfl) (by kernel_rfl)
            have ef : ρ (.func 24) = .func (.func 24) #[] #[] := by rw [hρ]; rfl
            clear hρ
            go_simp
          · (rintro x W' ⟨rfl, rfl⟩; exact ⟨_, rfl, a8, hh, acts_swap rfl (k := 5) rfl (by kernel_rfl) (by kernel_rfl), S⟩)
        · rintro f a' W h6 hd ⟨a8, hh, rfl, S⟩
          refine wpOp_run (v := .pointer (some ⟨a2, 5, none⟩)) rfl rfl (fun ρ hρ => ?_) ⟨a8, hh, (acts_some 6 rfl (by kernel_rfl) (by kernel_rfl)).symm, S⟩
          have e0 : ρ (.tmp 2) = .pointer (some ⟨a2, 0, none⟩) := by rw [hρ]; exact (acts_eval_tmp 2 (by kernel_rfl)).trans E2
          clear hρ
          go_simp
        · rintro f a' W h7 hd ⟨a8, hh, rfl, S⟩
          refine wpOp_run (v := .bool a) rfl rfl (fun ρ hρ => ?_) ⟨a8, hh, (acts_some 7 rfl (by kernel_rfl) (by kernel_rfl)).symm, S⟩
          have e0 : ρ (.tmp 74) = .pointer (some ⟨a2, 5, none⟩) := by rw [hρ]; exact acts_eval_hit 6 rfl hd.1 (by rw [HSZ]; rfl) (by kernel_rfl)
          clear hρ
          (have z : W.cell? ⟨a2, 5, none⟩ = _ := (S.re [4, 0, 1, 2, 3]).cell 5)
          go_simp
        · rintro f a' W h8 hd ⟨a8, hh, rfl, S⟩
          refine wpOp_call rfl rfl (fun ρ hρ => ?_) ((law_number a W)) ?_
          · skip
            have e0 : ρ (.tmp 75) = .bool a := by rw [hρ]; exact acts_eval_hit 7 rfl hd.1 (by rw [HSZ]; rfl) (by kernel_rfl)
            have ef : ρ (.func 24) = .func (.func 24) #[] #[] := by rw [hρ]; rfl
            clear hρ
            go_simp
          · (rintro x W' ⟨rfl, rfl⟩; exact ⟨_, rfl, a8, hh, acts_swap rfl (k := 8) rfl (by kernel_rfl) (by kernel_rfl), S⟩)
        · rintro f a' W h9 hd ⟨a8, hh, rfl, S⟩
          refine wpOp_run (v := .pointer (some ⟨a2, 12, none⟩)) rfl rfl (fun ρ hρ => ?_) ⟨a8, hh, (acts_some 9 rfl (by kernel_rfl) (by kernel_rfl)).symm, S⟩
          have e0 : ρ (.tmp 2) = .pointer (some ⟨a2, 0, none⟩) := by rw [hρ]; exact (acts_eval_tmp 2 (by kernel_rfl)).trans E2
          clear hρ
          go_simp
        · rintro f a' W h10 hd ⟨a8, hh, rfl, S⟩
          refine wpOp_run (v := .bool wd) rfl rfl (fun ρ hρ => ?_) ⟨a8, hh, (acts_some 10 rfl (by kernel_rfl) (by kernel_rfl)).symm, S⟩
          have e0 : ρ (.tmp 77) = .pointer (some ⟨a2, 12, none⟩) := by rw [hρ]; exact acts_eval_hit 9 rfl hd.1 (by rw [HSZ]; rfl) (by kernel_rfl)
          clear hρ
          (have z : W.cell? ⟨a2, 12, none⟩ = _ := (S.re [4, 0, 1, 2, 3]).cell 12)
          go_simp
        · rintro f a' W h11 hd ⟨a8, hh, rfl, S⟩
          refine wpOp_call rfl rfl (fun ρ hρ => ?_) ((law_number wd W)) ?_
          · skip
            have e0 : ρ (.tmp 78) = .bool wd := by rw [hρ]; exact acts_eval_hit 10 rfl hd.1 (by rw [HSZ]; rfl) (by kernel_rfl)
            have ef : ρ (.func 24) = .func (.func 24) #[] #[] := by rw [hρ]; rfl
            clear hρ
            go_simp
          · (rintro x W' ⟨rfl, rfl⟩; exact ⟨_, rfl, a8, hh, acts_swap rfl (k := 11) rfl (by kernel_rfl) (by kernel_rfl), S⟩)
        · rintro f a' W h12 hd ⟨a8, hh, rfl, S⟩
          refine wpOp_run (v := .pointer (some ⟨a2, 13, none⟩)) rfl rfl (fun ρ hρ => ?_) ⟨a8, hh, (acts_some 12 rfl (by kernel_rfl) (by kernel_rfl)).symm, S⟩
          have e0 : ρ (.tmp 2) = .pointer (some ⟨a2, 0, none⟩) := by rw [hρ]; exact (acts_eval_tmp 2 (by kernel_rfl)).trans E2
          clear hρ
          go_simp
        · rintro f a' W h13 hd ⟨a8, hh, rfl, S⟩
          refine wpOp_run (v := .bool ex) rfl rfl (fun ρ hρ => ?_) ⟨a8, hh, (acts_some 13 rfl (by kernel_rfl) (by kernel_rfl)).symm, S⟩
          have e0 : ρ (.tmp 80) = .pointer (some ⟨a2, 13, none⟩) := by rw [hρ]; exact acts_eval_hit 12 rfl hd.1 (by rw [HSZ]; rfl) (by kernel_rfl)
          clear hρ
          (have z : W.cell? ⟨a2, 13, none⟩ = _ := (S.re [4, 0, 1, 2, 3]).cell 13)
          go_simp
        · rintro f a' W h14 hd ⟨a8, hh, rfl, S⟩
          refine wpOp_call rfl rfl (fun ρ hρ => ?_) ((law_number ex W)) ?_
          · skip
            have e0 : ρ (.tmp 81) = .bool ex := by rw [hρ]; exact acts_eval_hit 13 rfl hd.1 (by rw [HSZ]; rfl) (by kernel_rfl)
            have ef : ρ (.func 24) = .func (.func 24) #[] #[] := by rw [hρ]; rfl
            clear hρ
            go_simp
          · (rintro x W' ⟨rfl, rfl⟩; exact ⟨_, rfl, a8, hh, acts_swap rfl (k := 14) rfl (by kernel_rfl) (by kernel_rfl), S⟩)
        · rintro f a' W h15 hd ⟨a8, hh, rfl, S⟩
          refine wpOp_run (v := .agg #[.int .i64 (b2i e), .int .i64 (b2i ll), .int .i64 (b2i a), .int .i64 (b2i wd), .int .i64 (b2i ex)]) rfl rfl (fun ρ hρ => ?_) ⟨a8, hh, (acts_some 15 rfl (by kernel_rfl) (by kernel_rfl)).symm, S⟩
          have e0 : ρ (.tmp 70) = .int .i64 (b2i e) := by rw [hρ]; exact acts_eval_hit 2 rfl hd.1 (by rw [HSZ]; rfl) (by kernel_rfl)
          have e1 : ρ (.tmp 73) = .int .i64 (b2i ll) := by rw [hρ]; exact acts_eval_hit 5 rfl hd.2.1 (by rw [HSZ]; rfl) (by kernel_rfl)
          have e2 : ρ (.tmp 76) = .int .i64 (b2i a) := by rw [hρ]; exact acts_eval_hit 8 rfl hd.2.2.1 (by rw [HSZ]; rfl) (by kernel_rfl)
          have e3 : ρ (.tmp 79) = .int .i64 (b2i wd) := by rw [hρ]; exact acts_eval_hit 11 rfl hd.2.2.2.1 (by rw [HSZ]; rfl) (by kernel_rfl)
          have e4 : ρ (.tmp 82) = .int .i64 (b2i ex) := by rw [hρ]; exact acts_eval_hit 14 rfl hd.2.2.2.2.1 (by rw [HSZ]; rfl) (by kernel_rfl)
          clear hρ
          go_simp
        · rintro f a' W h16 hd ⟨a8, hh, rfl, S⟩
          (have z17 := no_of2 hh h16)
          refine wpOp_mem (v := .pointer (some ⟨W.heap.size, 0, none⟩)) (w' := W.alloc (.cells #[.int .i64 0, .int .i64 0, .int .i64 0, .int .i64 0, .int .i64 0] 53)) rfl rfl (fun ρ hρ => ?_) (⟨W.heap.size, fun _ => rfl, acts_swap (by simp only [acts, h16, Bool.false_eq_true, if_false]) (k := 16) rfl (by kernel_rfl) (by kernel_rfl), (by show Sat _ _ (opt true (blk _ (cond (f 17) _ _) _) :: _); rw [z17]; exact Sat.optI rfl (S.newBlk _ _).drop2)⟩)
          clear hρ
          go_simp
        · rintro f a' W h17 hd ⟨a8, hh, rfl, S⟩
          have q8 : (acts [(0, 68, .pointer (some ⟨a2, 3, none⟩)), (1, 69, .bool e), (2, 70, .int .i64 (b2i e)), (3, 71, .pointer (some ⟨a2, 4, none⟩)), (4, 72, .bool ll), (5, 73, .int .i64 (b2i ll)), (6, 74, .pointer (some ⟨a2, 5, none⟩)), (7, 75, .bool a), (8, 76, .int .i64 (b2i a)), (9, 77, .pointer (some ⟨a2, 12, none⟩)), (10, 78, .bool wd), (11, 79, .int .i64 (b2i wd)), (12, 80, .pointer (some ⟨a2, 13, none⟩)), (13, 81, .bool ex), (14, 82, .int .i64 (b2i ex)), (15, 83, .agg #[.int .i64 (b2i e), .int .i64 (b2i ll), .int .i64 (b2i a), .int .i64 (b2i wd), .int .i64 (b2i ex)]), (16, 8, .pointer (some ⟨a8, 0, none⟩))] f a0).eval (.tmp 8) = .pointer (some ⟨a8, 0, none⟩) := acts_eval_hit 16 rfl hd.1 (by rw [HSZ]; rfl) (by kernel_rfl)
          have q83 : (acts [(0, 68, .pointer (some ⟨a2, 3, none⟩)), (1, 69, .bool e), (2, 70, .int .i64 (b2i e)), (3, 71, .pointer (some ⟨a2, 4, none⟩)), (4, 72, .bool ll), (5, 73, .int .i64 (b2i ll)), (6, 74, .pointer (some ⟨a2, 5, none⟩)), (7, 75, .bool a), (8, 76, .int .i64 (b2i a)), (9, 77, .pointer (some ⟨a2, 12, none⟩)), (10, 78, .bool wd), (11, 79, .int .i64 (b2i wd)), (12, 80, .pointer (some ⟨a2, 13, none⟩)), (13, 81, .bool ex), (14, 82, .int .i64 (b2i ex)), (15, 83, .agg #[.int .i64 (b2i e), .int .i64 (b2i ll), .int .i64 (b2i a), .int .i64 (b2i wd), .int .i64 (b2i ex)]), (16, 8, .pointer (some ⟨a8, 0, none⟩))] f a0).eval (.tmp 83) = .agg #[.int .i64 (b2i e), .int .i64 (b2i ll), .int .i64 (b2i a), .int .i64 (b2i wd), .int .i64 (b2i ex)] := acts_eval_hit 15 rfl hd.2.1 (by rw [HSZ]; rfl) (by kernel_rfl)
          (have z16 : f 16 = true := hd.1; rw [z16, h17] at S; refine wpOp_list rfl ?_; refine st_store rfl _ _ _ rfl _ _ q8 q83 _ _ (opt_iff.1 S) (by kernel_rfl) rfl (by simp [Value.oneCell']) fun W' S' => ?_; refine ⟨a8, fun _ => z16, (acts_none 17 (by kernel_rfl)).symm, ?_⟩; show Sat G W' (opt (f 16) _ :: _); rw [z16]; exact opt_iff.2 S')
      · rintro a' W ⟨a8, -, rfl, S7⟩
        subst ha0
        simp only [acts, if_true, Act.put, List.setIfInBounds_toArray, List.set_cons_succ, List.set_cons_zero]
        have S8 : Sat G W (blk a8 #[.int .i64 (b2i e), .int .i64 (b2i ll), .int .i64 (b2i a), .int .i64 (b2i wd), .int .i64 (b2i ex)] 53 :: blk a7 #[.int .i64 k, .int .i64 s, .int .i64 fl, .int .i64 code, .int .i64 last, .int .i64 inc, .int .i64 dep, .int .i64 wgt] 51 :: blk a6 #[.int .i64 k, .int .i64 s, .int .i64 fl, .int .i64 code, .int .i64 last, .int .i64 inc, .int .i64 dep, .int .i64 wgt] 51 :: blk a3 #[.int .i64 k, .int .i64 s, .string (bstr t), .int .i64 (b2i e), .int .i64 (b2i ll), .int .i64 (b2i a), .int .i64 fl, .int .i64 code, .int .i64 last, .int .i64 inc, .int .i64 dep, .int .i64 wgt, .int .i64 (b2i wd), .int .i64 (b2i ex), .slice QA pn qc] 35 :: blk a2 #[.int .i64 k, .int .i64 s, .slice VA tn vc, .bool e, .bool ll, .bool a, .int .i64 fl, .int .i64 code, .int .i64 last, .int .i64 inc, .int .i64 dep, .int .i64 wgt, .bool wd, .bool ex, .slice UA pn uc] 28 :: l) := opt_iff.1 S7
        have m8 := fun j => S8.cell j
        have c80 := S8.cell 0
        have c81 := S8.cell 1
        have c82 := S8.cell 2
        have c83 := S8.cell 3
        have c84 := S8.cell 4
        have T7 := S8.swap
        have T6 := S8.re [2, 0, 1]
        have T3 := S8.re [3, 0, 1, 2]
        have T2 := S8.re [4, 0, 1, 2, 3]
        have c70 := T7.cell 0
        have c60 := T6.cell 0
        have c71 := T7.cell 1
        have c61 := T6.cell 1
        have c72 := T7.cell 2
        have c62 := T6.cell 2
        have c73 := T7.cell 3
        have c63 := T6.cell 3
        have c74 := T7.cell 4
        have c64 := T6.cell 4
        have c75 := T7.cell 5
        have c65 := T6.cell 5
        have c76 := T7.cell 6
        have c66 := T6.cell 6
        have c77 := T7.cell 7
        have c67 := T6.cell 7
        have c32 := T3.cell 2
        have c33 := T3.cell 3
        have c34 := T3.cell 4
        have c35 := T3.cell 5
        have c312 := T3.cell 12
        have c313 := T3.cell 13
        have c22 := T2.cell 2
        have h8 := eq8_self k s fl code last inc dep wgt W
        have h5 := eq5_self (b2i e) (b2i ll) (b2i a) (b2i wd) (b2i ex) W
        have hcv := conv_bytes _ t W (HT.out.sat S8).1
        rw [← HTN.out] at hcv
        have HS := Lib.hid (T2.drop.drop.drop.drop.drop)
        clear m8 S6 S7 S8 T7 T6 T3 T2 HSZ E2
        go_wp2_with fail
        exact hK.out _ _ ⟨rfl, HS.out⟩
end
end Go.Proofs.Ytdfdcenbpanegaa
