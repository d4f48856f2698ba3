/- The walk over the law's same. -/
import Derived.Test.YtkjelbnkfnifgaaStep
set_option linter.unusedSimpArgs false
set_option linter.unusedVariables false
namespace Go.Proofs.Ytkjelbnkfnifgaa
open Go.RowKit

theorem crLeft_at {L : List Int} {k : Nat} (h : k < L.length) : crLeft L k = L.getD k 0 := by
  unfold crLeft crHas
  rw [if_pos (by simp; omega), Int.toNat_natCast]
theorem crLeft_out {L : List Int} {k : Int} (h : k < 0 ∨ (L.length : Int) ≤ k) : crLeft L k = 0 := by
  unfold crLeft crHas
  rw [if_neg (by simp; omega)]
section
variable {G : Gnd} {w w' : World} {l : List Asrt} {p : Nat} {L : List Int} {T : Nat} {v : Value}
set_option maxHeartbeats 4000000 in
set_option maxRecDepth 100000 in
theorem law_same (H : Sat G w (crA p L T :: l)) (gd : Good L) (hv : IntsR G.ro v L) :
    Calls Try.prog 13 #[.pointer (some ⟨p, 0, none⟩), .agg #[v, .int .i64 T]] w fun e w' => ∃ G', e = .returned (.bool true) ∧ G.le G' ∧ Sat G' w' (crA p L T :: l) := by
  refine calls_any fun K hK => ?_
  obtain ⟨A, cv, rfl, hx1, hx2, -⟩ := id hv
  have S1 := (H.newBlk #[.slice A L.length cv, .int .i64 T] 37).swap
  have hp := cr_parts S1 gd
  have g1 := gd.pos
  have g2 := gd.len
  clear H S1
  go_enter Try.func13, Try.ntmps13
  go_wp2_with fail
  (with_reducible refine hp.mono ?_)
  clear hp
  rintro e w1 ⟨v5, G2, rfl, hG2, hv5, S2⟩
  have S3 := S2.swap
  clear S2
  generalize w.heap.size = b at *
  obtain ⟨A5, c5, rfl, hy1, hy2, hel5⟩ := id hv5
  have hvm := hv.mono hG2
  obtain ⟨A', cv', hvA, -, -, helv⟩ := id hvm
  obtain ⟨g5, rfl, -⟩ := hel5 0 (by omega)
  cases hvA
  obtain ⟨gv, rfl, -⟩ := helv 0 (by omega)
  have HC5 : Hid (∀ i, i < L.length → Go.Proofs.Ytkjelbnkfnifgaa.cellR G2.ro ⟨g5, i, none⟩ = some (.int .i64 (L.getD i 0))) := Lib.hid fun i hi => by
    obtain ⟨g, e, h⟩ := hel5 i hi
    cases e; exact h
  have HCV : Hid (∀ i, i < L.length → Go.Proofs.Ytkjelbnkfnifgaa.cellR G2.ro ⟨gv, i, none⟩ = some (.int .i64 (L.getD i 0))) := Lib.hid fun i hi => by
    obtain ⟨g, e, h⟩ := helv i hi
    cases e; exact h
  have HS := Lib.hid (fun (W : World) (l' : List Asrt) (S : Sat G2 W l') => ref_sum S hvm gd)
  have HW := Lib.hid (fun (W : World) (l' : List Asrt) (S : Sat G2 W (crA p L T :: l')) => cr_whole S)
  have HL := Lib.hid (fun (W : World) (l' : List Asrt) (k : Int) (S : Sat G2 W (crA p L T :: l')) => cr_left S g1 k)
  have hy3 : c5 ≤ 9223372036854775807 := hy2
  have hx3 : cv ≤ 9223372036854775807 := hx2
  clear hel5 helv hv5 hvm hv hy2 hx2
  go_upto_region 2 with fail
  refine wp_act fun a0 ha0 => ?_
  have HSZ : a0.tmps.size = 67 := by rw [ha0]; rfl
  have E0 : a0.eval (.tmp 0) = .pointer (some ⟨p, 0, none⟩) := by rw [ha0]; rfl
  have E3 : a0.eval (.tmp 3) = .pointer (some ⟨b, 0, none⟩) := by rw [ha0]; rfl
  have E5 : a0.eval (.tmp 5) = .slice (some ⟨g5, 0, none⟩) L.length c5 := by rw [ha0]; rfl
  refine wp_region_J (by kernel_rfl) 14 (by kernel_rfl) [[], [0], [], [2], [3], [1, 4], [5], [6], [7, 6, 6], [6], [9, 6], [10, 8, 6], [8, 11, 6], [6, 12]] (by kernel_rfl) (by kernel_rfl) (fun f a' W => a' = acts [(0, 9, .slice (some ⟨g5, 0, none⟩) L.length c5), (1, 10, .int .i64 L.length), (2, 11, .pointer (some ⟨b, 0, none⟩)), (3, 12, .slice (some ⟨gv, 0, none⟩) L.length cv), (4, 13, .int .i64 L.length), (5, 14, .bool false), (6, 15, .bool false), (7, 16, .pointer (some ⟨p, 0, none⟩)), (8, 17, .int .i64 (isum L)), (9, 18, .pointer (some ⟨b, 0, none⟩)), (10, 19, .slice (some ⟨gv, 0, none⟩) L.length cv), (11, 20, .int .i64 (isum L)), (12, 21, .bool false), (13, 22, .bool false)] f a0 ∧ Sat G2 W (blk b #[.slice (some ⟨gv, 0, none⟩) L.length cv, .int .i64 T] 37 :: crA p L T :: l)) ?_ ?_ ?_
  · exact ⟨rfl, S3.drew⟩
  · refine ⟨?_, ?_, ?_, ?_, ?_, ?_, ?_, ?_, ?_, ?_, ?_, ?_, ?_, ?_, trivial⟩
    · rintro f a' W h0 hd ⟨rfl, S⟩
      refine wpOp_run (v := .slice (some ⟨g5, 0, none⟩) L.length c5) rfl rfl (fun ρ hρ => ?_) ⟨(acts_some 0 rfl (by kernel_rfl) (by kernel_rfl)).symm, S⟩
      have e0 : ρ (.tmp 5) = .slice (some ⟨g5, 0, none⟩) L.length c5 := by rw [hρ]; exact (acts_eval_tmp 5 (by kernel_rfl)).trans E5
      clear hρ
      go_simp
    · rintro f a' W h1 hd ⟨rfl, S⟩
      refine wpOp_run (v := .int .i64 L.length) rfl rfl (fun ρ hρ => ?_) ⟨(acts_some 1 rfl (by kernel_rfl) (by kernel_rfl)).symm, S⟩
      have e0 : ρ (.tmp 9) = .slice (some ⟨g5, 0, none⟩) L.length c5 := by rw [hρ]; exact acts_eval_hit 0 rfl hd.1 (by rw [HSZ]; rfl) (by kernel_rfl)
      clear hρ
      go_simp
    · rintro f a' W h2 hd ⟨rfl, S⟩
      refine wpOp_run (v := .pointer (some ⟨b, 0, none⟩)) rfl rfl (fun ρ hρ => ?_) ⟨(acts_some 2 rfl (by kernel_rfl) (by kernel_rfl)).symm, S⟩
      have e0 : ρ (.tmp 3) = .pointer (some ⟨b, 0, none⟩) := by rw [hρ]; exact (acts_eval_tmp 3 (by kernel_rfl)).trans E3
      clear hρ
      go_simp
    · rintro f a' W h3 hd ⟨rfl, S⟩
      refine wpOp_run (v := .slice (some ⟨gv, 0, none⟩) L.length cv) rfl rfl (fun ρ hρ => ?_) ⟨(acts_some 3 rfl (by kernel_rfl) (by kernel_rfl)).symm, S⟩
      have e0 : ρ (.tmp 11) = .pointer (some ⟨b, 0, none⟩) := by rw [hρ]; exact acts_eval_hit 2 rfl hd.1 (by rw [HSZ]; rfl) (by kernel_rfl)
      clear hρ
      (have hcl : W.cell? ⟨b, 0, none⟩ = some (.slice (some ⟨gv, 0, none⟩) L.length cv) := S.cell 0)
      go_simp
    · rintro f a' W h4 hd ⟨rfl, S⟩
      refine wpOp_run (v := .int .i64 L.length) rfl rfl (fun ρ hρ => ?_) ⟨(acts_some 4 rfl (by kernel_rfl) (by kernel_rfl)).symm, S⟩
      have e0 : ρ (.tmp 12) = .slice (some ⟨gv, 0, none⟩) L.length cv := by rw [hρ]; exact acts_eval_hit 3 rfl hd.1 (by rw [HSZ]; rfl) (by kernel_rfl)
      clear hρ
      go_simp
    · rintro f a' W h5 hd ⟨rfl, S⟩
      refine wpOp_run (v := .bool false) rfl rfl (fun ρ hρ => ?_) ⟨(acts_some 5 rfl (by kernel_rfl) (by kernel_rfl)).symm, S⟩
      have e0 : ρ (.tmp 10) = .int .i64 L.length := by rw [hρ]; exact acts_eval_hit 1 rfl hd.1 (by rw [HSZ]; rfl) (by kernel_rfl)
      have e1 : ρ (.tmp 13) = .int .i64 L.length := by rw [hρ]; exact acts_eval_hit 4 rfl hd.2.1 (by rw [HSZ]; rfl) (by kernel_rfl)
      clear hρ
      go_simp
    · rintro f a' W h6 hd ⟨rfl, S⟩
      refine wpOp_run (v := .bool false) rfl rfl (fun ρ hρ => ?_) ⟨(acts_some 6 rfl (by kernel_rfl) (by kernel_rfl)).symm, S⟩
      have e0 : ρ (.tmp 14) = .bool false := by rw [hρ]; exact acts_eval_hit 5 rfl hd.1 (by rw [HSZ]; rfl) (by kernel_rfl)
      clear hρ
      go_simp
    · rintro f a' W h7 hd ⟨rfl, S⟩
      refine wpOp_runG (v := .pointer (some ⟨p, 0, none⟩)) rfl ?_ (fun ρ hρ => ?_) ⟨(acts_some 7 rfl (by kernel_rfl) (by kernel_rfl)).symm, S⟩
      · exact wanted_hit (t := 15) rfl rfl (acts_eval_hit 6 rfl hd.1 (by rw [HSZ]; rfl) (by kernel_rfl))
      · skip
        have e0 : ρ (.tmp 0) = .pointer (some ⟨p, 0, none⟩) := by rw [hρ]; exact (acts_eval_tmp 0 (by kernel_rfl)).trans E0
        clear hρ
        go_simp
    · rintro f a' W h8 hd ⟨rfl, S⟩
      refine wpOp_callG rfl (wanted_hit (t := 15) rfl rfl (acts_eval_hit 6 rfl hd.2.1 (by rw [HSZ]; rfl) (by kernel_rfl))) (fun ρ hρ => ?_) (HW.out _ _ S.swap) ?_
      · skip
        have e0 : ρ (.tmp 16) = .pointer (some ⟨p, 0, none⟩) := by rw [hρ]; exact acts_eval_hit 7 rfl hd.1 (by rw [HSZ]; rfl) (by kernel_rfl)
        have ef : ρ (.func 17) = .func (.func 17) #[] #[] := by rw [hρ]; rfl
        clear hρ
        go_simp
      · (rintro e W' ⟨rfl, hb⟩; exact ⟨_, rfl, acts_swap rfl (k := 8) rfl (by kernel_rfl) (by kernel_rfl), S.below hb⟩)
    · rintro f a' W h9 hd ⟨rfl, S⟩
      refine wpOp_runG (v := .pointer (some ⟨b, 0, none⟩)) rfl ?_ (fun ρ hρ => ?_) ⟨(acts_some 9 rfl (by kernel_rfl) (by kernel_rfl)).symm, S⟩
      · exact wanted_hit (t := 15) rfl rfl (acts_eval_hit 6 rfl hd.1 (by rw [HSZ]; rfl) (by kernel_rfl))
      · skip
        have e0 : ρ (.tmp 3) = .pointer (some ⟨b, 0, none⟩) := by rw [hρ]; exact (acts_eval_tmp 3 (by kernel_rfl)).trans E3
        clear hρ
        go_simp
    · rintro f a' W h10 hd ⟨rfl, S⟩
      refine wpOp_runG (v := .slice (some ⟨gv, 0, none⟩) L.length cv) rfl ?_ (fun ρ hρ => ?_) ⟨(acts_some 10 rfl (by kernel_rfl) (by kernel_rfl)).symm, S⟩
      · exact wanted_hit (t := 15) rfl rfl (acts_eval_hit 6 rfl hd.2.1 (by rw [HSZ]; rfl) (by kernel_rfl))
      · skip
        have e0 : ρ (.tmp 18) = .pointer (some ⟨b, 0, none⟩) := by rw [hρ]; exact acts_eval_hit 9 rfl hd.1 (by rw [HSZ]; rfl) (by kernel_rfl)
        clear hρ
        (have hcl : W.cell? ⟨b, 0, none⟩ = some (.slice (some ⟨gv, 0, none⟩) L.length cv) := S.cell 0)
        go_simp
    · rintro f a' W h11 hd ⟨rfl, S⟩
      refine wpOp_callG rfl (wanted_hit (t := 15) rfl rfl (acts_eval_hit 6 rfl hd.2.2.1 (by rw [HSZ]; rfl) (by kernel_rfl))) (fun ρ hρ => ?_) (HS.out _ _ S) ?_
      · skip
        have e0 : ρ (.tmp 19) = .slice (some ⟨gv, 0, none⟩) L.length cv := by rw [hρ]; exact acts_eval_hit 10 rfl hd.1 (by rw [HSZ]; rfl) (by kernel_rfl)
        have ef : ρ (.func 24) = .func (.func 24) #[] #[] := by rw [hρ]; rfl
        clear hρ
        go_simp
      · (rintro e W' ⟨rfl, rfl⟩; exact ⟨_, rfl, acts_swap rfl (k := 11) rfl (by kernel_rfl) (by kernel_rfl), S⟩)
    · rintro f a' W h12 hd ⟨rfl, S⟩
      refine wpOp_runG (v := .bool false) rfl ?_ (fun ρ hρ => ?_) ⟨(acts_some 12 rfl (by kernel_rfl) (by kernel_rfl)).symm, S⟩
      · exact wanted_hit (t := 15) rfl rfl (acts_eval_hit 6 rfl hd.2.2.1 (by rw [HSZ]; rfl) (by kernel_rfl))
      · skip
        have e0 : ρ (.tmp 17) = .int .i64 (isum L) := by rw [hρ]; exact acts_eval_hit 8 rfl hd.1 (by rw [HSZ]; rfl) (by kernel_rfl)
        have e1 : ρ (.tmp 20) = .int .i64 (isum L) := by rw [hρ]; exact acts_eval_hit 11 rfl hd.2.1 (by rw [HSZ]; rfl) (by kernel_rfl)
        clear hρ
        go_simp
    · rintro f a' W h13 hd ⟨rfl, S⟩
      refine wpOp_run (v := .bool false) rfl rfl (fun ρ hρ => ?_) ⟨(acts_some 13 rfl (by kernel_rfl) (by kernel_rfl)).symm, S⟩
      have e0 : ρ (.tmp 15) = .bool false := by rw [hρ]; exact acts_eval_hit 6 rfl hd.1 (by rw [HSZ]; rfl) (by kernel_rfl)
      have e1 : ρ (.tmp 21) = .bool false := by rw [hρ]; exact acts_eval_hit 12 rfl hd.2.1 (by rw [HSZ]; rfl) (by kernel_rfl)
      have ec : ∀ v, ρ (.const v) = v := by rw [hρ]; exact fun _ => rfl
      clear hρ
      go_simp
  · rintro a' W ⟨rfl, S4⟩
    subst ha0
    simp only [acts, if_true, Act.put, List.setIfInBounds_toArray, List.set_cons_succ, List.set_cons_zero]
    clear S3 HSZ E0 E3 E5
    go_wp2_with fail
    go_loopw [25] (fun i wr => ∃ k : Nat, k ≤ L.length ∧ i = .int .i64 k ∧ Sat G2 wr (blk b #[.slice (some ⟨gv, 0, none⟩) L.length cv, .int .i64 T] 37 :: crA p L T :: l)) (fun i _ => L.length - (intOf i).toNat)
    case atStart => exact ⟨0, Nat.zero_le _, rfl, S4⟩
    case round =>
      obtain ⟨k, hk, rfl, S5⟩ := hrel
      clear S4
      by_cases hlt : k < L.length
      · have r5 := HC5.out k hlt
        have rv := HCV.out k hlt
        have hl := fun (W : World) (l' : List Asrt) (S : Sat G2 W (crA p L T :: l')) => HL.out _ _ k S
        rw [crLeft_at hlt] at hl
        have HL1 := Lib.hid hl
        have x0 := (gd.at_ hlt).1
        generalize L.getD k 0 = x at *
        have HLT := Lib.hid hlt
        go_upto_region 7 with fail
        clear hl
        refine wp_act fun a0 ha0 => ?_
        have HSZ : a0.tmps.size = 67 := by rw [ha0]; rfl
        have E0 : a0.eval (.tmp 0) = .pointer (some ⟨p, 0, none⟩) := by rw [ha0]; rfl
        have E3 : a0.eval (.tmp 3) = .pointer (some ⟨b, 0, none⟩) := by rw [ha0]; rfl
        have E5 : a0.eval (.tmp 5) = .slice (some ⟨g5, 0, none⟩) L.length c5 := by rw [ha0]; rfl
        have E6 : a0.eval (.tmp 6) = .int .i64 k := by rw [ha0]; rfl
        refine wp_region_J (by kernel_rfl) 28 (by kernel_rfl) [[], [], [0, 1], [2], [], [4], [], [5, 6], [7], [3, 8], [9], [10], [10], [11, 12, 10, 10], [10], [14, 10], [10], [15, 16, 10], [17, 10], [13, 18, 10], [10, 19], [20, 13], [21], [21], [22, 23, 21], [24, 21], [25, 21], [21, 26]] (by kernel_rfl) (by kernel_rfl) (fun f a' W => a' = acts [(0, 28, .slice (some ⟨g5, 0, none⟩) L.length c5), (1, 29, .int .i64 k), (2, 30, .pointer (some ⟨g5, k, none⟩)), (3, 31, .int .i64 x), (4, 32, .pointer (some ⟨b, 0, none⟩)), (5, 33, .slice (some ⟨gv, 0, none⟩) L.length cv), (6, 34, .int .i64 k), (7, 35, .pointer (some ⟨gv, k, none⟩)), (8, 36, .int .i64 x), (9, 37, .bool false), (10, 38, .bool false), (11, 39, .pointer (some ⟨p, 0, none⟩)), (12, 40, .int .i64 k), (13, 41, .int .i64 x), (14, 42, .pointer (some ⟨b, 0, none⟩)), (15, 43, .slice (some ⟨gv, 0, none⟩) L.length cv), (16, 44, .int .i64 k), (17, 45, .pointer (some ⟨gv, k, none⟩)), (18, 46, .int .i64 x), (19, 47, .bool false), (20, 48, .bool false), (21, 49, .bool false), (22, 50, .slice (some ⟨g5, 0, none⟩) L.length c5), (23, 51, .int .i64 k), (24, 52, .pointer (some ⟨g5, k, none⟩)), (25, 53, .int .i64 x), (26, 54, .bool false), (27, 55, .bool false)] f a0 ∧ Sat G2 W (blk b #[.slice (some ⟨gv, 0, none⟩) L.length cv, .int .i64 T] 37 :: crA p L T :: l)) ?_ ?_ ?_
        · exact ⟨rfl, S5.drew⟩
        · refine ⟨?_, ?_, ?_, ?_, ?_, ?_, ?_, ?_, ?_, ?_, ?_, ?_, ?_, ?_, ?_, ?_, ?_, ?_, ?_, ?_, ?_, ?_, ?_, ?_, ?_, ?_, ?_, ?_, trivial⟩
          · rintro f a' W h0 hd ⟨rfl, S⟩
            refine wpOp_run (v := .slice (some ⟨g5, 0, none⟩) L.length c5) rfl rfl (fun ρ hρ => ?_) ⟨(acts_some 0 rfl (by kernel_rfl) (by kernel_rfl)).symm, S⟩
            have e0 : ρ (.tmp 5) = .slice (some ⟨g5, 0, none⟩) L.length c5 := by rw [hρ]; exact (acts_eval_tmp 5 (by kernel_rfl)).trans E5
            clear hρ
            go_simp
          · rintro f a' W h1 hd ⟨rfl, S⟩
            refine wpOp_run (v := .int .i64 k) rfl rfl (fun ρ hρ => ?_) ⟨(acts_some 1 rfl (by kernel_rfl) (by kernel_rfl)).symm, S⟩
            have e0 : ρ (.tmp 6) = .int .i64 k := by rw [hρ]; exact (acts_eval_tmp 6 (by kernel_rfl)).trans E6
            clear hρ
            go_simp
          · rintro f a' W h2 hd ⟨rfl, S⟩
            refine wpOp_run (v := .pointer (some ⟨g5, k, none⟩)) rfl rfl (fun ρ hρ => ?_) ⟨(acts_some 2 rfl (by kernel_rfl) (by kernel_rfl)).symm, S⟩
            have e0 : ρ (.tmp 28) = .slice (some ⟨g5, 0, none⟩) L.length c5 := by rw [hρ]; exact acts_eval_hit 0 rfl hd.1 (by rw [HSZ]; rfl) (by kernel_rfl)
            have e1 : ρ (.tmp 29) = .int .i64 k := by rw [hρ]; exact acts_eval_hit 1 rfl hd.2.1 (by rw [HSZ]; rfl) (by kernel_rfl)
            clear hρ
            go_simp
          · rintro f a' W h3 hd ⟨rfl, S⟩
            refine wpOp_run (v := .int .i64 x) rfl rfl (fun ρ hρ => ?_) ⟨(acts_some 3 rfl (by kernel_rfl) (by kernel_rfl)).symm, S⟩
            have e0 : ρ (.tmp 30) = .pointer (some ⟨g5, k, none⟩) := by rw [hρ]; exact acts_eval_hit 2 rfl hd.1 (by rw [HSZ]; rfl) (by kernel_rfl)
            clear hρ
            (have hcl := S.cellR r5)
            go_simp
          · rintro f a' W h4 hd ⟨rfl, S⟩
            refine wpOp_run (v := .pointer (some ⟨b, 0, none⟩)) rfl rfl (fun ρ hρ => ?_) ⟨(acts_some 4 rfl (by kernel_rfl) (by kernel_rfl)).symm, S⟩
            have e0 : ρ (.tmp 3) = .pointer (some ⟨b, 0, none⟩) := by rw [hρ]; exact (acts_eval_tmp 3 (by kernel_rfl)).trans E3
            clear hρ
            go_simp
          · rintro f a' W h5 hd ⟨rfl, S⟩
            refine wpOp_run (v := .slice (some ⟨gv, 0, none⟩) L.length cv) rfl rfl (fun ρ hρ => ?_) ⟨(acts_some 5 rfl (by kernel_rfl) (by kernel_rfl)).symm, S⟩
            have e0 : ρ (.tmp 32) = .pointer (some ⟨b, 0, none⟩) := by rw [hρ]; exact acts_eval_hit 4 rfl hd.1 (by rw [HSZ]; rfl) (by kernel_rfl)
            clear hρ
            (have hcl : W.cell? ⟨b, 0, none⟩ = some (.slice (some ⟨gv, 0, none⟩) L.length cv) := S.cell 0)
            go_simp
          · rintro f a' W h6 hd ⟨rfl, S⟩
            refine wpOp_run (v := .int .i64 k) rfl rfl (fun ρ hρ => ?_) ⟨(acts_some 6 rfl (by kernel_rfl) (by kernel_rfl)).symm, S⟩
            have e0 : ρ (.tmp 6) = .int .i64 k := by rw [hρ]; exact (acts_eval_tmp 6 (by kernel_rfl)).trans E6
            clear hρ
            go_simp
          · rintro f a' W h7 hd ⟨rfl, S⟩
            refine wpOp_run (v := .pointer (some ⟨gv, k, none⟩)) rfl rfl (fun ρ hρ => ?_) ⟨(acts_some 7 rfl (by kernel_rfl) (by kernel_rfl)).symm, S⟩
            have e0 : ρ (.tmp 33) = .slice (some ⟨gv, 0, none⟩) L.length cv := by rw [hρ]; exact acts_eval_hit 5 rfl hd.1 (by rw [HSZ]; rfl) (by kernel_rfl)
            have e1 : ρ (.tmp 34) = .int .i64 k := by rw [hρ]; exact acts_eval_hit 6 rfl hd.2.1 (by rw [HSZ]; rfl) (by kernel_rfl)
            clear hρ
            go_simp
          · rintro f a' W h8 hd ⟨rfl, S⟩
            refine wpOp_run (v := .int .i64 x) rfl rfl (fun ρ hρ => ?_) ⟨(acts_some 8 rfl (by kernel_rfl) (by kernel_rfl)).symm, S⟩
            have e0 : ρ (.tmp 35) = .pointer (some ⟨gv, k, none⟩) := by rw [hρ]; exact acts_eval_hit 7 rfl hd.1 (by rw [HSZ]; rfl) (by kernel_rfl)
            clear hρ
            (have hcl := S.cellR rv)
            go_simp
          · rintro f a' W h9 hd ⟨rfl, S⟩
            refine wpOp_run (v := .bool false) rfl rfl (fun ρ hρ => ?_) ⟨(acts_some 9 rfl (by kernel_rfl) (by kernel_rfl)).symm, S⟩
            have e0 : ρ (.tmp 31) = .int .i64 x := by rw [hρ]; exact acts_eval_hit 3 rfl hd.1 (by rw [HSZ]; rfl) (by kernel_rfl)
            have e1 : ρ (.tmp 36) = .int .i64 x := by rw [hρ]; exact acts_eval_hit 8 rfl hd.2.1 (by rw [HSZ]; rfl) (by kernel_rfl)
            clear hρ
            go_simp
          · rintro f a' W h10 hd ⟨rfl, S⟩
            refine wpOp_run (v := .bool false) rfl rfl (fun ρ hρ => ?_) ⟨(acts_some 10 rfl (by kernel_rfl) (by kernel_rfl)).symm, S⟩
            have e0 : ρ (.tmp 37) = .bool false := by rw [hρ]; exact acts_eval_hit 9 rfl hd.1 (by rw [HSZ]; rfl) (by kernel_rfl)
            clear hρ
            go_simp
          · rintro f a' W h11 hd ⟨rfl, S⟩
            refine wpOp_runG (v := .pointer (some ⟨p, 0, none⟩)) rfl ?_ (fun ρ hρ => ?_) ⟨(acts_some 11 rfl (by kernel_rfl) (by kernel_rfl)).symm, S⟩
            · exact wanted_hit (t := 38) rfl rfl (acts_eval_hit 10 rfl hd.1 (by rw [HSZ]; rfl) (by kernel_rfl))
            · skip
              have e0 : ρ (.tmp 0) = .pointer (some ⟨p, 0, none⟩) := by rw [hρ]; exact (acts_eval_tmp 0 (by kernel_rfl)).trans E0
              clear hρ
              go_simp
          · rintro f a' W h12 hd ⟨rfl, S⟩
            refine wpOp_runG (v := .int .i64 k) rfl ?_ (fun ρ hρ => ?_) ⟨(acts_some 12 rfl (by kernel_rfl) (by kernel_rfl)).symm, S⟩
            · exact wanted_hit (t := 38) rfl rfl (acts_eval_hit 10 rfl hd.1 (by rw [HSZ]; rfl) (by kernel_rfl))
            · skip
              have e0 : ρ (.tmp 6) = .int .i64 k := by rw [hρ]; exact (acts_eval_tmp 6 (by kernel_rfl)).trans E6
              clear hρ
              go_simp
          · rintro f a' W h13 hd ⟨rfl, S⟩
            refine wpOp_callG rfl (wanted_hit (t := 38) rfl rfl (acts_eval_hit 10 rfl hd.2.2.1 (by rw [HSZ]; rfl) (by kernel_rfl))) (fun ρ hρ => ?_) (HL1.out _ _ S.swap) ?_
            · skip
              have e0 : ρ (.tmp 39) = .pointer (some ⟨p, 0, none⟩) := by rw [hρ]; exact acts_eval_hit 11 rfl hd.1 (by rw [HSZ]; rfl) (by kernel_rfl)
              have e1 : ρ (.tmp 40) = .int .i64 k := by rw [hρ]; exact acts_eval_hit 12 rfl hd.2.1 (by rw [HSZ]; rfl) (by kernel_rfl)
              have ef : ρ (.func 11) = .func (.func 11) #[] #[] := by rw [hρ]; rfl
              clear hρ
              go_simp
            · (rintro e W' ⟨rfl, hb⟩; exact ⟨_, rfl, acts_swap rfl (k := 13) rfl (by kernel_rfl) (by kernel_rfl), S.below hb⟩)
          · rintro f a' W h14 hd ⟨rfl, S⟩
            refine wpOp_runG (v := .pointer (some ⟨b, 0, none⟩)) rfl ?_ (fun ρ hρ => ?_) ⟨(acts_some 14 rfl (by kernel_rfl) (by kernel_rfl)).symm, S⟩
            · exact wanted_hit (t := 38) rfl rfl (acts_eval_hit 10 rfl hd.1 (by rw [HSZ]; rfl) (by kernel_rfl))
            · skip
              have e0 : ρ (.tmp 3) = .pointer (some ⟨b, 0, none⟩) := by rw [hρ]; exact (acts_eval_tmp 3 (by kernel_rfl)).trans E3
              clear hρ
              go_simp
          · rintro f a' W h15 hd ⟨rfl, S⟩
            refine wpOp_runG (v := .slice (some ⟨gv, 0, none⟩) L.length cv) rfl ?_ (fun ρ hρ => ?_) ⟨(acts_some 15 rfl (by kernel_rfl) (by kernel_rfl)).symm, S⟩
            · exact wanted_hit (t := 38) rfl rfl (acts_eval_hit 10 rfl hd.2.1 (by rw [HSZ]; rfl) (by kernel_rfl))
            · skip
              have e0 : ρ (.tmp 42) = .pointer (some ⟨b, 0, none⟩) := by rw [hρ]; exact acts_eval_hit 14 rfl hd.1 (by rw [HSZ]; rfl) (by kernel_rfl)
              clear hρ
              (have hcl : W.cell? ⟨b, 0, none⟩ = some (.slice (some ⟨gv, 0, none⟩) L.length cv) := S.cell 0)
              go_simp
          · rintro f a' W h16 hd ⟨rfl, S⟩
            refine wpOp_runG (v := .int .i64 k) rfl ?_ (fun ρ hρ => ?_) ⟨(acts_some 16 rfl (by kernel_rfl) (by kernel_rfl)).symm, S⟩
            · exact wanted_hit (t := 38) rfl rfl (acts_eval_hit 10 rfl hd.1 (by rw [HSZ]; rfl) (by kernel_rfl))
            · skip
              have e0 : ρ (.tmp 6) = .int .i64 k := by rw [hρ]; exact (acts_eval_tmp 6 (by kernel_rfl)).trans E6
              clear hρ
              go_simp
          · rintro f a' W h17 hd ⟨rfl, S⟩
            refine wpOp_runG (v := .pointer (some ⟨gv, k, none⟩)) rfl ?_ (fun ρ hρ => ?_) ⟨(acts_some 17 rfl (by kernel_rfl) (by kernel_rfl)).symm, S⟩
            · exact wanted_hit (t := 38) rfl rfl (acts_eval_hit 10 rfl hd.2.2.1 (by rw [HSZ]; rfl) (by kernel_rfl))
            · skip
              have e0 : ρ (.tmp 43) = .slice (some ⟨gv, 0, none⟩) L.length cv := by rw [hρ]; exact acts_eval_hit 15 rfl hd.1 (by rw [HSZ]; rfl) (by kernel_rfl)
              have e1 : ρ (.tmp 44) = .int .i64 k := by rw [hρ]; exact acts_eval_hit 16 rfl hd.2.1 (by rw [HSZ]; rfl) (by kernel_rfl)
              clear hρ
              go_simp
          · rintro f a' W h18 hd ⟨rfl, S⟩
            refine wpOp_runG (v := .int .i64 x) rfl ?_ (fun ρ hρ => ?_) ⟨(acts_some 18 rfl (by kernel_rfl) (by kernel_rfl)).symm, S⟩
            · exact wanted_hit (t := 38) rfl rfl (acts_eval_hit 10 rfl hd.2.1 (by rw [HSZ]; rfl) (by kernel_rfl))
            · skip
              have e0 : ρ (.tmp 45) = .pointer (some ⟨gv, k, none⟩) := by rw [hρ]; exact acts_eval_hit 17 rfl hd.1 (by rw [HSZ]; rfl) (by kernel_rfl)
              clear hρ
              (have hcl := S.cellR rv)
              go_simp
          · rintro f a' W h19 hd ⟨rfl, S⟩
            refine wpOp_runG (v := .bool false) rfl ?_ (fun ρ hρ => ?_) ⟨(acts_some 19 rfl (by kernel_rfl) (by kernel_rfl)).symm, S⟩
            · exact wanted_hit (t := 38) rfl rfl (acts_eval_hit 10 rfl hd.2.2.1 (by rw [HSZ]; rfl) (by kernel_rfl))
            · skip
              have e0 : ρ (.tmp 41) = .int .i64 x := by rw [hρ]; exact acts_eval_hit 13 rfl hd.1 (by rw [HSZ]; rfl) (by kernel_rfl)
              have e1 : ρ (.tmp 46) = .int .i64 x := by rw [hρ]; exact acts_eval_hit 18 rfl hd.2.1 (by rw [HSZ]; rfl) (by kernel_rfl)
              clear hρ
              go_simp
          · rintro f a' W h20 hd ⟨rfl, S⟩
            refine wpOp_run (v := .bool false) rfl rfl (fun ρ hρ => ?_) ⟨(acts_some 20 rfl (by kernel_rfl) (by kernel_rfl)).symm, S⟩
            have e0 : ρ (.tmp 38) = .bool false := by rw [hρ]; exact acts_eval_hit 10 rfl hd.1 (by rw [HSZ]; rfl) (by kernel_rfl)
            have e1 : ρ (.tmp 47) = .bool false := by rw [hρ]; exact acts_eval_hit 19 rfl hd.2.1 (by rw [HSZ]; rfl) (by kernel_rfl)
            have ec : ∀ v, ρ (.const v) = v := by rw [hρ]; exact fun _ => rfl
            clear hρ
            go_simp
          · rintro f a' W h21 hd ⟨rfl, S⟩
            refine wpOp_run (v := .bool false) rfl rfl (fun ρ hρ => ?_) ⟨(acts_some 21 rfl (by kernel_rfl) (by kernel_rfl)).symm, S⟩
            have e0 : ρ (.tmp 48) = .bool false := by rw [hρ]; exact acts_eval_hit 20 rfl hd.1 (by rw [HSZ]; rfl) (by kernel_rfl)
            clear hρ
            go_simp
          · rintro f a' W h22 hd ⟨rfl, S⟩
            refine wpOp_runG (v := .slice (some ⟨g5, 0, none⟩) L.length c5) rfl ?_ (fun ρ hρ => ?_) ⟨(acts_some 22 rfl (by kernel_rfl) (by kernel_rfl)).symm, S⟩
            · exact wanted_hit (t := 49) rfl rfl (acts_eval_hit 21 rfl hd.1 (by rw [HSZ]; rfl) (by kernel_rfl))
            · skip
              have e0 : ρ (.tmp 5) = .slice (some ⟨g5, 0, none⟩) L.length c5 := by rw [hρ]; exact (acts_eval_tmp 5 (by kernel_rfl)).trans E5
              clear hρ
              go_simp
          · rintro f a' W h23 hd ⟨rfl, S⟩
            refine wpOp_runG (v := .int .i64 k) rfl ?_ (fun ρ hρ => ?_) ⟨(acts_some 23 rfl (by kernel_rfl) (by kernel_rfl)).symm, S⟩
            · exact wanted_hit (t := 49) rfl rfl (acts_eval_hit 21 rfl hd.1 (by rw [HSZ]; rfl) (by kernel_rfl))
            · skip
              have e0 : ρ (.tmp 6) = .int .i64 k := by rw [hρ]; exact (acts_eval_tmp 6 (by kernel_rfl)).trans E6
              clear hρ
              go_simp
          · rintro f a' W h24 hd ⟨rfl, S⟩
            refine wpOp_runG (v := .pointer (some ⟨g5, k, none⟩)) rfl ?_ (fun ρ hρ => ?_) ⟨(acts_some 24 rfl (by kernel_rfl) (by kernel_rfl)).symm, S⟩
            · exact wanted_hit (t := 49) rfl rfl (acts_eval_hit 21 rfl hd.2.2.1 (by rw [HSZ]; rfl) (by kernel_rfl))
            · skip
              have e0 : ρ (.tmp 50) = .slice (some ⟨g5, 0, none⟩) L.length c5 := by rw [hρ]; exact acts_eval_hit 22 rfl hd.1 (by rw [HSZ]; rfl) (by kernel_rfl)
              have e1 : ρ (.tmp 51) = .int .i64 k := by rw [hρ]; exact acts_eval_hit 23 rfl hd.2.1 (by rw [HSZ]; rfl) (by kernel_rfl)
              clear hρ
              go_simp
          · rintro f a' W h25 hd ⟨rfl, S⟩
            refine wpOp_runG (v := .int .i64 x) rfl ?_ (fun ρ hρ => ?_) ⟨(acts_some 25 rfl (by kernel_rfl) (by kernel_rfl)).symm, S⟩
            · exact wanted_hit (t := 49) rfl rfl (acts_eval_hit 21 rfl hd.2.1 (by rw [HSZ]; rfl) (by kernel_rfl))
            · skip
              have e0 : ρ (.tmp 52) = .pointer (some ⟨g5, k, none⟩) := by rw [hρ]; exact acts_eval_hit 24 rfl hd.1 (by rw [HSZ]; rfl) (by kernel_rfl)
              clear hρ
              (have hcl := S.cellR r5)
              go_simp
          · rintro f a' W h26 hd ⟨rfl, S⟩
            refine wpOp_runG (v := .bool false) rfl ?_ (fun ρ hρ => ?_) ⟨(acts_some 26 rfl (by kernel_rfl) (by kernel_rfl)).symm, S⟩
            · exact wanted_hit (t := 49) rfl rfl (acts_eval_hit 21 rfl hd.2.1 (by rw [HSZ]; rfl) (by kernel_rfl))
            · skip
              have e0 : ρ (.tmp 53) = .int .i64 x := by rw [hρ]; exact acts_eval_hit 25 rfl hd.1 (by rw [HSZ]; rfl) (by kernel_rfl)
              have ec : ∀ v, ρ (.const v) = v := by rw [hρ]; exact fun _ => rfl
              clear hρ
              go_simp
          · rintro f a' W h27 hd ⟨rfl, S⟩
            refine wpOp_run (v := .bool false) rfl rfl (fun ρ hρ => ?_) ⟨(acts_some 27 rfl (by kernel_rfl) (by kernel_rfl)).symm, S⟩
            have e0 : ρ (.tmp 49) = .bool false := by rw [hρ]; exact acts_eval_hit 21 rfl hd.1 (by rw [HSZ]; rfl) (by kernel_rfl)
            have e1 : ρ (.tmp 54) = .bool false := by rw [hρ]; exact acts_eval_hit 26 rfl hd.2.1 (by rw [HSZ]; rfl) (by kernel_rfl)
            have ec : ∀ v, ρ (.const v) = v := by rw [hρ]; exact fun _ => rfl
            clear hρ
            go_simp
        · rintro a' W ⟨rfl, S6⟩
          subst ha0
          simp only [acts, if_true, Act.put, List.setIfInBounds_toArray, List.set_cons_succ, List.set_cons_zero]
          clear S5 HSZ E0 E3 E5 E6 r5 rv
          go_wp2_with fail
          go_roundw
          case rel => exact ⟨k + 1, by omega, by go_num, S6⟩
          case measure => simp [intOf]; omega
      · obtain rfl : k = L.length := by omega
        have hl1 := HL.out _ _ (-1) S5.swap
        rw [crLeft_out (.inl (by omega))] at hl1
        have hl2 := fun (W : World) (l' : List Asrt) (S : Sat G2 W (crA p L T :: l')) => HL.out _ _ L.length S
        rw [crLeft_out (.inr (Int.le_refl _))] at hl2
        have HL2 := Lib.hid hl2
        clear hl2
        go_wp2_with fail
        (with_reducible refine hl1.mono ?_)
        clear hl1
        rintro e w7 ⟨rfl, hb7⟩
        have S7 := S5.swap.below hb7
        clear hb7 S5
        have hl2 := HL2.out _ _ S7
        go_wp2_with fail
        (with_reducible refine hl2.mono ?_)
        clear hl2
        rintro e w8 ⟨rfl, hb8⟩
        have S8 := S7.below hb8
        clear hb8 S7
        go_wp2_with fail
        exact hK.out _ _ ⟨G2, rfl, hG2, S8.drop2⟩
end
end Go.Proofs.Ytkjelbnkfnifgaa
