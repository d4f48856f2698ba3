/- The walk of the law FrameParses. -/
import Derived.Test.YtjhhabaeaekejaaRef9
set_option linter.unusedSimpArgs false
set_option linter.unusedVariables false
namespace Go.Proofs.Ytjhhabaeaekejaa
open Go.RowKit

theorem law_awake2 (w : World) : Calls Try.prog 9 #[] w fun e w' => e = .returned (.bool true) ∧ Below w.heap.size w w' :=
  (law_awake (Sat.start w)).mono fun e w' h => by obtain ⟨h1, G', hG, S⟩ := h; exact ⟨h1, S.above hG⟩
theorem eq_arr4 (a b c d : Int) (w : World) : (Op.equalIn 10000 35 (.agg #[.int .i64 a, .int .i64 b, .int .i64 c, .int .i64 d]) (.agg #[.int .i64 a, .int .i64 b, .int .i64 c, .int .i64 d])).run Try.prog w = .ok true w := by
  have u3 := Try.underlying3
  have a3 := Try.isAgg3
  have z3 := Try.sizeOf3
  rw [show (10000 : Nat) = 9999 + 1 from rfl, Op.equalIn]
  simp only [Sem.run_bind, run_underlying Try.underlying35, Result.andThen_ok]
  simp only [Std.Legacy.Range.forIn_eq_forIn_range', Std.Legacy.Range.size, Nat.sub_zero, Nat.add_sub_cancel, Nat.div_one, List.range'_succ, List.range'_zero, List.forIn_cons, List.forIn_nil]
  go_simp
theorem head_bounds (bs : List UInt8) : hdN bs < 16777216 ∧ hdT bs < 256 ∧ hdF bs < 256 ∧ hdS bs < 2147483648 := by
  have key : ∀ (cs : List UInt8) (k : Nat), cs.length ≤ k → numOf cs < 256 ^ k := fun cs k h => Nat.lt_of_lt_of_le (numOf_lt _) (Nat.pow_le_pow_right (by omega) h)
  exact ⟨key _ 3 (by rw [List.length_take]; omega), key _ 1 (by rw [List.length_take]; omega), key _ 1 (by rw [List.length_take]; omega), Nat.mod_lt _ (by omega)⟩
set_option maxHeartbeats 4000000 in
set_option maxRecDepth 100000 in
theorem frameParses_walk (w : World) (v0 v1 : Value) (h0 : ∃ d, ArgV w (.sl 1 (.int .u8)) v0 d) (h1 : ∃ d, ArgV w (.int .i64) v1 d) :
    Calls Try.prog 4 #[v0, v1] w fun e w' => e = .returned (.bool true) ∧ Below w.heap.size w w' := by
  refine calls_any fun K hK => ?_
  obtain ⟨_, h0⟩ := h0
  obtain ⟨l, h0⟩ := arg_sl h0
  obtain ⟨bs, -, hlen, hb⟩ := slb_of h0
  obtain ⟨_, h1⟩ := h1
  obtain ⟨most, rfl, -⟩ := arg_int h1
  clear h0 h1 l
  have S0 := Sat.start w
  change SlB (cellR (Gnd.of w).ro) _ _ at hb
  obtain ⟨A, c, rfl, hc1, hc2, hA⟩ := hb.form
  have hc3 : c ≤ 9223372036854775807 := hc2
  by_cases h400 : 400 < (bs.length : Int)
  · have haw := law_awake2 w
    clear hb hA
    go_enter Try.func4, Try.ntmps4
    go_wp2_with fail
    (with_reducible refine haw.mono ?_)
    rintro e w9 ⟨rfl, hb9⟩
    go_wp2_with fail
    exact hK.out _ _ ⟨rfl, hb9⟩
  have hp := frame_parse S0 _ bs most (fun W SW => hb.sat SW) hlen
  have hrf := fun {G : Gnd} (W : World) (l : List Asrt) (S : Sat G W l) => ref9_parse S bs most hlen
  go_enter Try.func4, Try.ntmps4
  go_wp2_with fail
  (with_reducible refine hp.mono ?_)
  clear hp S0
  rintro e w1 ⟨G, u, hG, S1, ⟨hE, rfl⟩ | ⟨hE, rfl, hu⟩⟩
  · have S2 := S1.newBlk #[.int .i64 0, .int .i64 0, .int .i64 0, .slice none 0 0] 24
    have hrf2 := hrf _ _ S2
    rw [show refHead bs most = .tuple #[.agg #[.int .i64 0, .int .i64 0, .int .i64 0, .int .i64 0], .int .i64 (headE bs most)] by unfold refHead; rw [if_neg hE]] at hrf2
    have hcv := conv_bytes _ bs _ (hb.mono hG |>.sat S2).1
    unfold zeroFr
    have hE0 : (headE bs most == 0) = false := by simpa using hE
    have hE1 : (headE bs most != 0) = true := by simpa using hE
    clear hrf hE S1
    generalize headE bs most = E at *
    go_wp2_with fail
    generalize w1.heap.size = p at *
    (with_reducible refine hrf2.mono ?_)
    clear hrf2 hcv
    rintro e w2 ⟨rfl, S3⟩
    have S4 := S3.alloc (.cells #[.int .i64 0, .int .i64 0, .int .i64 0, .int .i64 0] 35)
    clear S3 S2
    go_upto_region 5 with fail
    refine wp_world S4 fun W S5 => ?_
    clear S4
    have c0 : W.cell? ⟨p, 0, none⟩ = some (.int .i64 0) := S5.cell 0
    have c1 : W.cell? ⟨p, 1, none⟩ = some (.int .i64 0) := S5.cell 1
    have c2 : W.cell? ⟨p, 2, none⟩ = some (.int .i64 0) := S5.cell 2
    have c3 : W.cell? ⟨p, 3, none⟩ = some (.slice none 0 0) := S5.cell 3
    have heq := frame_equal S5 0 0 0 0 0 0 (.slice none 0 0) (.slice none 0 0) [] [] (fun W SW => (SlB.nil _).1) (fun W SW => (SlB.nil _).1)
    rw [decide_eq_true ⟨rfl, rfl, rfl, rfl⟩] at heq
    go_wp2_with fail
    (with_reducible refine heq.mono ?_)
    clear heq c0 c1 c2 c3
    rintro e w5 ⟨rfl, S6⟩
    go_wp2_with fail
    (with_reducible refine (law_awake2 _).mono ?_)
    rintro e w9 ⟨rfl, hb9⟩
    go_wp2_with fail
    exact hK.out _ _ ⟨rfl, (S6.below hb9).drop.above hG⟩
  · obtain ⟨X, cx, rfl, -, -, -⟩ := hu.form
    have S2 := S1.newBlk #[.int .i64 (hdT bs), .int .i64 (hdF bs), .int .i64 (hdS bs), .slice X ((bs.drop 9).take (hdN bs)).length cx] 24
    have hrf2 := hrf _ _ S2
    rw [show refHead bs most = .tuple #[.agg #[.int .i64 (hdT bs), .int .i64 (hdF bs), .int .i64 (hdS bs), .int .i64 (9 + hdN bs)], .int .i64 0] by unfold refHead; rw [if_pos hE]] at hrf2
    have hcv := conv_bytes _ bs _ (hb.mono hG |>.sat S2).1
    obtain ⟨z1, z2, z3, z4⟩ := head_bounds bs
    have hL : 9 + hdN bs ≤ bs.length := by
      unfold headE at hE
      split at hE
      · cases hE
      · split at hE
        · cases hE
        · split at hE
          · cases hE
          · omega
    have hln : ((bs.drop 9).take (hdN bs)).length = hdN bs := by rw [List.length_take, List.length_drop]; omega
    have hb1 := hb.mono hG
    obtain ⟨ad, rfl⟩ : ∃ ad, A = some ad := by
      cases A with
      | none => have := hA rfl; omega
      | some ad => exact ⟨ad, rfl⟩
    obtain ⟨b0, o0, rfl⟩ := (hb1.sat S1).addr (by omega)
    have hv := (hb1.from 9 (by omega)).to (hdN bs) (by omega) (c - 9) (by omega) (Nat.le_refl _)
    have hrt : frRight (hdT bs) (hdF bs) (hdS bs) ((bs.drop 9).take (hdN bs)).length = true := decide_eq_true (by rw [hln]; omega)
    clear hrf hE S1 hb hb1 hA
    generalize (bs.drop 9).take (hdN bs) = pl at *
    generalize hdT bs = T' at *
    generalize hdF bs = F' at *
    generalize hdS bs = D' at *
    generalize hdN bs = n at *
    generalize (T' : Int) = T at *
    generalize (F' : Int) = F at *
    generalize (D' : Int) = D at *
    obtain ⟨V, hV⟩ : ∃ V : List Value, V = [] := ⟨_, rfl⟩
    have HLN := Lib.hid hln
    clear hln
    go_wp2_with fail
    generalize w1.heap.size = p at *
    (with_reducible refine hrf2.mono ?_)
    clear hrf2 hcv
    rintro e w2 ⟨rfl, S3⟩
    have S4 := S3.newBlk #[.int .i64 T, .int .i64 F, .int .i64 D, .int .i64 (9 + n)] 35
    clear S3 S2
    go_upto_region 9 with fail
    generalize w2.heap.size = q at *
    refine wp_world S4 fun W3 S3 => ?_
    clear S4
    by_cases h9c : c = 9
    · obtain rfl : n = 0 := by omega
      subst h9c
      rw [show fromA (some (⟨b0, o0, none⟩ : Addr)) 9 9 = some ⟨b0, o0, none⟩ from if_pos rfl] at hv
      refine wp_act fun a0 ha0 => ?_
      have HSZ : a0.tmps.size = 70 := by rw [ha0]; rfl
      have E0 : a0.eval (.tmp 0) = .slice (some ⟨b0, o0, none⟩) bs.length 9 := by rw [ha0]; rfl
      have E5 : a0.eval (.tmp 5) = .pointer (some ⟨p, 0, none⟩) := by rw [ha0]; rfl
      have E6 : a0.eval (.tmp 6) = .int .i64 9 := by rw [ha0]; rfl
      have E8 : a0.eval (.tmp 8) = .pointer (some ⟨q, 0, none⟩) := by rw [ha0]; rfl
      refine wp_region_sat (by kernel_rfl) 28 (by kernel_rfl) [[], [0], [], [2], [], [4], [], [1, 3, 5, 6], [], [7, 8], [9], [10], [11, 10], [12, 10], [10], [10], [14, 15, 10], [16, 10], [13, 17, 10], [10, 18], [19, 10], [20], [21, 20, 20], [20, 22], [23, 22], [24, 24], [24, 25], [26, 25, 0, 1, 2, 3, 4, 5, 6, 7, 8, 9, 10, 11, 12, 13, 14, 15, 16, 17, 18, 19, 20, 21, 22, 23, 24, 25, 26]] (by kernel_rfl) (by kernel_rfl) [(0, 43, .pointer (some ⟨p, 0, none⟩)), (1, 44, .int .i64 T), (2, 45, .pointer (some ⟨p, 1, none⟩)), (3, 46, .int .i64 F), (4, 47, .pointer (some ⟨p, 2, none⟩)), (5, 48, .int .i64 D), (6, 49, .int .i64 9), (7, 50, .agg #[.int .i64 T, .int .i64 F, .int .i64 D, .int .i64 9]), (8, 51, .agg #[.int .i64 T, .int .i64 F, .int .i64 D, .int .i64 9]), (9, 52, .bool true), (10, 53, .bool true), (11, 54, .pointer (some ⟨p, 3, none⟩)), (12, 55, .slice X pl.length cx), (13, 56, .string (bstr pl)), (14, 57, .slice (some ⟨b0, o0, none⟩) bs.length 9), (15, 58, .int .i64 9), (16, 59, .slice (some ⟨b0, o0, none⟩) 0 0), (17, 60, .string (bstr pl)), (18, 61, .bool true), (19, 62, .bool true), (20, 63, .bool true), (21, 64, .agg #[.int .i64 T, .int .i64 F, .int .i64 D, .slice X pl.length cx]), (22, 65, .bool true), (23, 66, .bool true), (24, 67, .bool true), (25, 68, .bool true), (26, 69, .bool true), (27, 4, .bool true)] (fun _ => [blk q #[.int .i64 T, .int .i64 F, .int .i64 D, .int .i64 9] 35, blk p #[.int .i64 T, .int .i64 F, .int .i64 D, .slice X pl.length cx] 24]) (by kernel_rfl) S3 ?_ ?_
      · refine ⟨?_, ?_, ?_, ?_, ?_, ?_, ?_, ?_, ?_, ?_, ?_, ?_, ?_, ?_, ?_, ?_, ?_, ?_, ?_, ?_, ?_, ?_, ?_, ?_, ?_, ?_, ?_, ?_, trivial⟩
        · intro f W h0 hd S
          refine wpOp_run (v := .pointer (some ⟨p, 0, none⟩)) rfl rfl (fun ρ hρ => ?_) ⟨(acts_some 0 rfl (by kernel_rfl) (by kernel_rfl)).symm, S⟩
          have e0 : ρ (.tmp 5) = .pointer (some ⟨p, 0, none⟩) := by rw [hρ]; exact (acts_eval_tmp 5 (by kernel_rfl)).trans E5
          clear hρ
          go_simp
        · intro f W h1 hd S
          refine wpOp_run (v := .int .i64 T) rfl rfl (fun ρ hρ => ?_) ⟨(acts_some 1 rfl (by kernel_rfl) (by kernel_rfl)).symm, S⟩
          have e0 : ρ (.tmp 43) = .pointer (some ⟨p, 0, none⟩) := by rw [hρ]; exact acts_eval_hit 0 rfl hd.1 (by rw [HSZ]; rfl) (by kernel_rfl)
          clear hρ
          (have hc0 : W.cell? ⟨p, 0, none⟩ = some (.int .i64 T) := S.swap.cell 0)
          go_simp
        · intro f W h2 hd S
          refine wpOp_run (v := .pointer (some ⟨p, 1, none⟩)) rfl rfl (fun ρ hρ => ?_) ⟨(acts_some 2 rfl (by kernel_rfl) (by kernel_rfl)).symm, S⟩
          have e0 : ρ (.tmp 5) = .pointer (some ⟨p, 0, none⟩) := by rw [hρ]; exact (acts_eval_tmp 5 (by kernel_rfl)).trans E5
          clear hρ
          go_simp
        · intro f W h3 hd S
          refine wpOp_run (v := .int .i64 F) rfl rfl (fun ρ hρ => ?_) ⟨(acts_some 3 rfl (by kernel_rfl) (by kernel_rfl)).symm, S⟩
          have e0 : ρ (.tmp 45) = .pointer (some ⟨p, 1, none⟩) := by rw [hρ]; exact acts_eval_hit 2 rfl hd.1 (by rw [HSZ]; rfl) (by kernel_rfl)
          clear hρ
          (have hc0 : W.cell? ⟨p, 1, none⟩ = some (.int .i64 F) := S.swap.cell 1)
          go_simp
        · intro f W h4 hd S
          refine wpOp_run (v := .pointer (some ⟨p, 2, none⟩)) rfl rfl (fun ρ hρ => ?_) ⟨(acts_some 4 rfl (by kernel_rfl) (by kernel_rfl)).symm, S⟩
          have e0 : ρ (.tmp 5) = .pointer (some ⟨p, 0, none⟩) := by rw [hρ]; exact (acts_eval_tmp 5 (by kernel_rfl)).trans E5
          clear hρ
          go_simp
        · intro f W h5 hd S
          refine wpOp_run (v := .int .i64 D) rfl rfl (fun ρ hρ => ?_) ⟨(acts_some 5 rfl (by kernel_rfl) (by kernel_rfl)).symm, S⟩
          have e0 : ρ (.tmp 47) = .pointer (some ⟨p, 2, none⟩) := by rw [hρ]; exact acts_eval_hit 4 rfl hd.1 (by rw [HSZ]; rfl) (by kernel_rfl)
          clear hρ
          (have hc0 : W.cell? ⟨p, 2, none⟩ = some (.int .i64 D) := S.swap.cell 2)
          go_simp
        · intro f W h6 hd S
          refine wpOp_run (v := .int .i64 9) rfl rfl (fun ρ hρ => ?_) ⟨(acts_some 6 rfl (by kernel_rfl) (by kernel_rfl)).symm, S⟩
          have e0 : ρ (.tmp 6) = .int .i64 9 := by rw [hρ]; exact (acts_eval_tmp 6 (by kernel_rfl)).trans E6
          clear hρ
          go_simp
        · intro f W h7 hd S
          refine wpOp_run (v := .agg #[.int .i64 T, .int .i64 F, .int .i64 D, .int .i64 9]) rfl rfl (fun ρ hρ => ?_) ⟨(acts_some 7 rfl (by kernel_rfl) (by kernel_rfl)).symm, S⟩
          have e0 : ρ (.tmp 44) = .int .i64 T := by rw [hρ]; exact acts_eval_hit 1 rfl hd.1 (by rw [HSZ]; rfl) (by kernel_rfl)
          have e1 : ρ (.tmp 46) = .int .i64 F := by rw [hρ]; exact acts_eval_hit 3 rfl hd.2.1 (by rw [HSZ]; rfl) (by kernel_rfl)
          have e2 : ρ (.tmp 48) = .int .i64 D := by rw [hρ]; exact acts_eval_hit 5 rfl hd.2.2.1 (by rw [HSZ]; rfl) (by kernel_rfl)
          have e3 : ρ (.tmp 49) = .int .i64 9 := by rw [hρ]; exact acts_eval_hit 6 rfl hd.2.2.2.1 (by rw [HSZ]; rfl) (by kernel_rfl)
          clear hρ
          go_simp
        · intro f W h8 hd S
          refine wpOp_list rfl ?_
          refine st_load rfl _ _ rfl _ ((acts_eval_tmp 8 (by kernel_rfl)).trans E8) _ _ (S) _ rfl rfl rfl ?_
          exact ⟨(acts_some 8 rfl (by kernel_rfl) (by kernel_rfl)).symm, S⟩
        · intro f W h9 hd S
          refine wpOp_run (v := .bool true) rfl rfl (fun ρ hρ => ?_) ⟨(acts_some 9 rfl (by kernel_rfl) (by kernel_rfl)).symm, S⟩
          have e0 : ρ (.tmp 50) = .agg #[.int .i64 T, .int .i64 F, .int .i64 D, .int .i64 9] := by rw [hρ]; exact acts_eval_hit 7 rfl hd.1 (by rw [HSZ]; rfl) (by kernel_rfl)
          have e1 : ρ (.tmp 51) = .agg #[.int .i64 T, .int .i64 F, .int .i64 D, .int .i64 9] := by rw [hρ]; exact acts_eval_hit 8 rfl hd.2.1 (by rw [HSZ]; rfl) (by kernel_rfl)
          clear hρ
          (have hea := eq_arr4 T F D 9 W)
          go_simp
        · intro f W h10 hd S
          refine wpOp_run (v := .bool true) rfl rfl (fun ρ hρ => ?_) ⟨(acts_some 10 rfl (by kernel_rfl) (by kernel_rfl)).symm, S⟩
          have e0 : ρ (.tmp 52) = .bool true := by rw [hρ]; exact acts_eval_hit 9 rfl hd.1 (by rw [HSZ]; rfl) (by kernel_rfl)
          clear hρ
          go_simp
        · intro f W h11 hd S
          refine wpOp_runG (v := .pointer (some ⟨p, 3, none⟩)) rfl ?_ (fun ρ hρ => ?_) ⟨(acts_some 11 rfl (by kernel_rfl) (by kernel_rfl)).symm, S⟩
          · exact wanted_hit (t := 53) rfl rfl (acts_eval_hit 10 rfl hd.1 (by rw [HSZ]; rfl) (by kernel_rfl))
          · skip
            have e0 : ρ (.tmp 5) = .pointer (some ⟨p, 0, none⟩) := by rw [hρ]; exact (acts_eval_tmp 5 (by kernel_rfl)).trans E5
            clear hρ
            go_simp
        · intro f W h12 hd S
          refine wpOp_runG (v := .slice X pl.length cx) rfl ?_ (fun ρ hρ => ?_) ⟨(acts_some 12 rfl (by kernel_rfl) (by kernel_rfl)).symm, S⟩
          · exact wanted_hit (t := 53) rfl rfl (acts_eval_hit 10 rfl hd.2.1 (by rw [HSZ]; rfl) (by kernel_rfl))
          · skip
            have e0 : ρ (.tmp 54) = .pointer (some ⟨p, 3, none⟩) := by rw [hρ]; exact acts_eval_hit 11 rfl hd.1 (by rw [HSZ]; rfl) (by kernel_rfl)
            clear hρ
            (have hc0 : W.cell? ⟨p, 3, none⟩ = some (.slice X pl.length cx) := S.swap.cell 3)
            go_simp
        · intro f W h13 hd S
          refine wpOp_runG (v := .string (bstr pl)) rfl ?_ (fun ρ hρ => ?_) ⟨(acts_some 13 rfl (by kernel_rfl) (by kernel_rfl)).symm, S⟩
          · exact wanted_hit (t := 53) rfl rfl (acts_eval_hit 10 rfl hd.2.1 (by rw [HSZ]; rfl) (by kernel_rfl))
          · skip
            have e0 : ρ (.tmp 55) = .slice X pl.length cx := by rw [hρ]; exact acts_eval_hit 12 rfl hd.1 (by rw [HSZ]; rfl) (by kernel_rfl)
            clear hρ
            (have hcv := conv_bytes _ pl W (hu.sat S).1)
            go_simp
        · intro f W h14 hd S
          refine wpOp_runG (v := .slice (some ⟨b0, o0, none⟩) bs.length 9) rfl ?_ (fun ρ hρ => ?_) ⟨(acts_some 14 rfl (by kernel_rfl) (by kernel_rfl)).symm, S⟩
          · exact wanted_hit (t := 53) rfl rfl (acts_eval_hit 10 rfl hd.1 (by rw [HSZ]; rfl) (by kernel_rfl))
          · skip
            have e0 : ρ (.tmp 0) = .slice (some ⟨b0, o0, none⟩) bs.length 9 := by rw [hρ]; exact (acts_eval_tmp 0 (by kernel_rfl)).trans E0
            clear hρ
            go_simp
        · intro f W h15 hd S
          refine wpOp_runG (v := .int .i64 9) rfl ?_ (fun ρ hρ => ?_) ⟨(acts_some 15 rfl (by kernel_rfl) (by kernel_rfl)).symm, S⟩
          · exact wanted_hit (t := 53) rfl rfl (acts_eval_hit 10 rfl hd.1 (by rw [HSZ]; rfl) (by kernel_rfl))
          · skip
            have e0 : ρ (.tmp 6) = .int .i64 9 := by rw [hρ]; exact (acts_eval_tmp 6 (by kernel_rfl)).trans E6
            clear hρ
            go_simp
        · intro f W h16 hd S
          refine wpOp_runG (v := .slice (some ⟨b0, o0, none⟩) 0 0) rfl ?_ (fun ρ hρ => ?_) ⟨(acts_some 16 rfl (by kernel_rfl) (by kernel_rfl)).symm, S⟩
          · exact wanted_hit (t := 53) rfl rfl (acts_eval_hit 10 rfl hd.2.2.1 (by rw [HSZ]; rfl) (by kernel_rfl))
          · skip
            have e0 : ρ (.tmp 57) = .slice (some ⟨b0, o0, none⟩) bs.length 9 := by rw [hρ]; exact acts_eval_hit 14 rfl hd.1 (by rw [HSZ]; rfl) (by kernel_rfl)
            have e1 : ρ (.tmp 58) = .int .i64 9 := by rw [hρ]; exact acts_eval_hit 15 rfl hd.2.1 (by rw [HSZ]; rfl) (by kernel_rfl)
            have ec : ∀ v, ρ (.const v) = v := by rw [hρ]; exact fun _ => rfl
            clear hρ
            go_simp
        · intro f W h17 hd S
          refine wpOp_runG (v := .string (bstr pl)) rfl ?_ (fun ρ hρ => ?_) ⟨(acts_some 17 rfl (by kernel_rfl) (by kernel_rfl)).symm, S⟩
          · exact wanted_hit (t := 53) rfl rfl (acts_eval_hit 10 rfl hd.2.1 (by rw [HSZ]; rfl) (by kernel_rfl))
          · skip
            have e0 : ρ (.tmp 59) = .slice (some ⟨b0, o0, none⟩) 0 0 := by rw [hρ]; exact acts_eval_hit 16 rfl hd.1 (by rw [HSZ]; rfl) (by kernel_rfl)
            clear hρ
            (have hcv := conv_bytes _ pl W (hv.sat S).1)
            go_simp
        · intro f W h18 hd S
          refine wpOp_runG (v := .bool true) rfl ?_ (fun ρ hρ => ?_) ⟨(acts_some 18 rfl (by kernel_rfl) (by kernel_rfl)).symm, S⟩
          · exact wanted_hit (t := 53) rfl rfl (acts_eval_hit 10 rfl hd.2.2.1 (by rw [HSZ]; rfl) (by kernel_rfl))
          · skip
            have e0 : ρ (.tmp 56) = .string (bstr pl) := by rw [hρ]; exact acts_eval_hit 13 rfl hd.1 (by rw [HSZ]; rfl) (by kernel_rfl)
            have e1 : ρ (.tmp 60) = .string (bstr pl) := by rw [hρ]; exact acts_eval_hit 17 rfl hd.2.1 (by rw [HSZ]; rfl) (by kernel_rfl)
            clear hρ
            go_simp
        · intro f W h19 hd S
          refine wpOp_run (v := .bool true) rfl rfl (fun ρ hρ => ?_) ⟨(acts_some 19 rfl (by kernel_rfl) (by kernel_rfl)).symm, S⟩
          have e0 : ρ (.tmp 53) = .bool true := by rw [hρ]; exact acts_eval_hit 10 rfl hd.1 (by rw [HSZ]; rfl) (by kernel_rfl)
          have e1 : ρ (.tmp 61) = .bool true := by rw [hρ]; exact acts_eval_hit 18 rfl hd.2.1 (by rw [HSZ]; rfl) (by kernel_rfl)
          have ec : ∀ v, ρ (.const v) = v := by rw [hρ]; exact fun _ => rfl
          clear hρ
          go_simp
        · intro f W h20 hd S
          refine wpOp_run (v := .bool true) rfl rfl (fun ρ hρ => ?_) ⟨(acts_some 20 rfl (by kernel_rfl) (by kernel_rfl)).symm, S⟩
          have e0 : ρ (.tmp 62) = .bool true := by rw [hρ]; exact acts_eval_hit 19 rfl hd.1 (by rw [HSZ]; rfl) (by kernel_rfl)
          clear hρ
          go_simp
        · intro f W h21 hd S
          refine wpOp_runG (v := .agg #[.int .i64 T, .int .i64 F, .int .i64 D, .slice X pl.length cx]) rfl ?_ (fun ρ hρ => ?_) ⟨(acts_some 21 rfl (by kernel_rfl) (by kernel_rfl)).symm, S⟩
          · exact wanted_hit (t := 63) rfl rfl (acts_eval_hit 20 rfl hd.1 (by rw [HSZ]; rfl) (by kernel_rfl))
          · skip
            have e0 : ρ (.tmp 5) = .pointer (some ⟨p, 0, none⟩) := by rw [hρ]; exact (acts_eval_tmp 5 (by kernel_rfl)).trans E5
            clear hρ
            (have hc0 : W.cell? ⟨p, 0, none⟩ = some (.int .i64 T) := S.swap.cell 0; have hc1 : W.cell? ⟨p, 1, none⟩ = some (.int .i64 F) := S.swap.cell 1; have hc2 : W.cell? ⟨p, 2, none⟩ = some (.int .i64 D) := S.swap.cell 2; have hc3 : W.cell? ⟨p, 3, none⟩ = some (.slice X pl.length cx) := S.swap.cell 3)
            go_simp
        · intro f W h22 hd S
          refine wpOp_callG rfl (wanted_hit (t := 63) rfl rfl (acts_eval_hit 20 rfl hd.2.1 (by rw [HSZ]; rfl) (by kernel_rfl))) (fun ρ hρ => ?_) (frame_right S T F D X pl.length cx) ?_
          · skip
            have e0 : ρ (.tmp 64) = .agg #[.int .i64 T, .int .i64 F, .int .i64 D, .slice X pl.length cx] := by rw [hρ]; exact acts_eval_hit 21 rfl hd.1 (by rw [HSZ]; rfl) (by kernel_rfl)
            have ef : ρ (.func 11) = .func (.func 11) #[] #[] := by rw [hρ]; rfl
            clear hρ
            go_simp
          · (rintro e W' ⟨rfl, S'⟩; rw [hrt]; exact ⟨_, rfl, (acts_some 22 rfl (by kernel_rfl) (by kernel_rfl)).symm, S'⟩)
        · intro f W h23 hd S
          refine wpOp_run (v := .bool true) rfl rfl (fun ρ hρ => ?_) ⟨(acts_some 23 rfl (by kernel_rfl) (by kernel_rfl)).symm, S⟩
          have e0 : ρ (.tmp 63) = .bool true := by rw [hρ]; exact acts_eval_hit 20 rfl hd.1 (by rw [HSZ]; rfl) (by kernel_rfl)
          have e1 : ρ (.tmp 65) = .bool true := by rw [hρ]; exact acts_eval_hit 22 rfl hd.2.1 (by rw [HSZ]; rfl) (by kernel_rfl)
          have ec : ∀ v, ρ (.const v) = v := by rw [hρ]; exact fun _ => rfl
          clear hρ
          go_simp
        · intro f W h24 hd S
          refine wpOp_run (v := .bool true) rfl rfl (fun ρ hρ => ?_) ⟨(acts_some 24 rfl (by kernel_rfl) (by kernel_rfl)).symm, S⟩
          have e0 : ρ (.tmp 66) = .bool true := by rw [hρ]; exact acts_eval_hit 23 rfl hd.1 (by rw [HSZ]; rfl) (by kernel_rfl)
          clear hρ
          go_simp
        · intro f W h25 hd S
          refine wpOp_callG rfl (wanted_hit (t := 67) rfl rfl (acts_eval_hit 24 rfl hd.1 (by rw [HSZ]; rfl) (by kernel_rfl))) (fun ρ hρ => ?_) (law_awake2 W) ?_
          · skip
            have ef : ρ (.func 9) = .func (.func 9) #[] #[] := by rw [hρ]; rfl
            clear hρ
            go_simp
          · rintro e W' ⟨rfl, hb⟩
            exact ⟨_, rfl, (acts_some 25 rfl (by kernel_rfl) (by kernel_rfl)).symm, S.below hb⟩
        · intro f W h26 hd S
          refine wpOp_run (v := .bool true) rfl rfl (fun ρ hρ => ?_) ⟨(acts_some 26 rfl (by kernel_rfl) (by kernel_rfl)).symm, S⟩
          have e0 : ρ (.tmp 67) = .bool true := by rw [hρ]; exact acts_eval_hit 24 rfl hd.1 (by rw [HSZ]; rfl) (by kernel_rfl)
          have e1 : ρ (.tmp 68) = .bool true := by rw [hρ]; exact acts_eval_hit 25 rfl hd.2.1 (by rw [HSZ]; rfl) (by kernel_rfl)
          have ec : ∀ v, ρ (.const v) = v := by rw [hρ]; exact fun _ => rfl
          clear hρ
          go_simp
        · intro f W h27 hd S
          refine wpOp_run (v := .bool true) rfl rfl (fun ρ hρ => ?_) ⟨(acts_some 27 rfl (by kernel_rfl) (by kernel_rfl)).symm, S⟩
          have e0 : ρ (.tmp 69) = .bool true := by rw [hρ]; exact acts_eval_hit 26 rfl hd.1 (by rw [HSZ]; rfl) (by kernel_rfl)
          clear hρ
          go_simp
      · intro W2 S2
        subst ha0
        simp only [acts, if_true, Act.put, List.setIfInBounds_toArray, List.set_cons_succ, List.set_cons_zero]
        clear S3 HSZ E0 E5 E6 E8
        go_wp2_with fail
        exact hK.out _ _ ⟨rfl, S2.above hG⟩
    · rw [show fromA (some (⟨b0, o0, none⟩ : Addr)) c 9 = some ⟨b0, o0 + 9, none⟩ from if_neg h9c] at hv
      refine wp_act fun a0 ha0 => ?_
      have HSZ : a0.tmps.size = 70 := by rw [ha0]; rfl
      have E0 : a0.eval (.tmp 0) = .slice (some ⟨b0, o0, none⟩) bs.length c := by rw [ha0]; rfl
      have E5 : a0.eval (.tmp 5) = .pointer (some ⟨p, 0, none⟩) := by rw [ha0]; rfl
      have E6 : a0.eval (.tmp 6) = .int .i64 (9 + n) := by rw [ha0]; rfl
      have E8 : a0.eval (.tmp 8) = .pointer (some ⟨q, 0, none⟩) := by rw [ha0]; rfl
      refine wp_region_sat (by kernel_rfl) 28 (by kernel_rfl) [[], [0], [], [2], [], [4], [], [1, 3, 5, 6], [], [7, 8], [9], [10], [11, 10], [12, 10], [10], [10], [14, 15, 10], [16, 10], [13, 17, 10], [10, 18], [19, 10], [20], [21, 20, 20], [20, 22], [23, 22], [24, 24], [24, 25], [26, 25, 0, 1, 2, 3, 4, 5, 6, 7, 8, 9, 10, 11, 12, 13, 14, 15, 16, 17, 18, 19, 20, 21, 22, 23, 24, 25, 26]] (by kernel_rfl) (by kernel_rfl) [(0, 43, .pointer (some ⟨p, 0, none⟩)), (1, 44, .int .i64 T), (2, 45, .pointer (some ⟨p, 1, none⟩)), (3, 46, .int .i64 F), (4, 47, .pointer (some ⟨p, 2, none⟩)), (5, 48, .int .i64 D), (6, 49, .int .i64 (9 + n)), (7, 50, .agg #[.int .i64 T, .int .i64 F, .int .i64 D, .int .i64 (9 + n)]), (8, 51, .agg #[.int .i64 T, .int .i64 F, .int .i64 D, .int .i64 (9 + n)]), (9, 52, .bool true), (10, 53, .bool true), (11, 54, .pointer (some ⟨p, 3, none⟩)), (12, 55, .slice X pl.length cx), (13, 56, .string (bstr pl)), (14, 57, .slice (some ⟨b0, o0, none⟩) bs.length c), (15, 58, .int .i64 (9 + n)), (16, 59, .slice (some ⟨b0, o0 + 9, none⟩) n (c - 9)), (17, 60, .string (bstr pl)), (18, 61, .bool true), (19, 62, .bool true), (20, 63, .bool true), (21, 64, .agg #[.int .i64 T, .int .i64 F, .int .i64 D, .slice X pl.length cx]), (22, 65, .bool true), (23, 66, .bool true), (24, 67, .bool true), (25, 68, .bool true), (26, 69, .bool true), (27, 4, .bool true)] (fun _ => [blk q #[.int .i64 T, .int .i64 F, .int .i64 D, .int .i64 (9 + n)] 35, blk p #[.int .i64 T, .int .i64 F, .int .i64 D, .slice X pl.length cx] 24]) (by kernel_rfl) S3 ?_ ?_
      · refine ⟨?_, ?_, ?_, ?_, ?_, ?_, ?_, ?_, ?_, ?_, ?_, ?_, ?_, ?_, ?_, ?_, ?_, ?_, ?_, ?_, ?_, ?_, ?_, ?_, ?_, ?_, ?_, ?_, trivial⟩
        · intro f W h0 hd S
          refine wpOp_run (v := .pointer (some ⟨p, 0, none⟩)) rfl rfl (fun ρ hρ => ?_) ⟨(acts_some 0 rfl (by kernel_rfl) (by kernel_rfl)).symm, S⟩
          have e0 : ρ (.tmp 5) = .pointer (some ⟨p, 0, none⟩) := by rw [hρ]; exact (acts_eval_tmp 5 (by kernel_rfl)).trans E5
          clear hρ
          go_simp
        · intro f W h1 hd S
          refine wpOp_run (v := .int .i64 T) rfl rfl (fun ρ hρ => ?_) ⟨(acts_some 1 rfl (by kernel_rfl) (by kernel_rfl)).symm, S⟩
          have e0 : ρ (.tmp 43) = .pointer (some ⟨p, 0, none⟩) := by rw [hρ]; exact acts_eval_hit 0 rfl hd.1 (by rw [HSZ]; rfl) (by kernel_rfl)
          clear hρ
          (have hc0 : W.cell? ⟨p, 0, none⟩ = some (.int .i64 T) := S.swap.cell 0)
          go_simp
        · intro f W h2 hd S
          refine wpOp_run (v := .pointer (some ⟨p, 1, none⟩)) rfl rfl (fun ρ hρ => ?_) ⟨(acts_some 2 rfl (by kernel_rfl) (by kernel_rfl)).symm, S⟩
          have e0 : ρ (.tmp 5) = .pointer (some ⟨p, 0, none⟩) := by rw [hρ]; exact (acts_eval_tmp 5 (by kernel_rfl)).trans E5
          clear hρ
          go_simp
        · intro f W h3 hd S
          refine wpOp_run (v := .int .i64 F) rfl rfl (fun ρ hρ => ?_) ⟨(acts_some 3 rfl (by kernel_rfl) (by kernel_rfl)).symm, S⟩
          have e0 : ρ (.tmp 45) = .pointer (some ⟨p, 1, none⟩) := by rw [hρ]; exact acts_eval_hit 2 rfl hd.1 (by rw [HSZ]; rfl) (by kernel_rfl)
          clear hρ
          (have hc0 : W.cell? ⟨p, 1, none⟩ = some (.int .i64 F) := S.swap.cell 1)
          go_simp
        · intro f W h4 hd S
          refine wpOp_run (v := .pointer (some ⟨p, 2, none⟩)) rfl rfl (fun ρ hρ => ?_) ⟨(acts_some 4 rfl (by kernel_rfl) (by kernel_rfl)).symm, S⟩
          have e0 : ρ (.tmp 5) = .pointer (some ⟨p, 0, none⟩) := by rw [hρ]; exact (acts_eval_tmp 5 (by kernel_rfl)).trans E5
          clear hρ
          go_simp
        · intro f W h5 hd S
          refine wpOp_run (v := .int .i64 D) rfl rfl (fun ρ hρ => ?_) ⟨(acts_some 5 rfl (by kernel_rfl) (by kernel_rfl)).symm, S⟩
          have e0 : ρ (.tmp 47) = .pointer (some ⟨p, 2, none⟩) := by rw [hρ]; exact acts_eval_hit 4 rfl hd.1 (by rw [HSZ]; rfl) (by kernel_rfl)
          clear hρ
          (have hc0 : W.cell? ⟨p, 2, none⟩ = some (.int .i64 D) := S.swap.cell 2)
          go_simp
        · intro f W h6 hd S
          refine wpOp_run (v := .int .i64 (9 + n)) rfl rfl (fun ρ hρ => ?_) ⟨(acts_some 6 rfl (by kernel_rfl) (by kernel_rfl)).symm, S⟩
          have e0 : ρ (.tmp 6) = .int .i64 (9 + n) := by rw [hρ]; exact (acts_eval_tmp 6 (by kernel_rfl)).trans E6
          clear hρ
          go_simp
        · intro f W h7 hd S
          refine wpOp_run (v := .agg #[.int .i64 T, .int .i64 F, .int .i64 D, .int .i64 (9 + n)]) rfl rfl (fun ρ hρ => ?_) ⟨(acts_some 7 rfl (by kernel_rfl) (by kernel_rfl)).symm, S⟩
          have e0 : ρ (.tmp 44) = .int .i64 T := by rw [hρ]; exact acts_eval_hit 1 rfl hd.1 (by rw [HSZ]; rfl) (by kernel_rfl)
          have e1 : ρ (.tmp 46) = .int .i64 F := by rw [hρ]; exact acts_eval_hit 3 rfl hd.2.1 (by rw [HSZ]; rfl) (by kernel_rfl)
          have e2 : ρ (.tmp 48) = .int .i64 D := by rw [hρ]; exact acts_eval_hit 5 rfl hd.2.2.1 (by rw [HSZ]; rfl) (by kernel_rfl)
          have e3 : ρ (.tmp 49) = .int .i64 (9 + n) := by rw [hρ]; exact acts_eval_hit 6 rfl hd.2.2.2.1 (by rw [HSZ]; rfl) (by kernel_rfl)
          clear hρ
          go_simp
        · intro f W h8 hd S
          refine wpOp_list rfl ?_
          refine st_load rfl _ _ rfl _ ((acts_eval_tmp 8 (by kernel_rfl)).trans E8) _ _ (S) _ rfl rfl rfl ?_
          exact ⟨(acts_some 8 rfl (by kernel_rfl) (by kernel_rfl)).symm, S⟩
        · intro f W h9 hd S
          refine wpOp_run (v := .bool true) rfl rfl (fun ρ hρ => ?_) ⟨(acts_some 9 rfl (by kernel_rfl) (by kernel_rfl)).symm, S⟩
          have e0 : ρ (.tmp 50) = .agg #[.int .i64 T, .int .i64 F, .int .i64 D, .int .i64 (9 + n)] := by rw [hρ]; exact acts_eval_hit 7 rfl hd.1 (by rw [HSZ]; rfl) (by kernel_rfl)
          have e1 : ρ (.tmp 51) = .agg #[.int .i64 T, .int .i64 F, .int .i64 D, .int .i64 (9 + n)] := by rw [hρ]; exact acts_eval_hit 8 rfl hd.2.1 (by rw [HSZ]; rfl) (by kernel_rfl)
          clear hρ
          (have hea := eq_arr4 T F D (9 + n) W)
          go_simp
        · intro f W h10 hd S
          refine wpOp_run (v := .bool true) rfl rfl (fun ρ hρ => ?_) ⟨(acts_some 10 rfl (by kernel_rfl) (by kernel_rfl)).symm, S⟩
          have e0 : ρ (.tmp 52) = .bool true := by rw [hρ]; exact acts_eval_hit 9 rfl hd.1 (by rw [HSZ]; rfl) (by kernel_rfl)
          clear hρ
          go_simp
        · intro f W h11 hd S
          refine wpOp_runG (v := .pointer (some ⟨p, 3, none⟩)) rfl ?_ (fun ρ hρ => ?_) ⟨(acts_some 11 rfl (by kernel_rfl) (by kernel_rfl)).symm, S⟩
          · exact wanted_hit (t := 53) rfl rfl (acts_eval_hit 10 rfl hd.1 (by rw [HSZ]; rfl) (by kernel_rfl))
          · skip
            have e0 : ρ (.tmp 5) = .pointer (some ⟨p, 0, none⟩) := by rw [hρ]; exact (acts_eval_tmp 5 (by kernel_rfl)).trans E5
            clear hρ
            go_simp
        · intro f W h12 hd S
          refine wpOp_runG (v := .slice X pl.length cx) rfl ?_ (fun ρ hρ => ?_) ⟨(acts_some 12 rfl (by kernel_rfl) (by kernel_rfl)).symm, S⟩
          · exact wanted_hit (t := 53) rfl rfl (acts_eval_hit 10 rfl hd.2.1 (by rw [HSZ]; rfl) (by kernel_rfl))
          · skip
            have e0 : ρ (.tmp 54) = .pointer (some ⟨p, 3, none⟩) := by rw [hρ]; exact acts_eval_hit 11 rfl hd.1 (by rw [HSZ]; rfl) (by kernel_rfl)
            clear hρ
            (have hc0 : W.cell? ⟨p, 3, none⟩ = some (.slice X pl.length cx) := S.swap.cell 3)
            go_simp
        · intro f W h13 hd S
          refine wpOp_runG (v := .string (bstr pl)) rfl ?_ (fun ρ hρ => ?_) ⟨(acts_some 13 rfl (by kernel_rfl) (by kernel_rfl)).symm, S⟩
          · exact wanted_hit (t := 53) rfl rfl (acts_eval_hit 10 rfl hd.2.1 (by rw [HSZ]; rfl) (by kernel_rfl))
          · skip
            have e0 : ρ (.tmp 55) = .slice X pl.length cx := by rw [hρ]; exact acts_eval_hit 12 rfl hd.1 (by rw [HSZ]; rfl) (by kernel_rfl)
            clear hρ
            (have hcv := conv_bytes _ pl W (hu.sat S).1)
            go_simp
        · intro f W h14 hd S
          refine wpOp_runG (v := .slice (some ⟨b0, o0, none⟩) bs.length c) rfl ?_ (fun ρ hρ => ?_) ⟨(acts_some 14 rfl (by kernel_rfl) (by kernel_rfl)).symm, S⟩
          · exact wanted_hit (t := 53) rfl rfl (acts_eval_hit 10 rfl hd.1 (by rw [HSZ]; rfl) (by kernel_rfl))
          · skip
            have e0 : ρ (.tmp 0) = .slice (some ⟨b0, o0, none⟩) bs.length c := by rw [hρ]; exact (acts_eval_tmp 0 (by kernel_rfl)).trans E0
            clear hρ
            go_simp
        · intro f W h15 hd S
          refine wpOp_runG (v := .int .i64 (9 + n)) rfl ?_ (fun ρ hρ => ?_) ⟨(acts_some 15 rfl (by kernel_rfl) (by kernel_rfl)).symm, S⟩
          · exact wanted_hit (t := 53) rfl rfl (acts_eval_hit 10 rfl hd.1 (by rw [HSZ]; rfl) (by kernel_rfl))
          · skip
            have e0 : ρ (.tmp 6) = .int .i64 (9 + n) := by rw [hρ]; exact (acts_eval_tmp 6 (by kernel_rfl)).trans E6
            clear hρ
            go_simp
        · intro f W h16 hd S
          refine wpOp_runG (v := .slice (some ⟨b0, o0 + 9, none⟩) n (c - 9)) rfl ?_ (fun ρ hρ => ?_) ⟨(acts_some 16 rfl (by kernel_rfl) (by kernel_rfl)).symm, S⟩
          · exact wanted_hit (t := 53) rfl rfl (acts_eval_hit 10 rfl hd.2.2.1 (by rw [HSZ]; rfl) (by kernel_rfl))
          · skip
            have e0 : ρ (.tmp 57) = .slice (some ⟨b0, o0, none⟩) bs.length c := by rw [hρ]; exact acts_eval_hit 14 rfl hd.1 (by rw [HSZ]; rfl) (by kernel_rfl)
            have e1 : ρ (.tmp 58) = .int .i64 (9 + n) := by rw [hρ]; exact acts_eval_hit 15 rfl hd.2.1 (by rw [HSZ]; rfl) (by kernel_rfl)
            have ec : ∀ v, ρ (.const v) = v := by rw [hρ]; exact fun _ => rfl
            clear hρ
            skip
            go_simp
            rw [if_pos ⟨by omega, by omega⟩, if_pos (by omega), show (9 + (n : Int)).toNat - 9 = n by omega]
        · intro f W h17 hd S
          refine wpOp_runG (v := .string (bstr pl)) rfl ?_ (fun ρ hρ => ?_) ⟨(acts_some 17 rfl (by kernel_rfl) (by kernel_rfl)).symm, S⟩
          · exact wanted_hit (t := 53) rfl rfl (acts_eval_hit 10 rfl hd.2.1 (by rw [HSZ]; rfl) (by kernel_rfl))
          · skip
            have e0 : ρ (.tmp 59) = .slice (some ⟨b0, o0 + 9, none⟩) n (c - 9) := by rw [hρ]; exact acts_eval_hit 16 rfl hd.1 (by rw [HSZ]; rfl) (by kernel_rfl)
            clear hρ
            (have hcv := conv_bytes _ pl W (hv.sat S).1)
            go_simp
        · intro f W h18 hd S
          refine wpOp_runG (v := .bool true) rfl ?_ (fun ρ hρ => ?_) ⟨(acts_some 18 rfl (by kernel_rfl) (by kernel_rfl)).symm, S⟩
          · exact wanted_hit (t := 53) rfl rfl (acts_eval_hit 10 rfl hd.2.2.1 (by rw [HSZ]; rfl) (by kernel_rfl))
          · skip
            have e0 : ρ (.tmp 56) = .string (bstr pl) := by rw [hρ]; exact acts_eval_hit 13 rfl hd.1 (by rw [HSZ]; rfl) (by kernel_rfl)
            have e1 : ρ (.tmp 60) = .string (bstr pl) := by rw [hρ]; exact acts_eval_hit 17 rfl hd.2.1 (by rw [HSZ]; rfl) (by kernel_rfl)
            clear hρ
            go_simp
        · intro f W h19 hd S
          refine wpOp_run (v := .bool true) rfl rfl (fun ρ hρ => ?_) ⟨(acts_some 19 rfl (by kernel_rfl) (by kernel_rfl)).symm, S⟩
          have e0 : ρ (.tmp 53) = .bool true := by rw [hρ]; exact acts_eval_hit 10 rfl hd.1 (by rw [HSZ]; rfl) (by kernel_rfl)
          have e1 : ρ (.tmp 61) = .bool true := by rw [hρ]; exact acts_eval_hit 18 rfl hd.2.1 (by rw [HSZ]; rfl) (by kernel_rfl)
          have ec : ∀ v, ρ (.const v) = v := by rw [hρ]; exact fun _ => rfl
          clear hρ
          go_simp
        · intro f W h20 hd S
          refine wpOp_run (v := .bool true) rfl rfl (fun ρ hρ => ?_) ⟨(acts_some 20 rfl (by kernel_rfl) (by kernel_rfl)).symm, S⟩
          have e0 : ρ (.tmp 62) = .bool true := by rw [hρ]; exact acts_eval_hit 19 rfl hd.1 (by rw [HSZ]; rfl) (by kernel_rfl)
          clear hρ
          go_simp
        · intro f W h21 hd S
          refine wpOp_runG (v := .agg #[.int .i64 T, .int .i64 F, .int .i64 D, .slice X pl.length cx]) rfl ?_ (fun ρ hρ => ?_) ⟨(acts_some 21 rfl (by kernel_rfl) (by kernel_rfl)).symm, S⟩
          · exact wanted_hit (t := 63) rfl rfl (acts_eval_hit 20 rfl hd.1 (by rw [HSZ]; rfl) (by kernel_rfl))
          · skip
            have e0 : ρ (.tmp 5) = .pointer (some ⟨p, 0, none⟩) := by rw [hρ]; exact (acts_eval_tmp 5 (by kernel_rfl)).trans E5
            clear hρ
            (have hc0 : W.cell? ⟨p, 0, none⟩ = some (.int .i64 T) := S.swap.cell 0; have hc1 : W.cell? ⟨p, 1, none⟩ = some (.int .i64 F) := S.swap.cell 1; have hc2 : W.cell? ⟨p, 2, none⟩ = some (.int .i64 D) := S.swap.cell 2; have hc3 : W.cell? ⟨p, 3, none⟩ = some (.slice X pl.length cx) := S.swap.cell 3)
            go_simp
        · intro f W h22 hd S
          refine wpOp_callG rfl (wanted_hit (t := 63) rfl rfl (acts_eval_hit 20 rfl hd.2.1 (by rw [HSZ]; rfl) (by kernel_rfl))) (fun ρ hρ => ?_) (frame_right S T F D X pl.length cx) ?_
          · skip
            have e0 : ρ (.tmp 64) = .agg #[.int .i64 T, .int .i64 F, .int .i64 D, .slice X pl.length cx] := by rw [hρ]; exact acts_eval_hit 21 rfl hd.1 (by rw [HSZ]; rfl) (by kernel_rfl)
            have ef : ρ (.func 11) = .func (.func 11) #[] #[] := by rw [hρ]; rfl
            clear hρ
            go_simp
          · (rintro e W' ⟨rfl, S'⟩; rw [hrt]; exact ⟨_, rfl, (acts_some 22 rfl (by kernel_rfl) (by kernel_rfl)).symm, S'⟩)
        · intro f W h23 hd S
          refine wpOp_run (v := .bool true) rfl rfl (fun ρ hρ => ?_) ⟨(acts_some 23 rfl (by kernel_rfl) (by kernel_rfl)).symm, S⟩
          have e0 : ρ (.tmp 63) = .bool true := by rw [hρ]; exact acts_eval_hit 20 rfl hd.1 (by rw [HSZ]; rfl) (by kernel_rfl)
          have e1 : ρ (.tmp 65) = .bool true := by rw [hρ]; exact acts_eval_hit 22 rfl hd.2.1 (by rw [HSZ]; rfl) (by kernel_rfl)
          have ec : ∀ v, ρ (.const v) = v := by rw [hρ]; exact fun _ => rfl
          clear hρ
          go_simp
        · intro f W h24 hd S
          refine wpOp_run (v := .bool true) rfl rfl (fun ρ hρ => ?_) ⟨(acts_some 24 rfl (by kernel_rfl) (by kernel_rfl)).symm, S⟩
          have e0 : ρ (.tmp 66) = .bool true := by rw [hρ]; exact acts_eval_hit 23 rfl hd.1 (by rw [HSZ]; rfl) (by kernel_rfl)
          clear hρ
          go_simp
        · intro f W h25 hd S
          refine wpOp_callG rfl (wanted_hit (t := 67) rfl rfl (acts_eval_hit 24 rfl hd.1 (by rw [HSZ]; rfl) (by kernel_rfl))) (fun ρ hρ => ?_) (law_awake2 W) ?_
          · skip
            have ef : ρ (.func 9) = .func (.func 9) #[] #[] := by rw [hρ]; rfl
            clear hρ
            go_simp
          · rintro e W' ⟨rfl, hb⟩
            exact ⟨_, rfl, (acts_some 25 rfl (by kernel_rfl) (by kernel_rfl)).symm, S.below hb⟩
        · intro f W h26 hd S
          refine wpOp_run (v := .bool true) rfl rfl (fun ρ hρ => ?_) ⟨(acts_some 26 rfl (by kernel_rfl) (by kernel_rfl)).symm, S⟩
          have e0 : ρ (.tmp 67) = .bool true := by rw [hρ]; exact acts_eval_hit 24 rfl hd.1 (by rw [HSZ]; rfl) (by kernel_rfl)
          have e1 : ρ (.tmp 68) = .bool true := by rw [hρ]; exact acts_eval_hit 25 rfl hd.2.1 (by rw [HSZ]; rfl) (by kernel_rfl)
          have ec : ∀ v, ρ (.const v) = v := by rw [hρ]; exact fun _ => rfl
          clear hρ
          go_simp
        · intro f W h27 hd S
          refine wpOp_run (v := .bool true) rfl rfl (fun ρ hρ => ?_) ⟨(acts_some 27 rfl (by kernel_rfl) (by kernel_rfl)).symm, S⟩
          have e0 : ρ (.tmp 69) = .bool true := by rw [hρ]; exact acts_eval_hit 26 rfl hd.1 (by rw [HSZ]; rfl) (by kernel_rfl)
          clear hρ
          go_simp
      · intro W2 S2
        subst ha0
        simp only [acts, if_true, Act.put, List.setIfInBounds_toArray, List.set_cons_succ, List.set_cons_zero]
        clear S3 HSZ E0 E5 E6 E8
        go_wp2_with fail
        exact hK.out _ _ ⟨rfl, S2.above hG⟩
end Go.Proofs.Ytjhhabaeaekejaa
