/- The walk of the law CellFills. -/
import Derived.Test.YthenpoammpkjeaaCounts
import Derived.IntWalk
set_option linter.unusedSimpArgs false
set_option linter.unusedVariables false
namespace Go.Proofs.Ythenpoammpkjeaa
open Go.RowKit

theorem awake_below (w : World) : Calls Try.prog 9 #[] w fun e w' => e = .returned (.bool true) ∧ Below w.heap.size w w' :=
  (law_awake (Sat.start w)).mono fun e w' ⟨h, G', hG, S⟩ => ⟨h, S.above hG⟩
theorem law_right (n : Int) (w : World) : Calls Try.prog 11 #[.int .i64 n] w fun e w' => e = .returned (.bool (clRight n)) ∧ w = w' := by
  refine calls_any fun K hK => ?_
  by_cases a1 : n ≥ 1
  · by_cases a2 : n ≤ 1024
    · rw [show clRight n = true from decide_eq_true ⟨a1, a2⟩] at hK
      replace a1 := decide_eq_true a1
      replace a2 := decide_eq_true a2
      go_enter Try.func11, Try.ntmps11
      go_wp2_with fail
      exact hK.out _ _ ⟨rfl, rfl⟩
    · rw [show clRight n = false from decide_eq_false fun h => a2 h.2] at hK
      replace a1 := decide_eq_true a1
      replace a2 := decide_eq_false a2
      go_enter Try.func11, Try.ntmps11
      go_wp2_with fail
      exact hK.out _ _ ⟨rfl, rfl⟩
  · rw [show clRight n = false from decide_eq_false fun h => a1 h.1] at hK
    replace a1 := decide_eq_false a1
    go_enter Try.func11, Try.ntmps11
    go_wp2_with fail
    exact hK.out _ _ ⟨rfl, rfl⟩
set_option maxHeartbeats 4000000 in
set_option maxRecDepth 100000 in
theorem cellFills_walk (w : World) (v0 v1 : Value) (h0 : ∃ d, ArgV w (.sl 1 (.int .u8)) v0 d) (h1 : ∃ d, ArgV w (.int .i64) v1 d) :
    Calls Try.prog 3 #[v0, v1] w fun e w' => e = .returned (.bool true) ∧ Below w.heap.size w w' := by
  refine calls_any fun K hK => ?_
  obtain ⟨_, h0⟩ := h0
  obtain ⟨ll, h0⟩ := arg_sl h0
  obtain ⟨b, -, hblen, hb⟩ := slb_of h0
  obtain ⟨_, h1⟩ := h1
  obtain ⟨n, rfl, hn⟩ := arg_int h1
  clear h0 h1
  obtain ⟨n0, n1⟩ := bounds_i64 hn
  clear hn
  have S0 := Sat.start w
  obtain ⟨A, c, rfl, hc1, hc2, hcA⟩ := hb.form
  by_cases a1 : 1200 < (b.length : Int)
  · go_enter Try.func3, Try.ntmps3
    go_wp2_with ((go_at_call 9; (with_reducible refine (awake_below _).mono ?_); rintro e w9 ⟨rfl, hb9⟩))
    exact hK.out _ _ ⟨rfl, hb9⟩
  have hf := cell_fill S0 _ b n hb (by omega)
  have hrl := fun w => law_right n w
  have hlen := fun w => cell_len n w
  have hroom := fun w => cell_room n w
  cases h : clRight n with
  | false =>
    rw [h] at hrl
    rw [show clLen n = 0 by unfold clLen; rw [h]; rfl] at hlen
    rw [show clRoom n = 0 by unfold clRoom; rw [h]; rfl] at hroom
    go_enter Try.func3, Try.ntmps3
    go_wp2_with fail
    (with_reducible refine hf.mono ?_)
    clear hf S0
    rintro e w1 ⟨G1, hG1, S1, ⟨-, rfl⟩ | ⟨h2, -⟩ | ⟨h2, -⟩⟩
    rotate_left
    · rw [h] at h2; cases h2
    · rw [h] at h2; cases h2
    go_wp2_with (first | (go_at_call 9; (with_reducible refine (awake_below _).mono ?_); rintro e w9 ⟨rfl, hb9⟩) | (go_at_call 11; (with_reducible refine (hrl _).mono ?_); rintro e w8 ⟨rfl, rfl⟩) | (go_at_call 12; (with_reducible refine (hlen _).mono ?_); rintro e w8 ⟨rfl, rfl⟩) | (go_at_call 13; (with_reducible refine (hroom _).mono ?_); rintro e w8 ⟨rfl, rfl⟩))
    exact hK.out _ _ ⟨rfl, (S1.below hb9).above hG1⟩
  | true =>
    rw [h] at hrl
    obtain ⟨h1, h2⟩ := right_bounds h
    rw [show clLen n = n + 18 by unfold clLen; rw [h]; rfl] at hlen
    rw [show clRoom n = n + 9 by unfold clRoom; rw [h]; rfl] at hroom
    by_cases hlt : n + 9 < (b.length : Int)
    · go_enter Try.func3, Try.ntmps3
      go_wp2_with fail
      (with_reducible refine hf.mono ?_)
      clear hf S0
      rintro e w1 ⟨G1, hG1, S1, ⟨h2, -⟩ | ⟨-, -, rfl⟩ | ⟨-, z, hz, -⟩⟩
      · rw [h] at h2; cases h2
      rotate_left
      · omega
      go_wp2_with (first | (go_at_call 9; (with_reducible refine (awake_below _).mono ?_); rintro e w9 ⟨rfl, hb9⟩) | (go_at_call 11; (with_reducible refine (hrl _).mono ?_); rintro e w8 ⟨rfl, rfl⟩))
      exact hK.out _ _ ⟨rfl, (S1.below hb9).above hG1⟩
    · go_enter Try.func3, Try.ntmps3
      go_wp2_with fail
      (with_reducible refine hf.mono ?_)
      clear hf S0
      rintro e w1 ⟨G1, hG1, S1, ⟨h2, -⟩ | ⟨-, hlt2, -⟩ | ⟨-, z, hz, u, rfl, hu⟩⟩
      · rw [h] at h2; cases h2
      · omega
      have hlz := fillB_length b z
      have hrf := ref20_fill b n z hz (by omega) h2 h1
      have hbs := hb.mono hG1
      generalize fillB b z = FB at *
      obtain ⟨N, rfl⟩ : ∃ N : Nat, n = N := ⟨n.toNat, by omega⟩
      have hF : FB.length = N + 18 := by omega
      obtain ⟨U, cu, he, -, -, -⟩ := hu.form
      rw [hF] at he
      subst he
      have HZ := Lib.hid hz
      clear hz hlz hb
      go_upto_region 8 with (go_at_call 11; (with_reducible refine (hrl _).mono ?_); rintro e w8 ⟨rfl, rfl⟩)
      have HF := Lib.hid hF
      clear hF
      refine wp_act fun a0 ha0 => ?_
      have HSZ : a0.tmps.size = 92 := by rw [ha0]; rfl
      have E0 : a0.eval (.tmp 0) = .slice A b.length c := by rw [ha0]; rfl
      have E1 : a0.eval (.tmp 1) = .int .i64 N := by rw [ha0]; rfl
      have E5 : a0.eval (.tmp 5) = .slice U (N + 18) cu := by rw [ha0]; rfl
      have E6 : a0.eval (.tmp 6) = .int .i64 0 := by rw [ha0]; rfl
      refine wp_region_sat (by kernel_rfl) 36 (by kernel_rfl) [[], [0], [1], [2], [3, 2], [2], [5, 2], [2], [6, 7, 2, 2], [4, 8, 2], [2, 9], [10, 8], [11], [12, 11], [11], [14, 11, 11], [13, 15, 11], [11, 16], [17, 15], [18], [19, 18, 18], [18], [21, 18], [20, 22, 18], [18, 23], [24, 20], [25], [26, 25, 25], [25], [28, 25], [27, 29, 25], [25, 30], [31, 27], [32, 32], [32, 33], [34, 33, 0, 1, 2, 3, 4, 5, 6, 7, 8, 9, 10, 11, 12, 13, 14, 15, 16, 17, 18, 19, 20, 21, 22, 23, 24, 25, 26, 27, 28, 29, 30, 31, 32, 33, 34]] (by kernel_rfl) (by kernel_rfl) [(0, 57, .int .i64 0), (1, 58, .bool true), (2, 59, .bool true), (3, 60, .slice U (N + 18) cu), (4, 61, .string (bstr FB)), (5, 62, .slice A b.length c), (6, 63, .string (bstr b)), (7, 64, .int .i64 N), (8, 65, .string (bstr FB)), (9, 66, .bool true), (10, 67, .bool true), (11, 68, .bool true), (12, 69, .slice U (N + 18) cu), (13, 70, .int .i64 (N + 18)), (14, 71, .int .i64 N), (15, 72, .int .i64 (N + 18)), (16, 73, .bool true), (17, 74, .bool true), (18, 75, .bool true), (19, 76, .int .i64 N), (20, 77, .int .i64 (N + 18)), (21, 78, .int .i64 N), (22, 79, .int .i64 (N + 18)), (23, 80, .bool true), (24, 81, .bool true), (25, 82, .bool true), (26, 83, .int .i64 N), (27, 84, .int .i64 (N + 9)), (28, 85, .int .i64 N), (29, 86, .int .i64 (N + 9)), (30, 87, .bool true), (31, 88, .bool true), (32, 89, .bool true), (33, 90, .bool true), (34, 91, .bool true), (35, 4, .bool true)] (fun _ => []) (by kernel_rfl) S1 ?_ ?_
      · refine ⟨?_, ?_, ?_, ?_, ?_, ?_, ?_, ?_, ?_, ?_, ?_, ?_, ?_, ?_, ?_, ?_, ?_, ?_, ?_, ?_, ?_, ?_, ?_, ?_, ?_, ?_, ?_, ?_, ?_, ?_, ?_, ?_, ?_, ?_, ?_, ?_, trivial⟩
        · intro f W h0 hd S
          refine wpOp_run (v := .int .i64 0) rfl rfl (fun ρ hρ => ?_) ⟨(acts_some 0 rfl (by kernel_rfl) (by kernel_rfl)).symm, S⟩
          have e0 : ρ (.tmp 6) = .int .i64 0 := by rw [hρ]; exact (acts_eval_tmp 6 (by kernel_rfl)).trans E6
          clear hρ
          go_simp
        · intro f W h1 hd S
          refine wpOp_run (v := .bool true) rfl rfl (fun ρ hρ => ?_) ⟨(acts_some 1 rfl (by kernel_rfl) (by kernel_rfl)).symm, S⟩
          have e0 : ρ (.tmp 57) = .int .i64 0 := by rw [hρ]; exact acts_eval_hit 0 rfl hd.1 (by rw [HSZ]; rfl) (by kernel_rfl)
          have ec : ∀ v, ρ (.const v) = v := by rw [hρ]; exact fun _ => rfl
          clear hρ
          go_simp
        · intro f W h2 hd S
          refine wpOp_run (v := .bool true) rfl rfl (fun ρ hρ => ?_) ⟨(acts_some 2 rfl (by kernel_rfl) (by kernel_rfl)).symm, S⟩
          have e0 : ρ (.tmp 58) = .bool true := by rw [hρ]; exact acts_eval_hit 1 rfl hd.1 (by rw [HSZ]; rfl) (by kernel_rfl)
          clear hρ
          go_simp
        · intro f W h3 hd S
          refine wpOp_runG (v := .slice U (N + 18) cu) rfl ?_ (fun ρ hρ => ?_) ⟨(acts_some 3 rfl (by kernel_rfl) (by kernel_rfl)).symm, S⟩
          · exact wanted_hit (t := 59) rfl rfl (acts_eval_hit 2 rfl hd.1 (by rw [HSZ]; rfl) (by kernel_rfl))
          · skip
            have e0 : ρ (.tmp 5) = .slice U (N + 18) cu := by rw [hρ]; exact (acts_eval_tmp 5 (by kernel_rfl)).trans E5
            clear hρ
            go_simp
        · intro f W h4 hd S
          refine wpOp_runG (v := .string (bstr FB)) rfl ?_ (fun ρ hρ => ?_) ⟨(acts_some 4 rfl (by kernel_rfl) (by kernel_rfl)).symm, S⟩
          · exact wanted_hit (t := 59) rfl rfl (acts_eval_hit 2 rfl hd.2.1 (by rw [HSZ]; rfl) (by kernel_rfl))
          · skip
            have e0 : ρ (.tmp 60) = .slice U (N + 18) cu := by rw [hρ]; exact acts_eval_hit 3 rfl hd.1 (by rw [HSZ]; rfl) (by kernel_rfl)
            clear hρ
            (have hcv := conv_bytes _ FB W (hu.sat S).1)
            go_simp
        · intro f W h5 hd S
          refine wpOp_runG (v := .slice A b.length c) rfl ?_ (fun ρ hρ => ?_) ⟨(acts_some 5 rfl (by kernel_rfl) (by kernel_rfl)).symm, S⟩
          · exact wanted_hit (t := 59) rfl rfl (acts_eval_hit 2 rfl hd.1 (by rw [HSZ]; rfl) (by kernel_rfl))
          · skip
            have e0 : ρ (.tmp 0) = .slice A b.length c := by rw [hρ]; exact (acts_eval_tmp 0 (by kernel_rfl)).trans E0
            clear hρ
            go_simp
        · intro f W h6 hd S
          refine wpOp_runG (v := .string (bstr b)) rfl ?_ (fun ρ hρ => ?_) ⟨(acts_some 6 rfl (by kernel_rfl) (by kernel_rfl)).symm, S⟩
          · exact wanted_hit (t := 59) rfl rfl (acts_eval_hit 2 rfl hd.2.1 (by rw [HSZ]; rfl) (by kernel_rfl))
          · skip
            have e0 : ρ (.tmp 62) = .slice A b.length c := by rw [hρ]; exact acts_eval_hit 5 rfl hd.1 (by rw [HSZ]; rfl) (by kernel_rfl)
            clear hρ
            (have hcv := conv_bytes _ b W (hbs.sat S).1)
            go_simp
        · intro f W h7 hd S
          refine wpOp_runG (v := .int .i64 N) rfl ?_ (fun ρ hρ => ?_) ⟨(acts_some 7 rfl (by kernel_rfl) (by kernel_rfl)).symm, S⟩
          · exact wanted_hit (t := 59) rfl rfl (acts_eval_hit 2 rfl hd.1 (by rw [HSZ]; rfl) (by kernel_rfl))
          · skip
            have e0 : ρ (.tmp 1) = .int .i64 N := by rw [hρ]; exact (acts_eval_tmp 1 (by kernel_rfl)).trans E1
            clear hρ
            go_simp
        · intro f W h8 hd S
          refine wpOp_callG rfl (wanted_hit (t := 59) rfl rfl (acts_eval_hit 2 rfl hd.2.2.1 (by rw [HSZ]; rfl) (by kernel_rfl))) (fun ρ hρ => ?_) (hrf W) ?_
          · skip
            have e0 : ρ (.tmp 63) = .string (bstr b) := by rw [hρ]; exact acts_eval_hit 6 rfl hd.1 (by rw [HSZ]; rfl) (by kernel_rfl)
            have e1 : ρ (.tmp 64) = .int .i64 N := by rw [hρ]; exact acts_eval_hit 7 rfl hd.2.1 (by rw [HSZ]; rfl) (by kernel_rfl)
            have ef : ρ (.func 14) = .func (.func 14) #[] #[] := by rw [hρ]; rfl
            clear hρ
            go_simp
          · rintro e W' ⟨rfl, hb⟩
            exact ⟨_, rfl, (acts_some 8 rfl (by kernel_rfl) (by kernel_rfl)).symm, S.below hb⟩
        · intro f W h9 hd S
          refine wpOp_runG (v := .bool true) rfl ?_ (fun ρ hρ => ?_) ⟨(acts_some 9 rfl (by kernel_rfl) (by kernel_rfl)).symm, S⟩
          · exact wanted_hit (t := 59) rfl rfl (acts_eval_hit 2 rfl hd.2.2.1 (by rw [HSZ]; rfl) (by kernel_rfl))
          · skip
            have e0 : ρ (.tmp 61) = .string (bstr FB) := by rw [hρ]; exact acts_eval_hit 4 rfl hd.1 (by rw [HSZ]; rfl) (by kernel_rfl)
            have e1 : ρ (.tmp 65) = .string (bstr FB) := by rw [hρ]; exact acts_eval_hit 8 rfl hd.2.1 (by rw [HSZ]; rfl) (by kernel_rfl)
            clear hρ
            go_simp
        · intro f W h10 hd S
          refine wpOp_run (v := .bool true) rfl rfl (fun ρ hρ => ?_) ⟨(acts_some 10 rfl (by kernel_rfl) (by kernel_rfl)).symm, S⟩
          have e0 : ρ (.tmp 59) = .bool true := by rw [hρ]; exact acts_eval_hit 2 rfl hd.1 (by rw [HSZ]; rfl) (by kernel_rfl)
          have e1 : ρ (.tmp 66) = .bool true := by rw [hρ]; exact acts_eval_hit 9 rfl hd.2.1 (by rw [HSZ]; rfl) (by kernel_rfl)
          have ec : ∀ v, ρ (.const v) = v := by rw [hρ]; exact fun _ => rfl
          clear hρ
          go_simp
        · intro f W h11 hd S
          refine wpOp_run (v := .bool true) rfl rfl (fun ρ hρ => ?_) ⟨(acts_some 11 rfl (by kernel_rfl) (by kernel_rfl)).symm, S⟩
          have e0 : ρ (.tmp 67) = .bool true := by rw [hρ]; exact acts_eval_hit 10 rfl hd.1 (by rw [HSZ]; rfl) (by kernel_rfl)
          clear hρ
          go_simp
        · intro f W h12 hd S
          refine wpOp_runG (v := .slice U (N + 18) cu) rfl ?_ (fun ρ hρ => ?_) ⟨(acts_some 12 rfl (by kernel_rfl) (by kernel_rfl)).symm, S⟩
          · exact wanted_hit (t := 68) rfl rfl (acts_eval_hit 11 rfl hd.1 (by rw [HSZ]; rfl) (by kernel_rfl))
          · skip
            have e0 : ρ (.tmp 5) = .slice U (N + 18) cu := by rw [hρ]; exact (acts_eval_tmp 5 (by kernel_rfl)).trans E5
            clear hρ
            go_simp
        · intro f W h13 hd S
          refine wpOp_runG (v := .int .i64 (N + 18)) rfl ?_ (fun ρ hρ => ?_) ⟨(acts_some 13 rfl (by kernel_rfl) (by kernel_rfl)).symm, S⟩
          · exact wanted_hit (t := 68) rfl rfl (acts_eval_hit 11 rfl hd.2.1 (by rw [HSZ]; rfl) (by kernel_rfl))
          · skip
            have e0 : ρ (.tmp 69) = .slice U (N + 18) cu := by rw [hρ]; exact acts_eval_hit 12 rfl hd.1 (by rw [HSZ]; rfl) (by kernel_rfl)
            clear hρ
            go_simp
        · intro f W h14 hd S
          refine wpOp_runG (v := .int .i64 N) rfl ?_ (fun ρ hρ => ?_) ⟨(acts_some 14 rfl (by kernel_rfl) (by kernel_rfl)).symm, S⟩
          · exact wanted_hit (t := 68) rfl rfl (acts_eval_hit 11 rfl hd.1 (by rw [HSZ]; rfl) (by kernel_rfl))
          · skip
            have e0 : ρ (.tmp 1) = .int .i64 N := by rw [hρ]; exact (acts_eval_tmp 1 (by kernel_rfl)).trans E1
            clear hρ
            go_simp
        · intro f W h15 hd S
          refine wpOp_callG rfl (wanted_hit (t := 68) rfl rfl (acts_eval_hit 11 rfl hd.2.1 (by rw [HSZ]; rfl) (by kernel_rfl))) (fun ρ hρ => ?_) (hlen W) ?_
          · skip
            have e0 : ρ (.tmp 71) = .int .i64 N := by rw [hρ]; exact acts_eval_hit 14 rfl hd.1 (by rw [HSZ]; rfl) (by kernel_rfl)
            have ef : ρ (.func 12) = .func (.func 12) #[] #[] := by rw [hρ]; rfl
            clear hρ
            go_simp
          · (rintro e W' ⟨rfl, rfl⟩; exact ⟨_, rfl, (acts_some 15 rfl (by kernel_rfl) (by kernel_rfl)).symm, S⟩)
        · intro f W h16 hd S
          refine wpOp_runG (v := .bool true) rfl ?_ (fun ρ hρ => ?_) ⟨(acts_some 16 rfl (by kernel_rfl) (by kernel_rfl)).symm, S⟩
          · exact wanted_hit (t := 68) rfl rfl (acts_eval_hit 11 rfl hd.2.2.1 (by rw [HSZ]; rfl) (by kernel_rfl))
          · skip
            have e0 : ρ (.tmp 70) = .int .i64 (N + 18) := by rw [hρ]; exact acts_eval_hit 13 rfl hd.1 (by rw [HSZ]; rfl) (by kernel_rfl)
            have e1 : ρ (.tmp 72) = .int .i64 (N + 18) := by rw [hρ]; exact acts_eval_hit 15 rfl hd.2.1 (by rw [HSZ]; rfl) (by kernel_rfl)
            clear hρ
            go_simp
        · intro f W h17 hd S
          refine wpOp_run (v := .bool true) rfl rfl (fun ρ hρ => ?_) ⟨(acts_some 17 rfl (by kernel_rfl) (by kernel_rfl)).symm, S⟩
          have e0 : ρ (.tmp 68) = .bool true := by rw [hρ]; exact acts_eval_hit 11 rfl hd.1 (by rw [HSZ]; rfl) (by kernel_rfl)
          have e1 : ρ (.tmp 73) = .bool true := by rw [hρ]; exact acts_eval_hit 16 rfl hd.2.1 (by rw [HSZ]; rfl) (by kernel_rfl)
          have ec : ∀ v, ρ (.const v) = v := by rw [hρ]; exact fun _ => rfl
          clear hρ
          go_simp
        · intro f W h18 hd S
          refine wpOp_run (v := .bool true) rfl rfl (fun ρ hρ => ?_) ⟨(acts_some 18 rfl (by kernel_rfl) (by kernel_rfl)).symm, S⟩
          have e0 : ρ (.tmp 74) = .bool true := by rw [hρ]; exact acts_eval_hit 17 rfl hd.1 (by rw [HSZ]; rfl) (by kernel_rfl)
          clear hρ
          go_simp
        · intro f W h19 hd S
          refine wpOp_runG (v := .int .i64 N) rfl ?_ (fun ρ hρ => ?_) ⟨(acts_some 19 rfl (by kernel_rfl) (by kernel_rfl)).symm, S⟩
          · exact wanted_hit (t := 75) rfl rfl (acts_eval_hit 18 rfl hd.1 (by rw [HSZ]; rfl) (by kernel_rfl))
          · skip
            have e0 : ρ (.tmp 1) = .int .i64 N := by rw [hρ]; exact (acts_eval_tmp 1 (by kernel_rfl)).trans E1
            clear hρ
            go_simp
        · intro f W h20 hd S
          refine wpOp_callG rfl (wanted_hit (t := 75) rfl rfl (acts_eval_hit 18 rfl hd.2.1 (by rw [HSZ]; rfl) (by kernel_rfl))) (fun ρ hρ => ?_) (hlen W) ?_
          · skip
            have e0 : ρ (.tmp 76) = .int .i64 N := by rw [hρ]; exact acts_eval_hit 19 rfl hd.1 (by rw [HSZ]; rfl) (by kernel_rfl)
            have ef : ρ (.func 12) = .func (.func 12) #[] #[] := by rw [hρ]; rfl
            clear hρ
            go_simp
          · (rintro e W' ⟨rfl, rfl⟩; exact ⟨_, rfl, (acts_some 20 rfl (by kernel_rfl) (by kernel_rfl)).symm, S⟩)
        · intro f W h21 hd S
          refine wpOp_runG (v := .int .i64 N) rfl ?_ (fun ρ hρ => ?_) ⟨(acts_some 21 rfl (by kernel_rfl) (by kernel_rfl)).symm, S⟩
          · exact wanted_hit (t := 75) rfl rfl (acts_eval_hit 18 rfl hd.1 (by rw [HSZ]; rfl) (by kernel_rfl))
          · skip
            have e0 : ρ (.tmp 1) = .int .i64 N := by rw [hρ]; exact (acts_eval_tmp 1 (by kernel_rfl)).trans E1
            clear hρ
            go_simp
        · intro f W h22 hd S
          refine wpOp_runG (v := .int .i64 (N + 18)) rfl ?_ (fun ρ hρ => ?_) ⟨(acts_some 22 rfl (by kernel_rfl) (by kernel_rfl)).symm, S⟩
          · exact wanted_hit (t := 75) rfl rfl (acts_eval_hit 18 rfl hd.2.1 (by rw [HSZ]; rfl) (by kernel_rfl))
          · skip
            have e0 : ρ (.tmp 78) = .int .i64 N := by rw [hρ]; exact acts_eval_hit 21 rfl hd.1 (by rw [HSZ]; rfl) (by kernel_rfl)
            have ec : ∀ v, ρ (.const v) = v := by rw [hρ]; exact fun _ => rfl
            clear hρ
            skip
            go_simp
            exact IntWalk.i64_in _ (by omega)
        · intro f W h23 hd S
          refine wpOp_runG (v := .bool true) rfl ?_ (fun ρ hρ => ?_) ⟨(acts_some 23 rfl (by kernel_rfl) (by kernel_rfl)).symm, S⟩
          · exact wanted_hit (t := 75) rfl rfl (acts_eval_hit 18 rfl hd.2.2.1 (by rw [HSZ]; rfl) (by kernel_rfl))
          · skip
            have e0 : ρ (.tmp 77) = .int .i64 (N + 18) := by rw [hρ]; exact acts_eval_hit 20 rfl hd.1 (by rw [HSZ]; rfl) (by kernel_rfl)
            have e1 : ρ (.tmp 79) = .int .i64 (N + 18) := by rw [hρ]; exact acts_eval_hit 22 rfl hd.2.1 (by rw [HSZ]; rfl) (by kernel_rfl)
            clear hρ
            go_simp
        · intro f W h24 hd S
          refine wpOp_run (v := .bool true) rfl rfl (fun ρ hρ => ?_) ⟨(acts_some 24 rfl (by kernel_rfl) (by kernel_rfl)).symm, S⟩
          have e0 : ρ (.tmp 75) = .bool true := by rw [hρ]; exact acts_eval_hit 18 rfl hd.1 (by rw [HSZ]; rfl) (by kernel_rfl)
          have e1 : ρ (.tmp 80) = .bool true := by rw [hρ]; exact acts_eval_hit 23 rfl hd.2.1 (by rw [HSZ]; rfl) (by kernel_rfl)
          have ec : ∀ v, ρ (.const v) = v := by rw [hρ]; exact fun _ => rfl
          clear hρ
          go_simp
        · intro f W h25 hd S
          refine wpOp_run (v := .bool true) rfl rfl (fun ρ hρ => ?_) ⟨(acts_some 25 rfl (by kernel_rfl) (by kernel_rfl)).symm, S⟩
          have e0 : ρ (.tmp 81) = .bool true := by rw [hρ]; exact acts_eval_hit 24 rfl hd.1 (by rw [HSZ]; rfl) (by kernel_rfl)
          clear hρ
          go_simp
        · intro f W h26 hd S
          refine wpOp_runG (v := .int .i64 N) rfl ?_ (fun ρ hρ => ?_) ⟨(acts_some 26 rfl (by kernel_rfl) (by kernel_rfl)).symm, S⟩
          · exact wanted_hit (t := 82) rfl rfl (acts_eval_hit 25 rfl hd.1 (by rw [HSZ]; rfl) (by kernel_rfl))
          · skip
            have e0 : ρ (.tmp 1) = .int .i64 N := by rw [hρ]; exact (acts_eval_tmp 1 (by kernel_rfl)).trans E1
            clear hρ
            go_simp
        · intro f W h27 hd S
          refine wpOp_callG rfl (wanted_hit (t := 82) rfl rfl (acts_eval_hit 25 rfl hd.2.1 (by rw [HSZ]; rfl) (by kernel_rfl))) (fun ρ hρ => ?_) (hroom W) ?_
          · skip
            have e0 : ρ (.tmp 83) = .int .i64 N := by rw [hρ]; exact acts_eval_hit 26 rfl hd.1 (by rw [HSZ]; rfl) (by kernel_rfl)
            have ef : ρ (.func 13) = .func (.func 13) #[] #[] := by rw [hρ]; rfl
            clear hρ
            go_simp
          · (rintro e W' ⟨rfl, rfl⟩; exact ⟨_, rfl, (acts_some 27 rfl (by kernel_rfl) (by kernel_rfl)).symm, S⟩)
        · intro f W h28 hd S
          refine wpOp_runG (v := .int .i64 N) rfl ?_ (fun ρ hρ => ?_) ⟨(acts_some 28 rfl (by kernel_rfl) (by kernel_rfl)).symm, S⟩
          · exact wanted_hit (t := 82) rfl rfl (acts_eval_hit 25 rfl hd.1 (by rw [HSZ]; rfl) (by kernel_rfl))
          · skip
            have e0 : ρ (.tmp 1) = .int .i64 N := by rw [hρ]; exact (acts_eval_tmp 1 (by kernel_rfl)).trans E1
            clear hρ
            go_simp
        · intro f W h29 hd S
          refine wpOp_runG (v := .int .i64 (N + 9)) rfl ?_ (fun ρ hρ => ?_) ⟨(acts_some 29 rfl (by kernel_rfl) (by kernel_rfl)).symm, S⟩
          · exact wanted_hit (t := 82) rfl rfl (acts_eval_hit 25 rfl hd.2.1 (by rw [HSZ]; rfl) (by kernel_rfl))
          · skip
            have e0 : ρ (.tmp 85) = .int .i64 N := by rw [hρ]; exact acts_eval_hit 28 rfl hd.1 (by rw [HSZ]; rfl) (by kernel_rfl)
            have ec : ∀ v, ρ (.const v) = v := by rw [hρ]; exact fun _ => rfl
            clear hρ
            skip
            go_simp
            exact IntWalk.i64_in _ (by omega)
        · intro f W h30 hd S
          refine wpOp_runG (v := .bool true) rfl ?_ (fun ρ hρ => ?_) ⟨(acts_some 30 rfl (by kernel_rfl) (by kernel_rfl)).symm, S⟩
          · exact wanted_hit (t := 82) rfl rfl (acts_eval_hit 25 rfl hd.2.2.1 (by rw [HSZ]; rfl) (by kernel_rfl))
          · skip
            have e0 : ρ (.tmp 84) = .int .i64 (N + 9) := by rw [hρ]; exact acts_eval_hit 27 rfl hd.1 (by rw [HSZ]; rfl) (by kernel_rfl)
            have e1 : ρ (.tmp 86) = .int .i64 (N + 9) := by rw [hρ]; exact acts_eval_hit 29 rfl hd.2.1 (by rw [HSZ]; rfl) (by kernel_rfl)
            clear hρ
            go_simp
        · intro f W h31 hd S
          refine wpOp_run (v := .bool true) rfl rfl (fun ρ hρ => ?_) ⟨(acts_some 31 rfl (by kernel_rfl) (by kernel_rfl)).symm, S⟩
          have e0 : ρ (.tmp 82) = .bool true := by rw [hρ]; exact acts_eval_hit 25 rfl hd.1 (by rw [HSZ]; rfl) (by kernel_rfl)
          have e1 : ρ (.tmp 87) = .bool true := by rw [hρ]; exact acts_eval_hit 30 rfl hd.2.1 (by rw [HSZ]; rfl) (by kernel_rfl)
          have ec : ∀ v, ρ (.const v) = v := by rw [hρ]; exact fun _ => rfl
          clear hρ
          go_simp
        · intro f W h32 hd S
          refine wpOp_run (v := .bool true) rfl rfl (fun ρ hρ => ?_) ⟨(acts_some 32 rfl (by kernel_rfl) (by kernel_rfl)).symm, S⟩
          have e0 : ρ (.tmp 88) = .bool true := by rw [hρ]; exact acts_eval_hit 31 rfl hd.1 (by rw [HSZ]; rfl) (by kernel_rfl)
          clear hρ
          go_simp
        · intro f W h33 hd S
          refine wpOp_callG rfl (wanted_hit (t := 89) rfl rfl (acts_eval_hit 32 rfl hd.1 (by rw [HSZ]; rfl) (by kernel_rfl))) (fun ρ hρ => ?_) (awake_below W) ?_
          · skip
            have ef : ρ (.func 9) = .func (.func 9) #[] #[] := by rw [hρ]; rfl
            clear hρ
            go_simp
          · rintro e W' ⟨rfl, hb⟩
            exact ⟨_, rfl, (acts_some 33 rfl (by kernel_rfl) (by kernel_rfl)).symm, S.below hb⟩
        · intro f W h34 hd S
          refine wpOp_run (v := .bool true) rfl rfl (fun ρ hρ => ?_) ⟨(acts_some 34 rfl (by kernel_rfl) (by kernel_rfl)).symm, S⟩
          have e0 : ρ (.tmp 89) = .bool true := by rw [hρ]; exact acts_eval_hit 32 rfl hd.1 (by rw [HSZ]; rfl) (by kernel_rfl)
          have e1 : ρ (.tmp 90) = .bool true := by rw [hρ]; exact acts_eval_hit 33 rfl hd.2.1 (by rw [HSZ]; rfl) (by kernel_rfl)
          have ec : ∀ v, ρ (.const v) = v := by rw [hρ]; exact fun _ => rfl
          clear hρ
          go_simp
        · intro f W h35 hd S
          refine wpOp_run (v := .bool true) rfl rfl (fun ρ hρ => ?_) ⟨(acts_some 35 rfl (by kernel_rfl) (by kernel_rfl)).symm, S⟩
          have e0 : ρ (.tmp 91) = .bool true := by rw [hρ]; exact acts_eval_hit 34 rfl hd.1 (by rw [HSZ]; rfl) (by kernel_rfl)
          clear hρ
          go_simp
      intro W4 S4
      subst ha0
      simp only [acts, if_true, Act.put, List.setIfInBounds_toArray, List.set_cons_succ, List.set_cons_zero]
      clear S1 HSZ E0 E1 E5 E6
      go_wp2_with fail
      exact hK.out _ _ ⟨rfl, S4.above hG1⟩
end Go.Proofs.Ythenpoammpkjeaa
