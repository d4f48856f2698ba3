/- The walk of the law PayloadOther. -/
import Derived.Test.YtdfdcenbpanegaaFaultP
set_option linter.unusedSimpArgs false
set_option linter.unusedVariables false
namespace Go.Proofs.Ytdfdcenbpanegaa
open Go.RowKit

theorem wanted_miss {ops : Array Oper} {o : Oper} {a : Act} {g : Nat} {t : Tmp} {b b' : Bool} (hg : o.guard = some (g, b)) (ht : (ops[g]?).bind (·.dst) = some t) (he : a.eval (.tmp t) = .bool b') (hb : b' ≠ b) : Region.wanted o (yielded ops a.tmps) = false := by
  unfold Region.wanted
  rw [hg]
  cases b <;> cases b' <;> simp_all [yielded_of ht he]
set_option maxHeartbeats 8000000 in
set_option maxRecDepth 100000 in
theorem po_out (w : World) (k fl s : Int) (A : Option Addr) (n c : Nat) (h : 300 < n ∨ k < 10 ∨ 255 < k) :
    Calls Try.prog 5 #[.agg #[.int .i64 k, .int .i64 fl, .int .i64 s, .slice A n c]] w fun e w' => e = .returned (.bool true) ∧ Below w.heap.size w w' := by
  refine calls_any fun K hK => ?_
  have S1 := (Sat.start w).newBlk #[.int .i64 k, .int .i64 fl, .int .i64 s, .slice A n c] 24
  have hG := Gnd.le.rfl' (G := Gnd.of w)
  by_cases h1 : 300 < n
  · go_enter Try.func5, Try.ntmps5
    go_upto_region 2 with fail
    refine wp_world S1 fun w1 S2 => ?_
    clear S1
    generalize w.heap.size = aF at S2 ⊢
    cases hk0 : decide (k ≥ 0) with
    | true =>
      have hkn : decide (0 ≤ k ∧ k ≤ 9) = decide (k ≤ 9) := by have := of_decide_eq_true hk0; simp; omega
      refine wp_act fun a0 ha0 => ?_
      have HSZ : a0.tmps.size = 59 := by rw [ha0]; rfl
      have E1 : a0.eval (.tmp 1) = .pointer (some ⟨aF, 0, none⟩) := by rw [ha0]; rfl
      refine wp_region_J (by kernel_rfl) 16 (by kernel_rfl) [[], [0], [1], [], [3], [4], [5, 2], [6], [7, 6], [8, 6], [6, 9], [2, 10], [11, 6], [12, 12], [12, 13], [14, 13, 0, 1, 2, 3, 4, 5, 6, 7, 8, 9, 10, 11, 12, 13, 14]] (by kernel_rfl) (by kernel_rfl) (fun f a' W => a' = acts [(0, 19, .pointer (some ⟨aF, 0, none⟩)), (1, 20, .int .i64 k), (2, 21, .bool (decide (k ≤ 9))), (3, 22, .pointer (some ⟨aF, 0, none⟩)), (4, 23, .int .i64 k), (5, 24, .bool true), (6, 25, .bool true), (7, 26, .pointer (some ⟨aF, 0, none⟩)), (8, 27, .int .i64 k), (9, 28, .bool (decide (k ≤ 9))), (10, 29, .bool (decide (k ≤ 9))), (11, 30, .bool true), (12, 31, .bool true), (13, 32, .bool true), (14, 33, .bool true), (15, 2, .bool true)] f a0 ∧ ∃ G9, (Gnd.of w).le G9 ∧ Sat G9 W [blk aF #[.int .i64 k, .int .i64 fl, .int .i64 s, .slice A n c] 24]) ?_ ?_ ?_
      · exact ⟨rfl, _, hG, S2.drew⟩
      · refine ⟨?_, ?_, ?_, ?_, ?_, ?_, ?_, ?_, ?_, ?_, ?_, ?_, ?_, ?_, ?_, ?_, trivial⟩
        · rintro f a' W h0 hd ⟨rfl, G9, hG9, S⟩
          refine wpOp_run (v := .pointer (some ⟨aF, 0, none⟩)) rfl rfl (fun ρ hρ => ?_) ⟨(acts_some 0 rfl (by kernel_rfl) (by kernel_rfl)).symm, G9, hG9, S⟩
          have e0 : ρ (.tmp 1) = .pointer (some ⟨aF, 0, none⟩) := by rw [hρ]; exact (acts_eval_tmp 1 (by kernel_rfl)).trans E1
          clear hρ
          go_simp
        · rintro f a' W h1 hd ⟨rfl, G9, hG9, S⟩
          refine wpOp_run (v := .int .i64 k) rfl rfl (fun ρ hρ => ?_) ⟨(acts_some 1 rfl (by kernel_rfl) (by kernel_rfl)).symm, G9, hG9, S⟩
          have e0 : ρ (.tmp 19) = .pointer (some ⟨aF, 0, none⟩) := by rw [hρ]; exact acts_eval_hit 0 rfl hd.1 (by rw [HSZ]; rfl) (by kernel_rfl)
          clear hρ
          (have hcl : W.cell? ⟨aF, 0, none⟩ = some (.int .i64 k) := S.cell 0)
          go_simp
        · rintro f a' W h2 hd ⟨rfl, G9, hG9, S⟩
          refine wpOp_call rfl rfl (fun ρ hρ => ?_) (pl_known k W) ?_
          · skip
            have e0 : ρ (.tmp 20) = .int .i64 k := by rw [hρ]; exact acts_eval_hit 1 rfl hd.1 (by rw [HSZ]; rfl) (by kernel_rfl)
            have ef : ρ (.func 13) = .func (.func 13) #[] #[] := by rw [hρ]; rfl
            clear hρ
            go_simp
          · (rintro e W' ⟨e1, rfl⟩; rw [hkn] at e1; subst e1; exact ⟨_, rfl, acts_swap rfl (k := 2) rfl (by kernel_rfl) (by kernel_rfl), G9, hG9, S⟩)
        · rintro f a' W h3 hd ⟨rfl, G9, hG9, S⟩
          refine wpOp_run (v := .pointer (some ⟨aF, 0, none⟩)) rfl rfl (fun ρ hρ => ?_) ⟨(acts_some 3 rfl (by kernel_rfl) (by kernel_rfl)).symm, G9, hG9, S⟩
          have e0 : ρ (.tmp 1) = .pointer (some ⟨aF, 0, none⟩) := by rw [hρ]; exact (acts_eval_tmp 1 (by kernel_rfl)).trans E1
          clear hρ
          go_simp
        · rintro f a' W h4 hd ⟨rfl, G9, hG9, S⟩
          refine wpOp_run (v := .int .i64 k) rfl rfl (fun ρ hρ => ?_) ⟨(acts_some 4 rfl (by kernel_rfl) (by kernel_rfl)).symm, G9, hG9, S⟩
          have e0 : ρ (.tmp 22) = .pointer (some ⟨aF, 0, none⟩) := by rw [hρ]; exact acts_eval_hit 3 rfl hd.1 (by rw [HSZ]; rfl) (by kernel_rfl)
          clear hρ
          (have hcl : W.cell? ⟨aF, 0, none⟩ = some (.int .i64 k) := S.cell 0)
          go_simp
        · rintro f a' W h5 hd ⟨rfl, G9, hG9, S⟩
          refine wpOp_run (v := .bool true) rfl rfl (fun ρ hρ => ?_) ⟨(acts_some 5 rfl (by kernel_rfl) (by kernel_rfl)).symm, G9, hG9, S⟩
          have e0 : ρ (.tmp 23) = .int .i64 k := by rw [hρ]; exact acts_eval_hit 4 rfl hd.1 (by rw [HSZ]; rfl) (by kernel_rfl)
          have ec : ∀ v, ρ (.const v) = v := by rw [hρ]; exact fun _ => rfl
          clear hρ
          (have hz := hk0)
          go_simp
        · rintro f a' W h6 hd ⟨rfl, G9, hG9, S⟩
          refine wpOp_run (v := .bool true) rfl rfl (fun ρ hρ => ?_) ⟨(acts_some 6 rfl (by kernel_rfl) (by kernel_rfl)).symm, G9, hG9, S⟩
          have e0 : ρ (.tmp 24) = .bool true := by rw [hρ]; exact acts_eval_hit 5 rfl hd.1 (by rw [HSZ]; rfl) (by kernel_rfl)
          clear hρ
          go_simp
        · rintro f a' W h7 hd ⟨rfl, G9, hG9, S⟩
          refine wpOp_runG (v := .pointer (some ⟨aF, 0, none⟩)) rfl ?_ (fun ρ hρ => ?_) ⟨(acts_some 7 rfl (by kernel_rfl) (by kernel_rfl)).symm, G9, hG9, S⟩
          · exact wanted_hit (t := 25) rfl rfl (acts_eval_hit 6 rfl hd.1 (by rw [HSZ]; rfl) (by kernel_rfl))
          · skip
            have e0 : ρ (.tmp 1) = .pointer (some ⟨aF, 0, none⟩) := by rw [hρ]; exact (acts_eval_tmp 1 (by kernel_rfl)).trans E1
            clear hρ
            go_simp
        · rintro f a' W h8 hd ⟨rfl, G9, hG9, S⟩
          refine wpOp_runG (v := .int .i64 k) rfl ?_ (fun ρ hρ => ?_) ⟨(acts_some 8 rfl (by kernel_rfl) (by kernel_rfl)).symm, G9, hG9, S⟩
          · exact wanted_hit (t := 25) rfl rfl (acts_eval_hit 6 rfl hd.2.1 (by rw [HSZ]; rfl) (by kernel_rfl))
          · skip
            have e0 : ρ (.tmp 26) = .pointer (some ⟨aF, 0, none⟩) := by rw [hρ]; exact acts_eval_hit 7 rfl hd.1 (by rw [HSZ]; rfl) (by kernel_rfl)
            clear hρ
            (have hcl : W.cell? ⟨aF, 0, none⟩ = some (.int .i64 k) := S.cell 0)
            go_simp
        · rintro f a' W h9 hd ⟨rfl, G9, hG9, S⟩
          refine wpOp_runG (v := .bool (decide (k ≤ 9))) rfl ?_ (fun ρ hρ => ?_) ⟨(acts_some 9 rfl (by kernel_rfl) (by kernel_rfl)).symm, G9, hG9, S⟩
          · exact wanted_hit (t := 25) rfl rfl (acts_eval_hit 6 rfl hd.2.1 (by rw [HSZ]; rfl) (by kernel_rfl))
          · skip
            have e0 : ρ (.tmp 27) = .int .i64 k := by rw [hρ]; exact acts_eval_hit 8 rfl hd.1 (by rw [HSZ]; rfl) (by kernel_rfl)
            have ec : ∀ v, ρ (.const v) = v := by rw [hρ]; exact fun _ => rfl
            clear hρ
            go_simp
        · rintro f a' W h10 hd ⟨rfl, G9, hG9, S⟩
          refine wpOp_run (v := .bool (decide (k ≤ 9))) rfl rfl (fun ρ hρ => ?_) ⟨(acts_some 10 rfl (by kernel_rfl) (by kernel_rfl)).symm, G9, hG9, S⟩
          have e0 : ρ (.tmp 25) = .bool true := by rw [hρ]; exact acts_eval_hit 6 rfl hd.1 (by rw [HSZ]; rfl) (by kernel_rfl)
          have e1 : ρ (.tmp 28) = .bool (decide (k ≤ 9)) := by rw [hρ]; exact acts_eval_hit 9 rfl hd.2.1 (by rw [HSZ]; rfl) (by kernel_rfl)
          have ec : ∀ v, ρ (.const v) = v := by rw [hρ]; exact fun _ => rfl
          clear hρ
          go_simp
        · rintro f a' W h11 hd ⟨rfl, G9, hG9, S⟩
          refine wpOp_run (v := .bool true) rfl rfl (fun ρ hρ => ?_) ⟨(acts_some 11 rfl (by kernel_rfl) (by kernel_rfl)).symm, G9, hG9, S⟩
          have e0 : ρ (.tmp 21) = .bool (decide (k ≤ 9)) := by rw [hρ]; exact acts_eval_hit 2 rfl hd.1 (by rw [HSZ]; rfl) (by kernel_rfl)
          have e1 : ρ (.tmp 29) = .bool (decide (k ≤ 9)) := by rw [hρ]; exact acts_eval_hit 10 rfl hd.2.1 (by rw [HSZ]; rfl) (by kernel_rfl)
          clear hρ
          go_simp
        · rintro f a' W h12 hd ⟨rfl, G9, hG9, S⟩
          refine wpOp_run (v := .bool true) rfl rfl (fun ρ hρ => ?_) ⟨(acts_some 12 rfl (by kernel_rfl) (by kernel_rfl)).symm, G9, hG9, S⟩
          have e0 : ρ (.tmp 30) = .bool true := by rw [hρ]; exact acts_eval_hit 11 rfl hd.1 (by rw [HSZ]; rfl) (by kernel_rfl)
          clear hρ
          go_simp
        · rintro f a' W h13 hd ⟨rfl, G9, hG9, S⟩
          refine wpOp_callG rfl (wanted_hit (t := 31) rfl rfl (acts_eval_hit 12 rfl hd.1 (by rw [HSZ]; rfl) (by kernel_rfl))) (fun ρ hρ => ?_) (law_awake S) ?_
          · skip
            have ef : ρ (.func 8) = .func (.func 8) #[] #[] := by rw [hρ]; rfl
            clear hρ
            go_simp
          · (rintro e W' ⟨rfl, G8, hG8, S'⟩; exact ⟨_, rfl, acts_swap rfl (k := 13) rfl (by kernel_rfl) (by kernel_rfl), G8, hG9.trans hG8, S'⟩)
        · rintro f a' W h14 hd ⟨rfl, G9, hG9, S⟩
          refine wpOp_run (v := .bool true) rfl rfl (fun ρ hρ => ?_) ⟨(acts_some 14 rfl (by kernel_rfl) (by kernel_rfl)).symm, G9, hG9, S⟩
          have e0 : ρ (.tmp 31) = .bool true := by rw [hρ]; exact acts_eval_hit 12 rfl hd.1 (by rw [HSZ]; rfl) (by kernel_rfl)
          have e1 : ρ (.tmp 32) = .bool true := by rw [hρ]; exact acts_eval_hit 13 rfl hd.2.1 (by rw [HSZ]; rfl) (by kernel_rfl)
          have ec : ∀ v, ρ (.const v) = v := by rw [hρ]; exact fun _ => rfl
          clear hρ
          go_simp
        · rintro f a' W h15 hd ⟨rfl, G9, hG9, S⟩
          refine wpOp_run (v := .bool true) rfl rfl (fun ρ hρ => ?_) ⟨(acts_some 15 rfl (by kernel_rfl) (by kernel_rfl)).symm, G9, hG9, S⟩
          have e0 : ρ (.tmp 33) = .bool true := by rw [hρ]; exact acts_eval_hit 14 rfl hd.1 (by rw [HSZ]; rfl) (by kernel_rfl)
          clear hρ
          go_simp
      · rintro a' W ⟨rfl, G9, hG9, S9⟩
        subst ha0
        simp only [acts, if_true, Act.put, List.setIfInBounds_toArray, List.set_cons_succ, List.set_cons_zero]
        have HS := Lib.hid S9
        clear S2 S9 HSZ E1
        go_wp2_with fail
        exact hK.out _ _ ⟨rfl, (HS.out.drop).above hG9⟩
    | false =>
      have hkn : decide (0 ≤ k ∧ k ≤ 9) = false := by have := of_decide_eq_false hk0; simp; omega
      refine wp_act fun a0 ha0 => ?_
      have HSZ : a0.tmps.size = 59 := by rw [ha0]; rfl
      have E1 : a0.eval (.tmp 1) = .pointer (some ⟨aF, 0, none⟩) := by rw [ha0]; rfl
      refine wp_region_J (by kernel_rfl) 16 (by kernel_rfl) [[], [0], [1], [], [3], [4], [5, 2], [6], [7, 6], [8, 6], [6, 9], [2, 10], [11, 6], [12, 12], [12, 13], [14, 13, 0, 1, 2, 3, 4, 5, 6, 7, 8, 9, 10, 11, 12, 13, 14]] (by kernel_rfl) (by kernel_rfl) (fun f a' W => a' = acts [(0, 19, .pointer (some ⟨aF, 0, none⟩)), (1, 20, .int .i64 k), (2, 21, .bool (false)), (3, 22, .pointer (some ⟨aF, 0, none⟩)), (4, 23, .int .i64 k), (5, 24, .bool false), (6, 25, .bool false), (7, 26, undef), (8, 27, undef), (9, 28, undef), (10, 29, .bool (false)), (11, 30, .bool true), (12, 31, .bool true), (13, 32, .bool true), (14, 33, .bool true), (15, 2, .bool true)] f a0 ∧ ∃ G9, (Gnd.of w).le G9 ∧ Sat G9 W [blk aF #[.int .i64 k, .int .i64 fl, .int .i64 s, .slice A n c] 24]) ?_ ?_ ?_
      · exact ⟨rfl, _, hG, S2.drew⟩
      · refine ⟨?_, ?_, ?_, ?_, ?_, ?_, ?_, ?_, ?_, ?_, ?_, ?_, ?_, ?_, ?_, ?_, trivial⟩
        · rintro f a' W h0 hd ⟨rfl, G9, hG9, S⟩
          refine wpOp_run (v := .pointer (some ⟨aF, 0, none⟩)) rfl rfl (fun ρ hρ => ?_) ⟨(acts_some 0 rfl (by kernel_rfl) (by kernel_rfl)).symm, G9, hG9, S⟩
          have e0 : ρ (.tmp 1) = .pointer (some ⟨aF, 0, none⟩) := by rw [hρ]; exact (acts_eval_tmp 1 (by kernel_rfl)).trans E1
          clear hρ
          go_simp
        · rintro f a' W h1 hd ⟨rfl, G9, hG9, S⟩
          refine wpOp_run (v := .int .i64 k) rfl rfl (fun ρ hρ => ?_) ⟨(acts_some 1 rfl (by kernel_rfl) (by kernel_rfl)).symm, G9, hG9, S⟩
          have e0 : ρ (.tmp 19) = .pointer (some ⟨aF, 0, none⟩) := by rw [hρ]; exact acts_eval_hit 0 rfl hd.1 (by rw [HSZ]; rfl) (by kernel_rfl)
          clear hρ
          (have hcl : W.cell? ⟨aF, 0, none⟩ = some (.int .i64 k) := S.cell 0)
          go_simp
        · rintro f a' W h2 hd ⟨rfl, G9, hG9, S⟩
          refine wpOp_call rfl rfl (fun ρ hρ => ?_) (pl_known k W) ?_
          · skip
            have e0 : ρ (.tmp 20) = .int .i64 k := by rw [hρ]; exact acts_eval_hit 1 rfl hd.1 (by rw [HSZ]; rfl) (by kernel_rfl)
            have ef : ρ (.func 13) = .func (.func 13) #[] #[] := by rw [hρ]; rfl
            clear hρ
            go_simp
          · (rintro e W' ⟨e1, rfl⟩; rw [hkn] at e1; subst e1; exact ⟨_, rfl, acts_swap rfl (k := 2) rfl (by kernel_rfl) (by kernel_rfl), G9, hG9, S⟩)
        · rintro f a' W h3 hd ⟨rfl, G9, hG9, S⟩
          refine wpOp_run (v := .pointer (some ⟨aF, 0, none⟩)) rfl rfl (fun ρ hρ => ?_) ⟨(acts_some 3 rfl (by kernel_rfl) (by kernel_rfl)).symm, G9, hG9, S⟩
          have e0 : ρ (.tmp 1) = .pointer (some ⟨aF, 0, none⟩) := by rw [hρ]; exact (acts_eval_tmp 1 (by kernel_rfl)).trans E1
          clear hρ
          go_simp
        · rintro f a' W h4 hd ⟨rfl, G9, hG9, S⟩
          refine wpOp_run (v := .int .i64 k) rfl rfl (fun ρ hρ => ?_) ⟨(acts_some 4 rfl (by kernel_rfl) (by kernel_rfl)).symm, G9, hG9, S⟩
          have e0 : ρ (.tmp 22) = .pointer (some ⟨aF, 0, none⟩) := by rw [hρ]; exact acts_eval_hit 3 rfl hd.1 (by rw [HSZ]; rfl) (by kernel_rfl)
          clear hρ
          (have hcl : W.cell? ⟨aF, 0, none⟩ = some (.int .i64 k) := S.cell 0)
          go_simp
        · rintro f a' W h5 hd ⟨rfl, G9, hG9, S⟩
          refine wpOp_run (v := .bool false) rfl rfl (fun ρ hρ => ?_) ⟨(acts_some 5 rfl (by kernel_rfl) (by kernel_rfl)).symm, G9, hG9, S⟩
          have e0 : ρ (.tmp 23) = .int .i64 k := by rw [hρ]; exact acts_eval_hit 4 rfl hd.1 (by rw [HSZ]; rfl) (by kernel_rfl)
          have ec : ∀ v, ρ (.const v) = v := by rw [hρ]; exact fun _ => rfl
          clear hρ
          (have hz := hk0)
          go_simp
        · rintro f a' W h6 hd ⟨rfl, G9, hG9, S⟩
          refine wpOp_run (v := .bool false) rfl rfl (fun ρ hρ => ?_) ⟨(acts_some 6 rfl (by kernel_rfl) (by kernel_rfl)).symm, G9, hG9, S⟩
          have e0 : ρ (.tmp 24) = .bool false := by rw [hρ]; exact acts_eval_hit 5 rfl hd.1 (by rw [HSZ]; rfl) (by kernel_rfl)
          clear hρ
          go_simp
        · rintro f a' W h7 hd ⟨rfl, G9, hG9, S⟩
          have q1 : (acts [(0, 19, .pointer (some ⟨aF, 0, none⟩)), (1, 20, .int .i64 k), (2, 21, .bool (false)), (3, 22, .pointer (some ⟨aF, 0, none⟩)), (4, 23, .int .i64 k), (5, 24, .bool false), (6, 25, .bool false), (7, 26, undef), (8, 27, undef), (9, 28, undef), (10, 29, .bool (false)), (11, 30, .bool true), (12, 31, .bool true), (13, 32, .bool true), (14, 33, .bool true), (15, 2, .bool true)] f a0).eval (.tmp 1) = .pointer (some ⟨aF, 0, none⟩) := (acts_eval_tmp 1 (by kernel_rfl)).trans E1
          (refine wpOp_skip rfl (wanted_miss rfl rfl (b' := false) (acts_eval_hit 6 rfl hd.1 (by rw [HSZ]; rfl) (by kernel_rfl)) (by decide)) ?_; exact ⟨(acts_some 7 rfl (by kernel_rfl) (by kernel_rfl)).symm, G9, hG9, S⟩)
        · rintro f a' W h8 hd ⟨rfl, G9, hG9, S⟩
          have q26 : (acts [(0, 19, .pointer (some ⟨aF, 0, none⟩)), (1, 20, .int .i64 k), (2, 21, .bool (false)), (3, 22, .pointer (some ⟨aF, 0, none⟩)), (4, 23, .int .i64 k), (5, 24, .bool false), (6, 25, .bool false), (7, 26, undef), (8, 27, undef), (9, 28, undef), (10, 29, .bool (false)), (11, 30, .bool true), (12, 31, .bool true), (13, 32, .bool true), (14, 33, .bool true), (15, 2, .bool true)] f a0).eval (.tmp 26) = undef := acts_eval_hit 7 rfl hd.1 (by rw [HSZ]; rfl) (by kernel_rfl)
          (refine wpOp_skip rfl (wanted_miss rfl rfl (b' := false) (acts_eval_hit 6 rfl hd.2.1 (by rw [HSZ]; rfl) (by kernel_rfl)) (by decide)) ?_; exact ⟨(acts_some 8 rfl (by kernel_rfl) (by kernel_rfl)).symm, G9, hG9, S⟩)
        · rintro f a' W h9 hd ⟨rfl, G9, hG9, S⟩
          have q27 : (acts [(0, 19, .pointer (some ⟨aF, 0, none⟩)), (1, 20, .int .i64 k), (2, 21, .bool (false)), (3, 22, .pointer (some ⟨aF, 0, none⟩)), (4, 23, .int .i64 k), (5, 24, .bool false), (6, 25, .bool false), (7, 26, undef), (8, 27, undef), (9, 28, undef), (10, 29, .bool (false)), (11, 30, .bool true), (12, 31, .bool true), (13, 32, .bool true), (14, 33, .bool true), (15, 2, .bool true)] f a0).eval (.tmp 27) = undef := acts_eval_hit 8 rfl hd.1 (by rw [HSZ]; rfl) (by kernel_rfl)
          (refine wpOp_skip rfl (wanted_miss rfl rfl (b' := false) (acts_eval_hit 6 rfl hd.2.1 (by rw [HSZ]; rfl) (by kernel_rfl)) (by decide)) ?_; exact ⟨(acts_some 9 rfl (by kernel_rfl) (by kernel_rfl)).symm, G9, hG9, S⟩)
        · rintro f a' W h10 hd ⟨rfl, G9, hG9, S⟩
          refine wpOp_run (v := .bool (false)) rfl rfl (fun ρ hρ => ?_) ⟨(acts_some 10 rfl (by kernel_rfl) (by kernel_rfl)).symm, G9, hG9, S⟩
          have e0 : ρ (.tmp 25) = .bool false := by rw [hρ]; exact acts_eval_hit 6 rfl hd.1 (by rw [HSZ]; rfl) (by kernel_rfl)
          have e1 : ρ (.tmp 28) = undef := by rw [hρ]; exact acts_eval_hit 9 rfl hd.2.1 (by rw [HSZ]; rfl) (by kernel_rfl)
          have ec : ∀ v, ρ (.const v) = v := by rw [hρ]; exact fun _ => rfl
          clear hρ
          go_simp
        · rintro f a' W h11 hd ⟨rfl, G9, hG9, S⟩
          refine wpOp_run (v := .bool true) rfl rfl (fun ρ hρ => ?_) ⟨(acts_some 11 rfl (by kernel_rfl) (by kernel_rfl)).symm, G9, hG9, S⟩
          have e0 : ρ (.tmp 21) = .bool (false) := by rw [hρ]; exact acts_eval_hit 2 rfl hd.1 (by rw [HSZ]; rfl) (by kernel_rfl)
          have e1 : ρ (.tmp 29) = .bool (false) := by rw [hρ]; exact acts_eval_hit 10 rfl hd.2.1 (by rw [HSZ]; rfl) (by kernel_rfl)
          clear hρ
          go_simp
        · rintro f a' W h12 hd ⟨rfl, G9, hG9, S⟩
          refine wpOp_run (v := .bool true) rfl rfl (fun ρ hρ => ?_) ⟨(acts_some 12 rfl (by kernel_rfl) (by kernel_rfl)).symm, G9, hG9, S⟩
          have e0 : ρ (.tmp 30) = .bool true := by rw [hρ]; exact acts_eval_hit 11 rfl hd.1 (by rw [HSZ]; rfl) (by kernel_rfl)
          clear hρ
          go_simp
        · rintro f a' W h13 hd ⟨rfl, G9, hG9, S⟩
          refine wpOp_callG rfl (wanted_hit (t := 31) rfl rfl (acts_eval_hit 12 rfl hd.1 (by rw [HSZ]; rfl) (by kernel_rfl))) (fun ρ hρ => ?_) (law_awake S) ?_
          · skip
            have ef : ρ (.func 8) = .func (.func 8) #[] #[] := by rw [hρ]; rfl
            clear hρ
            go_simp
          · (rintro e W' ⟨rfl, G8, hG8, S'⟩; exact ⟨_, rfl, acts_swap rfl (k := 13) rfl (by kernel_rfl) (by kernel_rfl), G8, hG9.trans hG8, S'⟩)
        · rintro f a' W h14 hd ⟨rfl, G9, hG9, S⟩
          refine wpOp_run (v := .bool true) rfl rfl (fun ρ hρ => ?_) ⟨(acts_some 14 rfl (by kernel_rfl) (by kernel_rfl)).symm, G9, hG9, S⟩
          have e0 : ρ (.tmp 31) = .bool true := by rw [hρ]; exact acts_eval_hit 12 rfl hd.1 (by rw [HSZ]; rfl) (by kernel_rfl)
          have e1 : ρ (.tmp 32) = .bool true := by rw [hρ]; exact acts_eval_hit 13 rfl hd.2.1 (by rw [HSZ]; rfl) (by kernel_rfl)
          have ec : ∀ v, ρ (.const v) = v := by rw [hρ]; exact fun _ => rfl
          clear hρ
          go_simp
        · rintro f a' W h15 hd ⟨rfl, G9, hG9, S⟩
          refine wpOp_run (v := .bool true) rfl rfl (fun ρ hρ => ?_) ⟨(acts_some 15 rfl (by kernel_rfl) (by kernel_rfl)).symm, G9, hG9, S⟩
          have e0 : ρ (.tmp 33) = .bool true := by rw [hρ]; exact acts_eval_hit 14 rfl hd.1 (by rw [HSZ]; rfl) (by kernel_rfl)
          clear hρ
          go_simp
      · rintro a' W ⟨rfl, G9, hG9, S9⟩
        subst ha0
        simp only [acts, if_true, Act.put, List.setIfInBounds_toArray, List.set_cons_succ, List.set_cons_zero]
        have HS := Lib.hid S9
        clear S2 S9 HSZ E1
        go_wp2_with fail
        exact hK.out _ _ ⟨rfl, (HS.out.drop).above hG9⟩
  by_cases h2 : k < 10
  · go_enter Try.func5, Try.ntmps5
    go_upto_region 2 with fail
    refine wp_world S1 fun w1 S2 => ?_
    clear S1
    generalize w.heap.size = aF at S2 ⊢
    cases hk0 : decide (k ≥ 0) with
    | true =>
      have hkn : decide (0 ≤ k ∧ k ≤ 9) = decide (k ≤ 9) := by have := of_decide_eq_true hk0; simp; omega
      refine wp_act fun a0 ha0 => ?_
      have HSZ : a0.tmps.size = 59 := by rw [ha0]; rfl
      have E1 : a0.eval (.tmp 1) = .pointer (some ⟨aF, 0, none⟩) := by rw [ha0]; rfl
      refine wp_region_J (by kernel_rfl) 16 (by kernel_rfl) [[], [0], [1], [], [3], [4], [5, 2], [6], [7, 6], [8, 6], [6, 9], [2, 10], [11, 6], [12, 12], [12, 13], [14, 13, 0, 1, 2, 3, 4, 5, 6, 7, 8, 9, 10, 11, 12, 13, 14]] (by kernel_rfl) (by kernel_rfl) (fun f a' W => a' = acts [(0, 19, .pointer (some ⟨aF, 0, none⟩)), (1, 20, .int .i64 k), (2, 21, .bool (decide (k ≤ 9))), (3, 22, .pointer (some ⟨aF, 0, none⟩)), (4, 23, .int .i64 k), (5, 24, .bool true), (6, 25, .bool true), (7, 26, .pointer (some ⟨aF, 0, none⟩)), (8, 27, .int .i64 k), (9, 28, .bool (decide (k ≤ 9))), (10, 29, .bool (decide (k ≤ 9))), (11, 30, .bool true), (12, 31, .bool true), (13, 32, .bool true), (14, 33, .bool true), (15, 2, .bool true)] f a0 ∧ ∃ G9, (Gnd.of w).le G9 ∧ Sat G9 W [blk aF #[.int .i64 k, .int .i64 fl, .int .i64 s, .slice A n c] 24]) ?_ ?_ ?_
      · exact ⟨rfl, _, hG, S2.drew⟩
      · refine ⟨?_, ?_, ?_, ?_, ?_, ?_, ?_, ?_, ?_, ?_, ?_, ?_, ?_, ?_, ?_, ?_, trivial⟩
        · rintro f a' W h0 hd ⟨rfl, G9, hG9, S⟩
          refine wpOp_run (v := .pointer (some ⟨aF, 0, none⟩)) rfl rfl (fun ρ hρ => ?_) ⟨(acts_some 0 rfl (by kernel_rfl) (by kernel_rfl)).symm, G9, hG9, S⟩
          have e0 : ρ (.tmp 1) = .pointer (some ⟨aF, 0, none⟩) := by rw [hρ]; exact (acts_eval_tmp 1 (by kernel_rfl)).trans E1
          clear hρ
          go_simp
        · rintro f a' W h1 hd ⟨rfl, G9, hG9, S⟩
          refine wpOp_run (v := .int .i64 k) rfl rfl (fun ρ hρ => ?_) ⟨(acts_some 1 rfl (by kernel_rfl) (by kernel_rfl)).symm, G9, hG9, S⟩
          have e0 : ρ (.tmp 19) = .pointer (some ⟨aF, 0, none⟩) := by rw [hρ]; exact acts_eval_hit 0 rfl hd.1 (by rw [HSZ]; rfl) (by kernel_rfl)
          clear hρ
          (have hcl : W.cell? ⟨aF, 0, none⟩ = some (.int .i64 k) := S.cell 0)
          go_simp
        · rintro f a' W h2 hd ⟨rfl, G9, hG9, S⟩
          refine wpOp_call rfl rfl (fun ρ hρ => ?_) (pl_known k W) ?_
          · skip
            have e0 : ρ (.tmp 20) = .int .i64 k := by rw [hρ]; exact acts_eval_hit 1 rfl hd.1 (by rw [HSZ]; rfl) (by kernel_rfl)
            have ef : ρ (.func 13) = .func (.func 13) #[] #[] := by rw [hρ]; rfl
            clear hρ
            go_simp
          · (rintro e W' ⟨e1, rfl⟩; rw [hkn] at e1; subst e1; exact ⟨_, rfl, acts_swap rfl (k := 2) rfl (by kernel_rfl) (by kernel_rfl), G9, hG9, S⟩)
        · rintro f a' W h3 hd ⟨rfl, G9, hG9, S⟩
          refine wpOp_run (v := .pointer (some ⟨aF, 0, none⟩)) rfl rfl (fun ρ hρ => ?_) ⟨(acts_some 3 rfl (by kernel_rfl) (by kernel_rfl)).symm, G9, hG9, S⟩
          have e0 : ρ (.tmp 1) = .pointer (some ⟨aF, 0, none⟩) := by rw [hρ]; exact (acts_eval_tmp 1 (by kernel_rfl)).trans E1
          clear hρ
          go_simp
        · rintro f a' W h4 hd ⟨rfl, G9, hG9, S⟩
          refine wpOp_run (v := .int .i64 k) rfl rfl (fun ρ hρ => ?_) ⟨(acts_some 4 rfl (by kernel_rfl) (by kernel_rfl)).symm, G9, hG9, S⟩
          have e0 : ρ (.tmp 22) = .pointer (some ⟨aF, 0, none⟩) := by rw [hρ]; exact acts_eval_hit 3 rfl hd.1 (by rw [HSZ]; rfl) (by kernel_rfl)
          clear hρ
          (have hcl : W.cell? ⟨aF, 0, none⟩ = some (.int .i64 k) := S.cell 0)
          go_simp
        · rintro f a' W h5 hd ⟨rfl, G9, hG9, S⟩
          refine wpOp_run (v := .bool true) rfl rfl (fun ρ hρ => ?_) ⟨(acts_some 5 rfl (by kernel_rfl) (by kernel_rfl)).symm, G9, hG9, S⟩
          have e0 : ρ (.tmp 23) = .int .i64 k := by rw [hρ]; exact acts_eval_hit 4 rfl hd.1 (by rw [HSZ]; rfl) (by kernel_rfl)
          have ec : ∀ v, ρ (.const v) = v := by rw [hρ]; exact fun _ => rfl
          clear hρ
          (have hz := hk0)
          go_simp
        · rintro f a' W h6 hd ⟨rfl, G9, hG9, S⟩
          refine wpOp_run (v := .bool true) rfl rfl (fun ρ hρ => ?_) ⟨(acts_some 6 rfl (by kernel_rfl) (by kernel_rfl)).symm, G9, hG9, S⟩
          have e0 : ρ (.tmp 24) = .bool true := by rw [hρ]; exact acts_eval_hit 5 rfl hd.1 (by rw [HSZ]; rfl) (by kernel_rfl)
          clear hρ
          go_simp
        · rintro f a' W h7 hd ⟨rfl, G9, hG9, S⟩
          refine wpOp_runG (v := .pointer (some ⟨aF, 0, none⟩)) rfl ?_ (fun ρ hρ => ?_) ⟨(acts_some 7 rfl (by kernel_rfl) (by kernel_rfl)).symm, G9, hG9, S⟩
          · exact wanted_hit (t := 25) rfl rfl (acts_eval_hit 6 rfl hd.1 (by rw [HSZ]; rfl) (by kernel_rfl))
          · skip
            have e0 : ρ (.tmp 1) = .pointer (some ⟨aF, 0, none⟩) := by rw [hρ]; exact (acts_eval_tmp 1 (by kernel_rfl)).trans E1
            clear hρ
            go_simp
        · rintro f a' W h8 hd ⟨rfl, G9, hG9, S⟩
          refine wpOp_runG (v := .int .i64 k) rfl ?_ (fun ρ hρ => ?_) ⟨(acts_some 8 rfl (by kernel_rfl) (by kernel_rfl)).symm, G9, hG9, S⟩
          · exact wanted_hit (t := 25) rfl rfl (acts_eval_hit 6 rfl hd.2.1 (by rw [HSZ]; rfl) (by kernel_rfl))
          · skip
            have e0 : ρ (.tmp 26) = .pointer (some ⟨aF, 0, none⟩) := by rw [hρ]; exact acts_eval_hit 7 rfl hd.1 (by rw [HSZ]; rfl) (by kernel_rfl)
            clear hρ
            (have hcl : W.cell? ⟨aF, 0, none⟩ = some (.int .i64 k) := S.cell 0)
            go_simp
        · rintro f a' W h9 hd ⟨rfl, G9, hG9, S⟩
          refine wpOp_runG (v := .bool (decide (k ≤ 9))) rfl ?_ (fun ρ hρ => ?_) ⟨(acts_some 9 rfl (by kernel_rfl) (by kernel_rfl)).symm, G9, hG9, S⟩
          · exact wanted_hit (t := 25) rfl rfl (acts_eval_hit 6 rfl hd.2.1 (by rw [HSZ]; rfl) (by kernel_rfl))
          · skip
            have e0 : ρ (.tmp 27) = .int .i64 k := by rw [hρ]; exact acts_eval_hit 8 rfl hd.1 (by rw [HSZ]; rfl) (by kernel_rfl)
            have ec : ∀ v, ρ (.const v) = v := by rw [hρ]; exact fun _ => rfl
            clear hρ
            go_simp
        · rintro f a' W h10 hd ⟨rfl, G9, hG9, S⟩
          refine wpOp_run (v := .bool (decide (k ≤ 9))) rfl rfl (fun ρ hρ => ?_) ⟨(acts_some 10 rfl (by kernel_rfl) (by kernel_rfl)).symm, G9, hG9, S⟩
          have e0 : ρ (.tmp 25) = .bool true := by rw [hρ]; exact acts_eval_hit 6 rfl hd.1 (by rw [HSZ]; rfl) (by kernel_rfl)
          have e1 : ρ (.tmp 28) = .bool (decide (k ≤ 9)) := by rw [hρ]; exact acts_eval_hit 9 rfl hd.2.1 (by rw [HSZ]; rfl) (by kernel_rfl)
          have ec : ∀ v, ρ (.const v) = v := by rw [hρ]; exact fun _ => rfl
          clear hρ
          go_simp
        · rintro f a' W h11 hd ⟨rfl, G9, hG9, S⟩
          refine wpOp_run (v := .bool true) rfl rfl (fun ρ hρ => ?_) ⟨(acts_some 11 rfl (by kernel_rfl) (by kernel_rfl)).symm, G9, hG9, S⟩
          have e0 : ρ (.tmp 21) = .bool (decide (k ≤ 9)) := by rw [hρ]; exact acts_eval_hit 2 rfl hd.1 (by rw [HSZ]; rfl) (by kernel_rfl)
          have e1 : ρ (.tmp 29) = .bool (decide (k ≤ 9)) := by rw [hρ]; exact acts_eval_hit 10 rfl hd.2.1 (by rw [HSZ]; rfl) (by kernel_rfl)
          clear hρ
          go_simp
        · rintro f a' W h12 hd ⟨rfl, G9, hG9, S⟩
          refine wpOp_run (v := .bool true) rfl rfl (fun ρ hρ => ?_) ⟨(acts_some 12 rfl (by kernel_rfl) (by kernel_rfl)).symm, G9, hG9, S⟩
          have e0 : ρ (.tmp 30) = .bool true := by rw [hρ]; exact acts_eval_hit 11 rfl hd.1 (by rw [HSZ]; rfl) (by kernel_rfl)
          clear hρ
          go_simp
        · rintro f a' W h13 hd ⟨rfl, G9, hG9, S⟩
          refine wpOp_callG rfl (wanted_hit (t := 31) rfl rfl (acts_eval_hit 12 rfl hd.1 (by rw [HSZ]; rfl) (by kernel_rfl))) (fun ρ hρ => ?_) (law_awake S) ?_
          · skip
            have ef : ρ (.func 8) = .func (.func 8) #[] #[] := by rw [hρ]; rfl
            clear hρ
            go_simp
          · (rintro e W' ⟨rfl, G8, hG8, S'⟩; exact ⟨_, rfl, acts_swap rfl (k := 13) rfl (by kernel_rfl) (by kernel_rfl), G8, hG9.trans hG8, S'⟩)
        · rintro f a' W h14 hd ⟨rfl, G9, hG9, S⟩
          refine wpOp_run (v := .bool true) rfl rfl (fun ρ hρ => ?_) ⟨(acts_some 14 rfl (by kernel_rfl) (by kernel_rfl)).symm, G9, hG9, S⟩
          have e0 : ρ (.tmp 31) = .bool true := by rw [hρ]; exact acts_eval_hit 12 rfl hd.1 (by rw [HSZ]; rfl) (by kernel_rfl)
          have e1 : ρ (.tmp 32) = .bool true := by rw [hρ]; exact acts_eval_hit 13 rfl hd.2.1 (by rw [HSZ]; rfl) (by kernel_rfl)
          have ec : ∀ v, ρ (.const v) = v := by rw [hρ]; exact fun _ => rfl
          clear hρ
          go_simp
        · rintro f a' W h15 hd ⟨rfl, G9, hG9, S⟩
          refine wpOp_run (v := .bool true) rfl rfl (fun ρ hρ => ?_) ⟨(acts_some 15 rfl (by kernel_rfl) (by kernel_rfl)).symm, G9, hG9, S⟩
          have e0 : ρ (.tmp 33) = .bool true := by rw [hρ]; exact acts_eval_hit 14 rfl hd.1 (by rw [HSZ]; rfl) (by kernel_rfl)
          clear hρ
          go_simp
      · rintro a' W ⟨rfl, G9, hG9, S9⟩
        subst ha0
        simp only [acts, if_true, Act.put, List.setIfInBounds_toArray, List.set_cons_succ, List.set_cons_zero]
        have HS := Lib.hid S9
        clear S2 S9 HSZ E1
        go_wp2_with fail
        exact hK.out _ _ ⟨rfl, (HS.out.drop).above hG9⟩
    | false =>
      have hkn : decide (0 ≤ k ∧ k ≤ 9) = false := by have := of_decide_eq_false hk0; simp; omega
      refine wp_act fun a0 ha0 => ?_
      have HSZ : a0.tmps.size = 59 := by rw [ha0]; rfl
      have E1 : a0.eval (.tmp 1) = .pointer (some ⟨aF, 0, none⟩) := by rw [ha0]; rfl
      refine wp_region_J (by kernel_rfl) 16 (by kernel_rfl) [[], [0], [1], [], [3], [4], [5, 2], [6], [7, 6], [8, 6], [6, 9], [2, 10], [11, 6], [12, 12], [12, 13], [14, 13, 0, 1, 2, 3, 4, 5, 6, 7, 8, 9, 10, 11, 12, 13, 14]] (by kernel_rfl) (by kernel_rfl) (fun f a' W => a' = acts [(0, 19, .pointer (some ⟨aF, 0, none⟩)), (1, 20, .int .i64 k), (2, 21, .bool (false)), (3, 22, .pointer (some ⟨aF, 0, none⟩)), (4, 23, .int .i64 k), (5, 24, .bool false), (6, 25, .bool false), (7, 26, undef), (8, 27, undef), (9, 28, undef), (10, 29, .bool (false)), (11, 30, .bool true), (12, 31, .bool true), (13, 32, .bool true), (14, 33, .bool true), (15, 2, .bool true)] f a0 ∧ ∃ G9, (Gnd.of w).le G9 ∧ Sat G9 W [blk aF #[.int .i64 k, .int .i64 fl, .int .i64 s, .slice A n c] 24]) ?_ ?_ ?_
      · exact ⟨rfl, _, hG, S2.drew⟩
      · refine ⟨?_, ?_, ?_, ?_, ?_, ?_, ?_, ?_, ?_, ?_, ?_, ?_, ?_, ?_, ?_, ?_, trivial⟩
        · rintro f a' W h0 hd ⟨rfl, G9, hG9, S⟩
          refine wpOp_run (v := .pointer (some ⟨aF, 0, none⟩)) rfl rfl (fun ρ hρ => ?_) ⟨(acts_some 0 rfl (by kernel_rfl) (by kernel_rfl)).symm, G9, hG9, S⟩
          have e0 : ρ (.tmp 1) = .pointer (some ⟨aF, 0, none⟩) := by rw [hρ]; exact (acts_eval_tmp 1 (by kernel_rfl)).trans E1
          clear hρ
          go_simp
        · rintro f a' W h1 hd ⟨rfl, G9, hG9, S⟩
          refine wpOp_run (v := .int .i64 k) rfl rfl (fun ρ hρ => ?_) ⟨(acts_some 1 rfl (by kernel_rfl) (by kernel_rfl)).symm, G9, hG9, S⟩
          have e0 : ρ (.tmp 19) = .pointer (some ⟨aF, 0, none⟩) := by rw [hρ]; exact acts_eval_hit 0 rfl hd.1 (by rw [HSZ]; rfl) (by kernel_rfl)
          clear hρ
          (have hcl : W.cell? ⟨aF, 0, none⟩ = some (.int .i64 k) := S.cell 0)
          go_simp
        · rintro f a' W h2 hd ⟨rfl, G9, hG9, S⟩
          refine wpOp_call rfl rfl (fun ρ hρ => ?_) (pl_known k W) ?_
          · skip
            have e0 : ρ (.tmp 20) = .int .i64 k := by rw [hρ]; exact acts_eval_hit 1 rfl hd.1 (by rw [HSZ]; rfl) (by kernel_rfl)
            have ef : ρ (.func 13) = .func (.func 13) #[] #[] := by rw [hρ]; rfl
            clear hρ
            go_simp
          · (rintro e W' ⟨e1, rfl⟩; rw [hkn] at e1; subst e1; exact ⟨_, rfl, acts_swap rfl (k := 2) rfl (by kernel_rfl) (by kernel_rfl), G9, hG9, S⟩)
        · rintro f a' W h3 hd ⟨rfl, G9, hG9, S⟩
          refine wpOp_run (v := .pointer (some ⟨aF, 0, none⟩)) rfl rfl (fun ρ hρ => ?_) ⟨(acts_some 3 rfl (by kernel_rfl) (by kernel_rfl)).symm, G9, hG9, S⟩
          have e0 : ρ (.tmp 1) = .pointer (some ⟨aF, 0, none⟩) := by rw [hρ]; exact (acts_eval_tmp 1 (by kernel_rfl)).trans E1
          clear hρ
          go_simp
        · rintro f a' W h4 hd ⟨rfl, G9, hG9, S⟩
          refine wpOp_run (v := .int .i64 k) rfl rfl (fun ρ hρ => ?_) ⟨(acts_some 4 rfl (by kernel_rfl) (by kernel_rfl)).symm, G9, hG9, S⟩
          have e0 : ρ (.tmp 22) = .pointer (some ⟨aF, 0, none⟩) := by rw [hρ]; exact acts_eval_hit 3 rfl hd.1 (by rw [HSZ]; rfl) (by kernel_rfl)
          clear hρ
          (have hcl : W.cell? ⟨aF, 0, none⟩ = some (.int .i64 k) := S.cell 0)
          go_simp
        · rintro f a' W h5 hd ⟨rfl, G9, hG9, S⟩
          refine wpOp_run (v := .bool false) rfl rfl (fun ρ hρ => ?_) ⟨(acts_some 5 rfl (by kernel_rfl) (by kernel_rfl)).symm, G9, hG9, S⟩
          have e0 : ρ (.tmp 23) = .int .i64 k := by rw [hρ]; exact acts_eval_hit 4 rfl hd.1 (by rw [HSZ]; rfl) (by kernel_rfl)
          have ec : ∀ v, ρ (.const v) = v := by rw [hρ]; exact fun _ => rfl
          clear hρ
          (have hz := hk0)
          go_simp
        · rintro f a' W h6 hd ⟨rfl, G9, hG9, S⟩
          refine wpOp_run (v := .bool false) rfl rfl (fun ρ hρ => ?_) ⟨(acts_some 6 rfl (by kernel_rfl) (by kernel_rfl)).symm, G9, hG9, S⟩
          have e0 : ρ (.tmp 24) = .bool false := by rw [hρ]; exact acts_eval_hit 5 rfl hd.1 (by rw [HSZ]; rfl) (by kernel_rfl)
          clear hρ
          go_simp
        · rintro f a' W h7 hd ⟨rfl, G9, hG9, S⟩
          have q1 : (acts [(0, 19, .pointer (some ⟨aF, 0, none⟩)), (1, 20, .int .i64 k), (2, 21, .bool (false)), (3, 22, .pointer (some ⟨aF, 0, none⟩)), (4, 23, .int .i64 k), (5, 24, .bool false), (6, 25, .bool false), (7, 26, undef), (8, 27, undef), (9, 28, undef), (10, 29, .bool (false)), (11, 30, .bool true), (12, 31, .bool true), (13, 32, .bool true), (14, 33, .bool true), (15, 2, .bool true)] f a0).eval (.tmp 1) = .pointer (some ⟨aF, 0, none⟩) := (acts_eval_tmp 1 (by kernel_rfl)).trans E1
          (refine wpOp_skip rfl (wanted_miss rfl rfl (b' := false) (acts_eval_hit 6 rfl hd.1 (by rw [HSZ]; rfl) (by kernel_rfl)) (by decide)) ?_; exact ⟨(acts_some 7 rfl (by kernel_rfl) (by kernel_rfl)).symm, G9, hG9, S⟩)
        · rintro f a' W h8 hd ⟨rfl, G9, hG9, S⟩
          have q26 : (acts [(0, 19, .pointer (some ⟨aF, 0, none⟩)), (1, 20, .int .i64 k), (2, 21, .bool (false)), (3, 22, .pointer (some ⟨aF, 0, none⟩)), (4, 23, .int .i64 k), (5, 24, .bool false), (6, 25, .bool false), (7, 26, undef), (8, 27, undef), (9, 28, undef), (10, 29, .bool (false)), (11, 30, .bool true), (12, 31, .bool true), (13, 32, .bool true), (14, 33, .bool true), (15, 2, .bool true)] f a0).eval (.tmp 26) = undef := acts_eval_hit 7 rfl hd.1 (by rw [HSZ]; rfl) (by kernel_rfl)
          (refine wpOp_skip rfl (wanted_miss rfl rfl (b' := false) (acts_eval_hit 6 rfl hd.2.1 (by rw [HSZ]; rfl) (by kernel_rfl)) (by decide)) ?_; exact ⟨(acts_some 8 rfl (by kernel_rfl) (by kernel_rfl)).symm, G9, hG9, S⟩)
        · rintro f a' W h9 hd ⟨rfl, G9, hG9, S⟩
          have q27 : (acts [(0, 19, .pointer (some ⟨aF, 0, none⟩)), (1, 20, .int .i64 k), (2, 21, .bool (false)), (3, 22, .pointer (some ⟨aF, 0, none⟩)), (4, 23, .int .i64 k), (5, 24, .bool false), (6, 25, .bool false), (7, 26, undef), (8, 27, undef), (9, 28, undef), (10, 29, .bool (false)), (11, 30, .bool true), (12, 31, .bool true), (13, 32, .bool true), (14, 33, .bool true), (15, 2, .bool true)] f a0).eval (.tmp 27) = undef := acts_eval_hit 8 rfl hd.1 (by rw [HSZ]; rfl) (by kernel_rfl)
          (refine wpOp_skip rfl (wanted_miss rfl rfl (b' := false) (acts_eval_hit 6 rfl hd.2.1 (by rw [HSZ]; rfl) (by kernel_rfl)) (by decide)) ?_; exact ⟨(acts_some 9 rfl (by kernel_rfl) (by kernel_rfl)).symm, G9, hG9, S⟩)
        · rintro f a' W h10 hd ⟨rfl, G9, hG9, S⟩
          refine wpOp_run (v := .bool (false)) rfl rfl (fun ρ hρ => ?_) ⟨(acts_some 10 rfl (by kernel_rfl) (by kernel_rfl)).symm, G9, hG9, S⟩
          have e0 : ρ (.tmp 25) = .bool false := by rw [hρ]; exact acts_eval_hit 6 rfl hd.1 (by rw [HSZ]; rfl) (by kernel_rfl)
          have e1 : ρ (.tmp 28) = undef := by rw [hρ]; exact acts_eval_hit 9 rfl hd.2.1 (by rw [HSZ]; rfl) (by kernel_rfl)
          have ec : ∀ v, ρ (.const v) = v := by rw [hρ]; exact fun _ => rfl
          clear hρ
          go_simp
        · rintro f a' W h11 hd ⟨rfl, G9, hG9, S⟩
          refine wpOp_run (v := .bool true) rfl rfl (fun ρ hρ => ?_) ⟨(acts_some 11 rfl (by kernel_rfl) (by kernel_rfl)).symm, G9, hG9, S⟩
          have e0 : ρ (.tmp 21) = .bool (false) := by rw [hρ]; exact acts_eval_hit 2 rfl hd.1 (by rw [HSZ]; rfl) (by kernel_rfl)
          have e1 : ρ (.tmp 29) = .bool (false) := by rw [hρ]; exact acts_eval_hit 10 rfl hd.2.1 (by rw [HSZ]; rfl) (by kernel_rfl)
          clear hρ
          go_simp
        · rintro f a' W h12 hd ⟨rfl, G9, hG9, S⟩
          refine wpOp_run (v := .bool true) rfl rfl (fun ρ hρ => ?_) ⟨(acts_some 12 rfl (by kernel_rfl) (by kernel_rfl)).symm, G9, hG9, S⟩
          have e0 : ρ (.tmp 30) = .bool true := by rw [hρ]; exact acts_eval_hit 11 rfl hd.1 (by rw [HSZ]; rfl) (by kernel_rfl)
          clear hρ
          go_simp
        · rintro f a' W h13 hd ⟨rfl, G9, hG9, S⟩
          refine wpOp_callG rfl (wanted_hit (t := 31) rfl rfl (acts_eval_hit 12 rfl hd.1 (by rw [HSZ]; rfl) (by kernel_rfl))) (fun ρ hρ => ?_) (law_awake S) ?_
          · skip
            have ef : ρ (.func 8) = .func (.func 8) #[] #[] := by rw [hρ]; rfl
            clear hρ
            go_simp
          · (rintro e W' ⟨rfl, G8, hG8, S'⟩; exact ⟨_, rfl, acts_swap rfl (k := 13) rfl (by kernel_rfl) (by kernel_rfl), G8, hG9.trans hG8, S'⟩)
        · rintro f a' W h14 hd ⟨rfl, G9, hG9, S⟩
          refine wpOp_run (v := .bool true) rfl rfl (fun ρ hρ => ?_) ⟨(acts_some 14 rfl (by kernel_rfl) (by kernel_rfl)).symm, G9, hG9, S⟩
          have e0 : ρ (.tmp 31) = .bool true := by rw [hρ]; exact acts_eval_hit 12 rfl hd.1 (by rw [HSZ]; rfl) (by kernel_rfl)
          have e1 : ρ (.tmp 32) = .bool true := by rw [hρ]; exact acts_eval_hit 13 rfl hd.2.1 (by rw [HSZ]; rfl) (by kernel_rfl)
          have ec : ∀ v, ρ (.const v) = v := by rw [hρ]; exact fun _ => rfl
          clear hρ
          go_simp
        · rintro f a' W h15 hd ⟨rfl, G9, hG9, S⟩
          refine wpOp_run (v := .bool true) rfl rfl (fun ρ hρ => ?_) ⟨(acts_some 15 rfl (by kernel_rfl) (by kernel_rfl)).symm, G9, hG9, S⟩
          have e0 : ρ (.tmp 33) = .bool true := by rw [hρ]; exact acts_eval_hit 14 rfl hd.1 (by rw [HSZ]; rfl) (by kernel_rfl)
          clear hρ
          go_simp
      · rintro a' W ⟨rfl, G9, hG9, S9⟩
        subst ha0
        simp only [acts, if_true, Act.put, List.setIfInBounds_toArray, List.set_cons_succ, List.set_cons_zero]
        have HS := Lib.hid S9
        clear S2 S9 HSZ E1
        go_wp2_with fail
        exact hK.out _ _ ⟨rfl, (HS.out.drop).above hG9⟩
  have h3 : 255 < k := by omega
  go_enter Try.func5, Try.ntmps5
  go_upto_region 2 with fail
  refine wp_world S1 fun w1 S2 => ?_
  clear S1
  generalize w.heap.size = aF at S2 ⊢
  cases hk0 : decide (k ≥ 0) with
  | true =>
    have hkn : decide (0 ≤ k ∧ k ≤ 9) = decide (k ≤ 9) := by have := of_decide_eq_true hk0; simp; omega
    refine wp_act fun a0 ha0 => ?_
    have HSZ : a0.tmps.size = 59 := by rw [ha0]; rfl
    have E1 : a0.eval (.tmp 1) = .pointer (some ⟨aF, 0, none⟩) := by rw [ha0]; rfl
    refine wp_region_J (by kernel_rfl) 16 (by kernel_rfl) [[], [0], [1], [], [3], [4], [5, 2], [6], [7, 6], [8, 6], [6, 9], [2, 10], [11, 6], [12, 12], [12, 13], [14, 13, 0, 1, 2, 3, 4, 5, 6, 7, 8, 9, 10, 11, 12, 13, 14]] (by kernel_rfl) (by kernel_rfl) (fun f a' W => a' = acts [(0, 19, .pointer (some ⟨aF, 0, none⟩)), (1, 20, .int .i64 k), (2, 21, .bool (decide (k ≤ 9))), (3, 22, .pointer (some ⟨aF, 0, none⟩)), (4, 23, .int .i64 k), (5, 24, .bool true), (6, 25, .bool true), (7, 26, .pointer (some ⟨aF, 0, none⟩)), (8, 27, .int .i64 k), (9, 28, .bool (decide (k ≤ 9))), (10, 29, .bool (decide (k ≤ 9))), (11, 30, .bool true), (12, 31, .bool true), (13, 32, .bool true), (14, 33, .bool true), (15, 2, .bool true)] f a0 ∧ ∃ G9, (Gnd.of w).le G9 ∧ Sat G9 W [blk aF #[.int .i64 k, .int .i64 fl, .int .i64 s, .slice A n c] 24]) ?_ ?_ ?_
    · exact ⟨rfl, _, hG, S2.drew⟩
    · refine ⟨?_, ?_, ?_, ?_, ?_, ?_, ?_, ?_, ?_, ?_, ?_, ?_, ?_, ?_, ?_, ?_, trivial⟩
      · rintro f a' W h0 hd ⟨rfl, G9, hG9, S⟩
        refine wpOp_run (v := .pointer (some ⟨aF, 0, none⟩)) rfl rfl (fun ρ hρ => ?_) ⟨(acts_some 0 rfl (by kernel_rfl) (by kernel_rfl)).symm, G9, hG9, S⟩
        have e0 : ρ (.tmp 1) = .pointer (some ⟨aF, 0, none⟩) := by rw [hρ]; exact (acts_eval_tmp 1 (by kernel_rfl)).trans E1
        clear hρ
        go_simp
      · rintro f a' W h1 hd ⟨rfl, G9, hG9, S⟩
        refine wpOp_run (v := .int .i64 k) rfl rfl (fun ρ hρ => ?_) ⟨(acts_some 1 rfl (by kernel_rfl) (by kernel_rfl)).symm, G9, hG9, S⟩
        have e0 : ρ (.tmp 19) = .pointer (some ⟨aF, 0, none⟩) := by rw [hρ]; exact acts_eval_hit 0 rfl hd.1 (by rw [HSZ]; rfl) (by kernel_rfl)
        clear hρ
        (have hcl : W.cell? ⟨aF, 0, none⟩ = some (.int .i64 k) := S.cell 0)
        go_simp
      · rintro f a' W h2 hd ⟨rfl, G9, hG9, S⟩
        refine wpOp_call rfl rfl (fun ρ hρ => ?_) (pl_known k W) ?_
        · skip
          have e0 : ρ (.tmp 20) = .int .i64 k := by rw [hρ]; exact acts_eval_hit 1 rfl hd.1 (by rw [HSZ]; rfl) (by kernel_rfl)
          have ef : ρ (.func 13) = .func (.func 13) #[] #[] := by rw [hρ]; rfl
          clear hρ
          go_simp
        · (rintro e W' ⟨e1, rfl⟩; rw [hkn] at e1; subst e1; exact ⟨_, rfl, acts_swap rfl (k := 2) rfl (by kernel_rfl) (by kernel_rfl), G9, hG9, S⟩)
      · rintro f a' W h3 hd ⟨rfl, G9, hG9, S⟩
        refine wpOp_run (v := .pointer (some ⟨aF, 0, none⟩)) rfl rfl (fun ρ hρ => ?_) ⟨(acts_some 3 rfl (by kernel_rfl) (by kernel_rfl)).symm, G9, hG9, S⟩
        have e0 : ρ (.tmp 1) = .pointer (some ⟨aF, 0, none⟩) := by rw [hρ]; exact (acts_eval_tmp 1 (by kernel_rfl)).trans E1
        clear hρ
        go_simp
      · rintro f a' W h4 hd ⟨rfl, G9, hG9, S⟩
        refine wpOp_run (v := .int .i64 k) rfl rfl (fun ρ hρ => ?_) ⟨(acts_some 4 rfl (by kernel_rfl) (by kernel_rfl)).symm, G9, hG9, S⟩
        have e0 : ρ (.tmp 22) = .pointer (some ⟨aF, 0, none⟩) := by rw [hρ]; exact acts_eval_hit 3 rfl hd.1 (by rw [HSZ]; rfl) (by kernel_rfl)
        clear hρ
        (have hcl : W.cell? ⟨aF, 0, none⟩ = some (.int .i64 k) := S.cell 0)
        go_simp
      · rintro f a' W h5 hd ⟨rfl, G9, hG9, S⟩
        refine wpOp_run (v := .bool true) rfl rfl (fun ρ hρ => ?_) ⟨(acts_some 5 rfl (by kernel_rfl) (by kernel_rfl)).symm, G9, hG9, S⟩
        have e0 : ρ (.tmp 23) = .int .i64 k := by rw [hρ]; exact acts_eval_hit 4 rfl hd.1 (by rw [HSZ]; rfl) (by kernel_rfl)
        have ec : ∀ v, ρ (.const v) = v := by rw [hρ]; exact fun _ => rfl
        clear hρ
        (have hz := hk0)
        go_simp
      · rintro f a' W h6 hd ⟨rfl, G9, hG9, S⟩
        refine wpOp_run (v := .bool true) rfl rfl (fun ρ hρ => ?_) ⟨(acts_some 6 rfl (by kernel_rfl) (by kernel_rfl)).symm, G9, hG9, S⟩
        have e0 : ρ (.tmp 24) = .bool true := by rw [hρ]; exact acts_eval_hit 5 rfl hd.1 (by rw [HSZ]; rfl) (by kernel_rfl)
        clear hρ
        go_simp
      · rintro f a' W h7 hd ⟨rfl, G9, hG9, S⟩
        refine wpOp_runG (v := .pointer (some ⟨aF, 0, none⟩)) rfl ?_ (fun ρ hρ => ?_) ⟨(acts_some 7 rfl (by kernel_rfl) (by kernel_rfl)).symm, G9, hG9, S⟩
        · exact wanted_hit (t := 25) rfl rfl (acts_eval_hit 6 rfl hd.1 (by rw [HSZ]; rfl) (by kernel_rfl))
        · skip
          have e0 : ρ (.tmp 1) = .pointer (some ⟨aF, 0, none⟩) := by rw [hρ]; exact (acts_eval_tmp 1 (by kernel_rfl)).trans E1
          clear hρ
          go_simp
      · rintro f a' W h8 hd ⟨rfl, G9, hG9, S⟩
        refine wpOp_runG (v := .int .i64 k) rfl ?_ (fun ρ hρ => ?_) ⟨(acts_some 8 rfl (by kernel_rfl) (by kernel_rfl)).symm, G9, hG9, S⟩
        · exact wanted_hit (t := 25) rfl rfl (acts_eval_hit 6 rfl hd.2.1 (by rw [HSZ]; rfl) (by kernel_rfl))
        · skip
          have e0 : ρ (.tmp 26) = .pointer (some ⟨aF, 0, none⟩) := by rw [hρ]; exact acts_eval_hit 7 rfl hd.1 (by rw [HSZ]; rfl) (by kernel_rfl)
          clear hρ
          (have hcl : W.cell? ⟨aF, 0, none⟩ = some (.int .i64 k) := S.cell 0)
          go_simp
      · rintro f a' W h9 hd ⟨rfl, G9, hG9, S⟩
        refine wpOp_runG (v := .bool (decide (k ≤ 9))) rfl ?_ (fun ρ hρ => ?_) ⟨(acts_some 9 rfl (by kernel_rfl) (by kernel_rfl)).symm, G9, hG9, S⟩
        · exact wanted_hit (t := 25) rfl rfl (acts_eval_hit 6 rfl hd.2.1 (by rw [HSZ]; rfl) (by kernel_rfl))
        · skip
          have e0 : ρ (.tmp 27) = .int .i64 k := by rw [hρ]; exact acts_eval_hit 8 rfl hd.1 (by rw [HSZ]; rfl) (by kernel_rfl)
          have ec : ∀ v, ρ (.const v) = v := by rw [hρ]; exact fun _ => rfl
          clear hρ
          go_simp
      · rintro f a' W h10 hd ⟨rfl, G9, hG9, S⟩
        refine wpOp_run (v := .bool (decide (k ≤ 9))) rfl rfl (fun ρ hρ => ?_) ⟨(acts_some 10 rfl (by kernel_rfl) (by kernel_rfl)).symm, G9, hG9, S⟩
        have e0 : ρ (.tmp 25) = .bool true := by rw [hρ]; exact acts_eval_hit 6 rfl hd.1 (by rw [HSZ]; rfl) (by kernel_rfl)
        have e1 : ρ (.tmp 28) = .bool (decide (k ≤ 9)) := by rw [hρ]; exact acts_eval_hit 9 rfl hd.2.1 (by rw [HSZ]; rfl) (by kernel_rfl)
        have ec : ∀ v, ρ (.const v) = v := by rw [hρ]; exact fun _ => rfl
        clear hρ
        go_simp
      · rintro f a' W h11 hd ⟨rfl, G9, hG9, S⟩
        refine wpOp_run (v := .bool true) rfl rfl (fun ρ hρ => ?_) ⟨(acts_some 11 rfl (by kernel_rfl) (by kernel_rfl)).symm, G9, hG9, S⟩
        have e0 : ρ (.tmp 21) = .bool (decide (k ≤ 9)) := by rw [hρ]; exact acts_eval_hit 2 rfl hd.1 (by rw [HSZ]; rfl) (by kernel_rfl)
        have e1 : ρ (.tmp 29) = .bool (decide (k ≤ 9)) := by rw [hρ]; exact acts_eval_hit 10 rfl hd.2.1 (by rw [HSZ]; rfl) (by kernel_rfl)
        clear hρ
        go_simp
      · rintro f a' W h12 hd ⟨rfl, G9, hG9, S⟩
        refine wpOp_run (v := .bool true) rfl rfl (fun ρ hρ => ?_) ⟨(acts_some 12 rfl (by kernel_rfl) (by kernel_rfl)).symm, G9, hG9, S⟩
        have e0 : ρ (.tmp 30) = .bool true := by rw [hρ]; exact acts_eval_hit 11 rfl hd.1 (by rw [HSZ]; rfl) (by kernel_rfl)
        clear hρ
        go_simp
      · rintro f a' W h13 hd ⟨rfl, G9, hG9, S⟩
        refine wpOp_callG rfl (wanted_hit (t := 31) rfl rfl (acts_eval_hit 12 rfl hd.1 (by rw [HSZ]; rfl) (by kernel_rfl))) (fun ρ hρ => ?_) (law_awake S) ?_
        · skip
          have ef : ρ (.func 8) = .func (.func 8) #[] #[] := by rw [hρ]; rfl
          clear hρ
          go_simp
        · (rintro e W' ⟨rfl, G8, hG8, S'⟩; exact ⟨_, rfl, acts_swap rfl (k := 13) rfl (by kernel_rfl) (by kernel_rfl), G8, hG9.trans hG8, S'⟩)
      · rintro f a' W h14 hd ⟨rfl, G9, hG9, S⟩
        refine wpOp_run (v := .bool true) rfl rfl (fun ρ hρ => ?_) ⟨(acts_some 14 rfl (by kernel_rfl) (by kernel_rfl)).symm, G9, hG9, S⟩
        have e0 : ρ (.tmp 31) = .bool true := by rw [hρ]; exact acts_eval_hit 12 rfl hd.1 (by rw [HSZ]; rfl) (by kernel_rfl)
        have e1 : ρ (.tmp 32) = .bool true := by rw [hρ]; exact acts_eval_hit 13 rfl hd.2.1 (by rw [HSZ]; rfl) (by kernel_rfl)
        have ec : ∀ v, ρ (.const v) = v := by rw [hρ]; exact fun _ => rfl
        clear hρ
        go_simp
      · rintro f a' W h15 hd ⟨rfl, G9, hG9, S⟩
        refine wpOp_run (v := .bool true) rfl rfl (fun ρ hρ => ?_) ⟨(acts_some 15 rfl (by kernel_rfl) (by kernel_rfl)).symm, G9, hG9, S⟩
        have e0 : ρ (.tmp 33) = .bool true := by rw [hρ]; exact acts_eval_hit 14 rfl hd.1 (by rw [HSZ]; rfl) (by kernel_rfl)
        clear hρ
        go_simp
    · rintro a' W ⟨rfl, G9, hG9, S9⟩
      subst ha0
      simp only [acts, if_true, Act.put, List.setIfInBounds_toArray, List.set_cons_succ, List.set_cons_zero]
      have HS := Lib.hid S9
      clear S2 S9 HSZ E1
      go_wp2_with fail
      exact hK.out _ _ ⟨rfl, (HS.out.drop).above hG9⟩
  | false =>
    have hkn : decide (0 ≤ k ∧ k ≤ 9) = false := by have := of_decide_eq_false hk0; simp; omega
    refine wp_act fun a0 ha0 => ?_
    have HSZ : a0.tmps.size = 59 := by rw [ha0]; rfl
    have E1 : a0.eval (.tmp 1) = .pointer (some ⟨aF, 0, none⟩) := by rw [ha0]; rfl
    refine wp_region_J (by kernel_rfl) 16 (by kernel_rfl) [[], [0], [1], [], [3], [4], [5, 2], [6], [7, 6], [8, 6], [6, 9], [2, 10], [11, 6], [12, 12], [12, 13], [14, 13, 0, 1, 2, 3, 4, 5, 6, 7, 8, 9, 10, 11, 12, 13, 14]] (by kernel_rfl) (by kernel_rfl) (fun f a' W => a' = acts [(0, 19, .pointer (some ⟨aF, 0, none⟩)), (1, 20, .int .i64 k), (2, 21, .bool (false)), (3, 22, .pointer (some ⟨aF, 0, none⟩)), (4, 23, .int .i64 k), (5, 24, .bool false), (6, 25, .bool false), (7, 26, undef), (8, 27, undef), (9, 28, undef), (10, 29, .bool (false)), (11, 30, .bool true), (12, 31, .bool true), (13, 32, .bool true), (14, 33, .bool true), (15, 2, .bool true)] f a0 ∧ ∃ G9, (Gnd.of w).le G9 ∧ Sat G9 W [blk aF #[.int .i64 k, .int .i64 fl, .int .i64 s, .slice A n c] 24]) ?_ ?_ ?_
    · exact ⟨rfl, _, hG, S2.drew⟩
    · refine ⟨?_, ?_, ?_, ?_, ?_, ?_, ?_, ?_, ?_, ?_, ?_, ?_, ?_, ?_, ?_, ?_, trivial⟩
      · rintro f a' W h0 hd ⟨rfl, G9, hG9, S⟩
        refine wpOp_run (v := .pointer (some ⟨aF, 0, none⟩)) rfl rfl (fun ρ hρ => ?_) ⟨(acts_some 0 rfl (by kernel_rfl) (by kernel_rfl)).symm, G9, hG9, S⟩
        have e0 : ρ (.tmp 1) = .pointer (some ⟨aF, 0, none⟩) := by rw [hρ]; exact (acts_eval_tmp 1 (by kernel_rfl)).trans E1
        clear hρ
        go_simp
      · rintro f a' W h1 hd ⟨rfl, G9, hG9, S⟩
        refine wpOp_run (v := .int .i64 k) rfl rfl (fun ρ hρ => ?_) ⟨(acts_some 1 rfl (by kernel_rfl) (by kernel_rfl)).symm, G9, hG9, S⟩
        have e0 : ρ (.tmp 19) = .pointer (some ⟨aF, 0, none⟩) := by rw [hρ]; exact acts_eval_hit 0 rfl hd.1 (by rw [HSZ]; rfl) (by kernel_rfl)
        clear hρ
        (have hcl : W.cell? ⟨aF, 0, none⟩ = some (.int .i64 k) := S.cell 0)
        go_simp
      · rintro f a' W h2 hd ⟨rfl, G9, hG9, S⟩
        refine wpOp_call rfl rfl (fun ρ hρ => ?_) (pl_known k W) ?_
        · skip
          have e0 : ρ (.tmp 20) = .int .i64 k := by rw [hρ]; exact acts_eval_hit 1 rfl hd.1 (by rw [HSZ]; rfl) (by kernel_rfl)
          have ef : ρ (.func 13) = .func (.func 13) #[] #[] := by rw [hρ]; rfl
          clear hρ
          go_simp
        · (rintro e W' ⟨e1, rfl⟩; rw [hkn] at e1; subst e1; exact ⟨_, rfl, acts_swap rfl (k := 2) rfl (by kernel_rfl) (by kernel_rfl), G9, hG9, S⟩)
      · rintro f a' W h3 hd ⟨rfl, G9, hG9, S⟩
        refine wpOp_run (v := .pointer (some ⟨aF, 0, none⟩)) rfl rfl (fun ρ hρ => ?_) ⟨(acts_some 3 rfl (by kernel_rfl) (by kernel_rfl)).symm, G9, hG9, S⟩
        have e0 : ρ (.tmp 1) = .pointer (some ⟨aF, 0, none⟩) := by rw [hρ]; exact (acts_eval_tmp 1 (by kernel_rfl)).trans E1
        clear hρ
        go_simp
      · rintro f a' W h4 hd ⟨rfl, G9, hG9, S⟩
        refine wpOp_run (v := .int .i64 k) rfl rfl (fun ρ hρ => ?_) ⟨(acts_some 4 rfl (by kernel_rfl) (by kernel_rfl)).symm, G9, hG9, S⟩
        have e0 : ρ (.tmp 22) = .pointer (some ⟨aF, 0, none⟩) := by rw [hρ]; exact acts_eval_hit 3 rfl hd.1 (by rw [HSZ]; rfl) (by kernel_rfl)
        clear hρ
        (have hcl : W.cell? ⟨aF, 0, none⟩ = some (.int .i64 k) := S.cell 0)
        go_simp
      · rintro f a' W h5 hd ⟨rfl, G9, hG9, S⟩
        refine wpOp_run (v := .bool false) rfl rfl (fun ρ hρ => ?_) ⟨(acts_some 5 rfl (by kernel_rfl) (by kernel_rfl)).symm, G9, hG9, S⟩
        have e0 : ρ (.tmp 23) = .int .i64 k := by rw [hρ]; exact acts_eval_hit 4 rfl hd.1 (by rw [HSZ]; rfl) (by kernel_rfl)
        have ec : ∀ v, ρ (.const v) = v := by rw [hρ]; exact fun _ => rfl
        clear hρ
        (have hz := hk0)
        go_simp
      · rintro f a' W h6 hd ⟨rfl, G9, hG9, S⟩
        refine wpOp_run (v := .bool false) rfl rfl (fun ρ hρ => ?_) ⟨(acts_some 6 rfl (by kernel_rfl) (by kernel_rfl)).symm, G9, hG9, S⟩
        have e0 : ρ (.tmp 24) = .bool false := by rw [hρ]; exact acts_eval_hit 5 rfl hd.1 (by rw [HSZ]; rfl) (by kernel_rfl)
        clear hρ
        go_simp
      · rintro f a' W h7 hd ⟨rfl, G9, hG9, S⟩
        have q1 : (acts [(0, 19, .pointer (some ⟨aF, 0, none⟩)), (1, 20, .int .i64 k), (2, 21, .bool (false)), (3, 22, .pointer (some ⟨aF, 0, none⟩)), (4, 23, .int .i64 k), (5, 24, .bool false), (6, 25, .bool false), (7, 26, undef), (8, 27, undef), (9, 28, undef), (10, 29, .bool (false)), (11, 30, .bool true), (12, 31, .bool true), (13, 32, .bool true), (14, 33, .bool true), (15, 2, .bool true)] f a0).eval (.tmp 1) = .pointer (some ⟨aF, 0, none⟩) := (acts_eval_tmp 1 (by kernel_rfl)).trans E1
        (refine wpOp_skip rfl (wanted_miss rfl rfl (b' := false) (acts_eval_hit 6 rfl hd.1 (by rw [HSZ]; rfl) (by kernel_rfl)) (by decide)) ?_; exact ⟨(acts_some 7 rfl (by kernel_rfl) (by kernel_rfl)).symm, G9, hG9, S⟩)
      · rintro f a' W h8 hd ⟨rfl, G9, hG9, S⟩
        have q26 : (acts [(0, 19, .pointer (some ⟨aF, 0, none⟩)), (1, 20, .int .i64 k), (2, 21, .bool (false)), (3, 22, .pointer (some ⟨aF, 0, none⟩)), (4, 23, .int .i64 k), (5, 24, .bool false), (6, 25, .bool false), (7, 26, undef), (8, 27, undef), (9, 28, undef), (10, 29, .bool (false)), (11, 30, .bool true), (12, 31, .bool true), (13, 32, .bool true), (14, 33, .bool true), (15, 2, .bool true)] f a0).eval (.tmp 26) = undef := acts_eval_hit 7 rfl hd.1 (by rw [HSZ]; rfl) (by kernel_rfl)
        (refine wpOp_skip rfl (wanted_miss rfl rfl (b' := false) (acts_eval_hit 6 rfl hd.2.1 (by rw [HSZ]; rfl) (by kernel_rfl)) (by decide)) ?_; exact ⟨(acts_some 8 rfl (by kernel_rfl) (by kernel_rfl)).symm, G9, hG9, S⟩)
      · rintro f a' W h9 hd ⟨rfl, G9, hG9, S⟩
        have q27 : (acts [(0, 19, .pointer (some ⟨aF, 0, none⟩)), (1, 20, .int .i64 k), (2, 21, .bool (false)), (3, 22, .pointer (some ⟨aF, 0, none⟩)), (4, 23, .int .i64 k), (5, 24, .bool false), (6, 25, .bool false), (7, 26, undef), (8, 27, undef), (9, 28, undef), (10, 29, .bool (false)), (11, 30, .bool true), (12, 31, .bool true), (13, 32, .bool true), (14, 33, .bool true), (15, 2, .bool true)] f a0).eval (.tmp 27) = undef := acts_eval_hit 8 rfl hd.1 (by rw [HSZ]; rfl) (by kernel_rfl)
        (refine wpOp_skip rfl (wanted_miss rfl rfl (b' := false) (acts_eval_hit 6 rfl hd.2.1 (by rw [HSZ]; rfl) (by kernel_rfl)) (by decide)) ?_; exact ⟨(acts_some 9 rfl (by kernel_rfl) (by kernel_rfl)).symm, G9, hG9, S⟩)
      · rintro f a' W h10 hd ⟨rfl, G9, hG9, S⟩
        refine wpOp_run (v := .bool (false)) rfl rfl (fun ρ hρ => ?_) ⟨(acts_some 10 rfl (by kernel_rfl) (by kernel_rfl)).symm, G9, hG9, S⟩
        have e0 : ρ (.tmp 25) = .bool false := by rw [hρ]; exact acts_eval_hit 6 rfl hd.1 (by rw [HSZ]; rfl) (by kernel_rfl)
        have e1 : ρ (.tmp 28) = undef := by rw [hρ]; exact acts_eval_hit 9 rfl hd.2.1 (by rw [HSZ]; rfl) (by kernel_rfl)
        have ec : ∀ v, ρ (.const v) = v := by rw [hρ]; exact fun _ => rfl
        clear hρ
        go_simp
      · rintro f a' W h11 hd ⟨rfl, G9, hG9, S⟩
        refine wpOp_run (v := .bool true) rfl rfl (fun ρ hρ => ?_) ⟨(acts_some 11 rfl (by kernel_rfl) (by kernel_rfl)).symm, G9, hG9, S⟩
        have e0 : ρ (.tmp 21) = .bool (false) := by rw [hρ]; exact acts_eval_hit 2 rfl hd.1 (by rw [HSZ]; rfl) (by kernel_rfl)
        have e1 : ρ (.tmp 29) = .bool (false) := by rw [hρ]; exact acts_eval_hit 10 rfl hd.2.1 (by rw [HSZ]; rfl) (by kernel_rfl)
        clear hρ
        go_simp
      · rintro f a' W h12 hd ⟨rfl, G9, hG9, S⟩
        refine wpOp_run (v := .bool true) rfl rfl (fun ρ hρ => ?_) ⟨(acts_some 12 rfl (by kernel_rfl) (by kernel_rfl)).symm, G9, hG9, S⟩
        have e0 : ρ (.tmp 30) = .bool true := by rw [hρ]; exact acts_eval_hit 11 rfl hd.1 (by rw [HSZ]; rfl) (by kernel_rfl)
        clear hρ
        go_simp
      · rintro f a' W h13 hd ⟨rfl, G9, hG9, S⟩
        refine wpOp_callG rfl (wanted_hit (t := 31) rfl rfl (acts_eval_hit 12 rfl hd.1 (by rw [HSZ]; rfl) (by kernel_rfl))) (fun ρ hρ => ?_) (law_awake S) ?_
        · skip
          have ef : ρ (.func 8) = .func (.func 8) #[] #[] := by rw [hρ]; rfl
          clear hρ
          go_simp
        · (rintro e W' ⟨rfl, G8, hG8, S'⟩; exact ⟨_, rfl, acts_swap rfl (k := 13) rfl (by kernel_rfl) (by kernel_rfl), G8, hG9.trans hG8, S'⟩)
      · rintro f a' W h14 hd ⟨rfl, G9, hG9, S⟩
        refine wpOp_run (v := .bool true) rfl rfl (fun ρ hρ => ?_) ⟨(acts_some 14 rfl (by kernel_rfl) (by kernel_rfl)).symm, G9, hG9, S⟩
        have e0 : ρ (.tmp 31) = .bool true := by rw [hρ]; exact acts_eval_hit 12 rfl hd.1 (by rw [HSZ]; rfl) (by kernel_rfl)
        have e1 : ρ (.tmp 32) = .bool true := by rw [hρ]; exact acts_eval_hit 13 rfl hd.2.1 (by rw [HSZ]; rfl) (by kernel_rfl)
        have ec : ∀ v, ρ (.const v) = v := by rw [hρ]; exact fun _ => rfl
        clear hρ
        go_simp
      · rintro f a' W h15 hd ⟨rfl, G9, hG9, S⟩
        refine wpOp_run (v := .bool true) rfl rfl (fun ρ hρ => ?_) ⟨(acts_some 15 rfl (by kernel_rfl) (by kernel_rfl)).symm, G9, hG9, S⟩
        have e0 : ρ (.tmp 33) = .bool true := by rw [hρ]; exact acts_eval_hit 14 rfl hd.1 (by rw [HSZ]; rfl) (by kernel_rfl)
        clear hρ
        go_simp
    · rintro a' W ⟨rfl, G9, hG9, S9⟩
      subst ha0
      simp only [acts, if_true, Act.put, List.setIfInBounds_toArray, List.set_cons_succ, List.set_cons_zero]
      have HS := Lib.hid S9
      clear S2 S9 HSZ E1
      go_wp2_with fail
      exact hK.out _ _ ⟨rfl, (HS.out.drop).above hG9⟩
end Go.Proofs.Ytdfdcenbpanegaa
