/- The walks over reasm.Reasm.Copy, and what awake, small are made of. -/
import Derived.Test.YtjaikmkfpkooiaaFeed
set_option linter.unusedSimpArgs false
set_option linter.unusedVariables false
namespace Go.Proofs.Ytjaikmkfpkooiaa
open Go.RowKit

def H3 (f : Nat → Bool) : Prop := (f 13 = true → f 8 = true) ∧ (f 14 = true → f 13 = true) ∧ (f 15 = true → f 14 = true)
set_option maxHeartbeats 4000000 in
set_option maxRecDepth 100000 in
theorem rm_copy {G : Gnd} {w : World} {l : List Asrt} {r : Nat} {most : Int} {bs : List UInt8} {d : Bool} (H : Sat G w (rmA r most bs d :: l)) (hl : bs.length ≤ 1000000000) :
    Calls Try.prog 15 #[.pointer (some ⟨r, 0, none⟩)] w fun e w' => ∃ G' q, G.le G' ∧ e = .returned (.pointer (some ⟨q, 0, none⟩)) ∧ Sat G' w' (rmA q most bs d :: rmA r most bs d :: l) := by
  refine calls_any fun K hK => ?_
  obtain ⟨vr, hr, S⟩ := rm_iff.1 H
  obtain ⟨A, c, rfl, -, -, -⟩ := hr.form
  clear H
  go_enter Try.func15, Try.ntmps15
  go_upto_region 1 with fail
  refine wp_act fun a0 ha0 => ?_
  have HSZ : a0.tmps.size = 18 := by rw [ha0]; rfl
  have E0 : a0.eval (.tmp 0) = .pointer (some ⟨r, 0, none⟩) := by rw [ha0]; rfl
  refine wp_region_J (by kernel_rfl) 16 (by kernel_rfl) [[], [0], [1], [2], [], [4], [5], [6], [7], [], [9], [10], [11], [3, 8, 12], [13], [14, 8, 0, 1, 2, 3, 4, 5, 6, 7, 8, 9, 10, 11, 12, 13, 14]] (by kernel_rfl) (by kernel_rfl) (fun f a' W => ∃ G1 X cx q, G.le G1 ∧ H3 f ∧ (f 8 = true → SlB (Go.Proofs.Ytjaikmkfpkooiaa.cellR G1.ro) (.slice X bs.length cx) bs) ∧ a' = acts [(0, 3, .pointer (some ⟨r, 0, none⟩)), (1, 4, .pointer (some ⟨r, 0, none⟩)), (2, 5, .pointer (some ⟨r, 0, none⟩)), (3, 6, .int .i64 most), (4, 7, .pointer (some ⟨r, 0, none⟩)), (5, 8, .pointer (some ⟨r, 0, none⟩)), (6, 9, .pointer (some ⟨r, 1, none⟩)), (7, 10, .slice A bs.length c), (8, 11, .slice X bs.length cx), (9, 12, .pointer (some ⟨r, 0, none⟩)), (10, 13, .pointer (some ⟨r, 0, none⟩)), (11, 14, .pointer (some ⟨r, 2, none⟩)), (12, 15, .bool d), (13, 16, .agg #[.int .i64 most, .slice X bs.length cx, .bool d]), (14, 17, .pointer (some ⟨q, 0, none⟩)), (15, 2, .pointer (some ⟨q, 0, none⟩))] f a0 ∧ Sat G1 W (opt (f 14) (blk q #[.int .i64 most, .slice X bs.length cx, .bool d] 48) :: blk r #[.int .i64 most, .slice A bs.length c, .bool d] 48 :: l)) ?_ ?_ ?_
  · exact ⟨G, none, 0, 0, Gnd.le.rfl', (by unfold H3; decide), fun h => absurd h (by decide), rfl, S.drew.opt0⟩
  · refine ⟨?_, ?_, ?_, ?_, ?_, ?_, ?_, ?_, ?_, ?_, ?_, ?_, ?_, ?_, ?_, ?_, trivial⟩
    · rintro f a' W h0 hd ⟨G1, X, cx, q, hG1, hh, hu, rfl, S⟩
      refine wpOp_run (v := .pointer (some ⟨r, 0, none⟩)) rfl rfl (fun ρ hρ => ?_) ⟨G1, X, cx, q, hG1, hh, hu, (acts_some 0 rfl (by kernel_rfl) (by kernel_rfl)).symm, S⟩
      have e0 : ρ (.tmp 0) = .pointer (some ⟨r, 0, none⟩) := by rw [hρ]; exact (acts_eval_tmp 0 (by kernel_rfl)).trans E0
      clear hρ
      go_simp
    · rintro f a' W h1 hd ⟨G1, X, cx, q, hG1, hh, hu, rfl, S⟩
      refine wpOp_run (v := .pointer (some ⟨r, 0, none⟩)) rfl rfl (fun ρ hρ => ?_) ⟨G1, X, cx, q, hG1, hh, hu, (acts_some 1 rfl (by kernel_rfl) (by kernel_rfl)).symm, S⟩
      have e0 : ρ (.tmp 3) = .pointer (some ⟨r, 0, none⟩) := by rw [hρ]; exact acts_eval_hit 0 rfl hd.1 (by rw [HSZ]; rfl) (by kernel_rfl)
      clear hρ
      go_simp
    · rintro f a' W h2 hd ⟨G1, X, cx, q, hG1, hh, hu, rfl, S⟩
      refine wpOp_run (v := .pointer (some ⟨r, 0, none⟩)) rfl rfl (fun ρ hρ => ?_) ⟨G1, X, cx, q, hG1, hh, hu, (acts_some 2 rfl (by kernel_rfl) (by kernel_rfl)).symm, S⟩
      have e0 : ρ (.tmp 4) = .pointer (some ⟨r, 0, none⟩) := by rw [hρ]; exact acts_eval_hit 1 rfl hd.1 (by rw [HSZ]; rfl) (by kernel_rfl)
      clear hρ
      go_simp
    · rintro f a' W h3 hd ⟨G1, X, cx, q, hG1, hh, hu, rfl, S⟩
      refine wpOp_run (v := .int .i64 most) rfl rfl (fun ρ hρ => ?_) ⟨G1, X, cx, q, hG1, hh, hu, (acts_some 3 rfl (by kernel_rfl) (by kernel_rfl)).symm, S⟩
      have e0 : ρ (.tmp 5) = .pointer (some ⟨r, 0, none⟩) := by rw [hρ]; exact acts_eval_hit 2 rfl hd.1 (by rw [HSZ]; rfl) (by kernel_rfl)
      clear hρ
      (have hcl : W.cell? ⟨r, 0, none⟩ = some (.int .i64 most) := S.swap.cell 0)
      go_simp
    · rintro f a' W h4 hd ⟨G1, X, cx, q, hG1, hh, hu, rfl, S⟩
      refine wpOp_run (v := .pointer (some ⟨r, 0, none⟩)) rfl rfl (fun ρ hρ => ?_) ⟨G1, X, cx, q, hG1, hh, hu, (acts_some 4 rfl (by kernel_rfl) (by kernel_rfl)).symm, S⟩
      have e0 : ρ (.tmp 0) = .pointer (some ⟨r, 0, none⟩) := by rw [hρ]; exact (acts_eval_tmp 0 (by kernel_rfl)).trans E0
      clear hρ
      go_simp
    · rintro f a' W h5 hd ⟨G1, X, cx, q, hG1, hh, hu, rfl, S⟩
      refine wpOp_run (v := .pointer (some ⟨r, 0, none⟩)) rfl rfl (fun ρ hρ => ?_) ⟨G1, X, cx, q, hG1, hh, hu, (acts_some 5 rfl (by kernel_rfl) (by kernel_rfl)).symm, S⟩
      have e0 : ρ (.tmp 7) = .pointer (some ⟨r, 0, none⟩) := by rw [hρ]; exact acts_eval_hit 4 rfl hd.1 (by rw [HSZ]; rfl) (by kernel_rfl)
      clear hρ
      go_simp
    · rintro f a' W h6 hd ⟨G1, X, cx, q, hG1, hh, hu, rfl, S⟩
      refine wpOp_run (v := .pointer (some ⟨r, 1, none⟩)) rfl rfl (fun ρ hρ => ?_) ⟨G1, X, cx, q, hG1, hh, hu, (acts_some 6 rfl (by kernel_rfl) (by kernel_rfl)).symm, S⟩
      have e0 : ρ (.tmp 8) = .pointer (some ⟨r, 0, none⟩) := by rw [hρ]; exact acts_eval_hit 5 rfl hd.1 (by rw [HSZ]; rfl) (by kernel_rfl)
      clear hρ
      go_simp
    · rintro f a' W h7 hd ⟨G1, X, cx, q, hG1, hh, hu, rfl, S⟩
      refine wpOp_run (v := .slice A bs.length c) rfl rfl (fun ρ hρ => ?_) ⟨G1, X, cx, q, hG1, hh, hu, (acts_some 7 rfl (by kernel_rfl) (by kernel_rfl)).symm, S⟩
      have e0 : ρ (.tmp 9) = .pointer (some ⟨r, 1, none⟩) := by rw [hρ]; exact acts_eval_hit 6 rfl hd.1 (by rw [HSZ]; rfl) (by kernel_rfl)
      clear hρ
      (have hcl : W.cell? ⟨r, 1, none⟩ = some (.slice A bs.length c) := S.swap.cell 1)
      go_simp
    · rintro f a' W h8 hd ⟨G1, X, cx, q, hG1, hh, hu, rfl, S⟩
      refine wpOp_call rfl rfl (fun ρ hρ => ?_) (bytes_clone S (.slice A bs.length c) bs ((hr.mono hG1).sat S).1 (by omega)) ?_
      · skip
        have e0 : ρ (.tmp 10) = .slice A bs.length c := by rw [hρ]; exact acts_eval_hit 7 rfl hd.1 (by rw [HSZ]; rfl) (by kernel_rfl)
        have ef : ρ (.func 22) = .func (.func 22) #[] #[] := by rw [hρ]; rfl
        clear hρ
        go_simp
      · (rintro e W' ⟨u', rfl, S'⟩; obtain ⟨G2, hG2, S2, hu2⟩ := S'.ownFrz; obtain ⟨X2, c2, rfl, -, -, -⟩ := hu2.form; have z13 : f 13 = false := (by cases hx : f 13; rfl; exact absurd (hh.1 hx) (by rw [h8]; decide)); have z14 : f 14 = false := (by cases hx : f 14; rfl; exact absurd (hh.2.1 hx) (by rw [z13]; decide)); have S3 : Sat G2 W' (opt (f 14) (blk q #[.int .i64 most, .slice X2 bs.length c2, .bool d] 48) :: blk r #[.int .i64 most, .slice A bs.length c, .bool d] 48 :: l) := (by rw [z14]; exact S2.drop.opt0); exact ⟨_, rfl, G2, X2, c2, q, hG1.trans hG2, ⟨fun _ => rfl, hh.2⟩, fun _ => hu2, acts_swap (by simp only [acts, h8, z13, Bool.false_eq_true, if_false]) (k := 8) rfl (by kernel_rfl) (by kernel_rfl), S3⟩)
    · rintro f a' W h9 hd ⟨G1, X, cx, q, hG1, hh, hu, rfl, S⟩
      refine wpOp_run (v := .pointer (some ⟨r, 0, none⟩)) rfl rfl (fun ρ hρ => ?_) ⟨G1, X, cx, q, hG1, hh, hu, (acts_some 9 rfl (by kernel_rfl) (by kernel_rfl)).symm, S⟩
      have e0 : ρ (.tmp 0) = .pointer (some ⟨r, 0, none⟩) := by rw [hρ]; exact (acts_eval_tmp 0 (by kernel_rfl)).trans E0
      clear hρ
      go_simp
    · rintro f a' W h10 hd ⟨G1, X, cx, q, hG1, hh, hu, rfl, S⟩
      refine wpOp_run (v := .pointer (some ⟨r, 0, none⟩)) rfl rfl (fun ρ hρ => ?_) ⟨G1, X, cx, q, hG1, hh, hu, (acts_some 10 rfl (by kernel_rfl) (by kernel_rfl)).symm, S⟩
      have e0 : ρ (.tmp 12) = .pointer (some ⟨r, 0, none⟩) := by rw [hρ]; exact acts_eval_hit 9 rfl hd.1 (by rw [HSZ]; rfl) (by kernel_rfl)
      clear hρ
      go_simp
    · rintro f a' W h11 hd ⟨G1, X, cx, q, hG1, hh, hu, rfl, S⟩
      refine wpOp_run (v := .pointer (some ⟨r, 2, none⟩)) rfl rfl (fun ρ hρ => ?_) ⟨G1, X, cx, q, hG1, hh, hu, (acts_some 11 rfl (by kernel_rfl) (by kernel_rfl)).symm, S⟩
      have e0 : ρ (.tmp 13) = .pointer (some ⟨r, 0, none⟩) := by rw [hρ]; exact acts_eval_hit 10 rfl hd.1 (by rw [HSZ]; rfl) (by kernel_rfl)
      clear hρ
      go_simp
    · rintro f a' W h12 hd ⟨G1, X, cx, q, hG1, hh, hu, rfl, S⟩
      refine wpOp_run (v := .bool d) rfl rfl (fun ρ hρ => ?_) ⟨G1, X, cx, q, hG1, hh, hu, (acts_some 12 rfl (by kernel_rfl) (by kernel_rfl)).symm, S⟩
      have e0 : ρ (.tmp 14) = .pointer (some ⟨r, 2, none⟩) := by rw [hρ]; exact acts_eval_hit 11 rfl hd.1 (by rw [HSZ]; rfl) (by kernel_rfl)
      clear hρ
      (have hcl : W.cell? ⟨r, 2, none⟩ = some (.bool d) := S.swap.cell 2)
      go_simp
    · rintro f a' W h13 hd ⟨G1, X, cx, q, hG1, hh, hu, rfl, S⟩
      refine wpOp_run (v := .agg #[.int .i64 most, .slice X bs.length cx, .bool d]) rfl rfl (fun ρ hρ => ?_) ⟨G1, X, cx, q, hG1, ⟨fun _ => hd.2.1, fun _ => rfl, hh.2.2⟩, hu, (acts_some 13 rfl (by kernel_rfl) (by kernel_rfl)).symm, S⟩
      have e0 : ρ (.tmp 6) = .int .i64 most := by rw [hρ]; exact acts_eval_hit 3 rfl hd.1 (by rw [HSZ]; rfl) (by kernel_rfl)
      have e1 : ρ (.tmp 11) = .slice X bs.length cx := by rw [hρ]; exact acts_eval_hit 8 rfl hd.2.1 (by rw [HSZ]; rfl) (by kernel_rfl)
      have e2 : ρ (.tmp 15) = .bool d := by rw [hρ]; exact acts_eval_hit 12 rfl hd.2.2.1 (by rw [HSZ]; rfl) (by kernel_rfl)
      clear hρ
      go_simp
    · rintro f a' W h14 hd ⟨G1, X, cx, q, hG1, hh, hu, rfl, S⟩
      refine wpOp_mem (v := .pointer (some ⟨W.heap.size, 0, none⟩)) (w' := W.alloc (.cells #[.int .i64 most, .slice X bs.length cx, .bool d] 48)) rfl rfl (fun ρ hρ => ?_) (⟨G1, X, cx, W.heap.size, hG1, ⟨hh.1, fun _ => hd.1, fun _ => rfl⟩, hu, acts_swap (by have z15 : f 15 = false := (by cases hx : f 15; rfl; exact absurd (hh.2.2 hx) (by rw [h14]; decide)); simp only [acts, h14, z15, Bool.false_eq_true, if_false]) (k := 14) rfl (by kernel_rfl) (by kernel_rfl), Sat.optI rfl (S.newBlk _ _).drop2⟩)
      have e0 : ρ (.tmp 16) = .agg #[.int .i64 most, .slice X bs.length cx, .bool d] := by rw [hρ]; exact acts_eval_hit 13 rfl hd.1 (by rw [HSZ]; rfl) (by kernel_rfl)
      clear hρ
      go_simp
    · rintro f a' W h15 hd ⟨G1, X, cx, q, hG1, hh, hu, rfl, S⟩
      refine wpOp_run (v := .pointer (some ⟨q, 0, none⟩)) rfl rfl (fun ρ hρ => ?_) ⟨G1, X, cx, q, hG1, ⟨hh.1, hh.2.1, fun _ => hd.1⟩, hu, (acts_some 15 rfl (by kernel_rfl) (by kernel_rfl)).symm, S⟩
      have e0 : ρ (.tmp 17) = .pointer (some ⟨q, 0, none⟩) := by rw [hρ]; exact acts_eval_hit 14 rfl hd.1 (by rw [HSZ]; rfl) (by kernel_rfl)
      clear hρ
      go_simp
  · rintro a' W ⟨G1, X, cx, q, hG1, -, hu, rfl, S1⟩
    have hu1 := hu rfl
    subst ha0
    simp only [acts, if_true, Act.put, List.setIfInBounds_toArray, List.set_cons_succ, List.set_cons_zero]
    have S2 := rm_iff.2 ⟨_, hu1, opt_iff.1 S1⟩
    have S3 := rm_iff.2 ⟨_, hr.mono hG1, S2.swap⟩
    clear S S1 S2 HSZ E0 hu
    go_wp2_with fail
    exact hK.out _ _ ⟨G1, q, hG1, rfl, S3.swap⟩
end Go.Proofs.Ytjaikmkfpkooiaa
