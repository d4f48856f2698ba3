/- The walk over Copy. -/
import Derived.Test.YtkjelbnkfnifgaaMake
set_option linter.unusedSimpArgs false
set_option linter.unusedVariables false
namespace Go.Proofs.Ytkjelbnkfnifgaa
open Go.RowKit

section
variable {G : Gnd} {w w' : World} {l : List Asrt} {p : Nat} {L : List Int} {T : Nat}
def H3 (f : Nat → Bool) : Prop := (f 13 = true → f 8 = true) ∧ (f 14 = true → f 13 = true) ∧ (f 15 = true → f 14 = true)
set_option maxHeartbeats 4000000 in
set_option maxRecDepth 100000 in
theorem cr_copy (H : Sat G w (crA p L T :: l)) (gd : Good L) : Calls Try.prog 16 #[.pointer (some ⟨p, 0, none⟩)] w fun e w' => ∃ q, e = .returned (.pointer (some ⟨q, 0, none⟩)) ∧ Sat G w' (crA q L T :: crA p L T :: l) := by
  refine calls_any fun K hK => ?_
  obtain ⟨g, cap, cur, S, h1, h2, h3, h4⟩ := cr_open H gd.pos
  have HC : Hid (∀ {W : World} {l' : List Asrt}, Sat G W (blk p #[.int .i64 (isum L), .slice (some ⟨g, 0, none⟩) L.length cap, .int .i64 ((T % L.length : Nat) : Int)] 52 :: blk g cur 49 :: l') → Sat G W (crA p L T :: l')) := Lib.hid fun S =>
    cr_close S rfl rfl rfl h1 h2 h3 h4
  have HQ : Hid (∀ {W : World} {l' : List Asrt} {q : Nat} {u : Value}, Sat G W (blk q #[.int .i64 (isum L), u, .int .i64 ((T % L.length : Nat) : Int)] 52 :: ownS 49 1 u L.length (ints L) :: l') → Sat G W (crA q L T :: l')) := Lib.hid fun S => cr_iff.2 ⟨_, S⟩
  have HCU := Lib.hid fun i (hi : i < L.length) => cur_at (L := L) h4 rfl hi
  have gl0 := gd.pos
  have gl1 := gd.len
  generalize isum L = s at *
  generalize ((T % L.length : Nat) : Int) = t at *
  clear H h3 h4 gd
  go_enter Try.func16, Try.ntmps16
  go_upto_region 1 with fail
  refine wp_act fun a0 ha0 => ?_
  have HSZ : a0.tmps.size = 18 := by rw [ha0]; rfl
  have E0 : a0.eval (.tmp 0) = .pointer (some ⟨p, 0, none⟩) := by rw [ha0]; rfl
  refine wp_region_J (by kernel_rfl) 16 (by kernel_rfl) [[], [0], [1], [2], [], [4], [5], [6], [7], [], [9], [10], [11], [3, 8, 12], [13], [14, 8, 0, 1, 2, 3, 4, 5, 6, 7, 8, 9, 10, 11, 12, 13, 14]] (by kernel_rfl) (by kernel_rfl) (fun f a' W => ∃ q X cu, H3 f ∧ a' = acts [(0, 3, .pointer (some ⟨p, 0, none⟩)), (1, 4, .pointer (some ⟨p, 0, none⟩)), (2, 5, .pointer (some ⟨p, 0, none⟩)), (3, 6, .agg #[.int .i64 s]), (4, 7, .pointer (some ⟨p, 0, none⟩)), (5, 8, .pointer (some ⟨p, 0, none⟩)), (6, 9, .pointer (some ⟨p, 1, none⟩)), (7, 10, .slice (some ⟨g, 0, none⟩) L.length cap), (8, 11, .slice X L.length cu), (9, 12, .pointer (some ⟨p, 0, none⟩)), (10, 13, .pointer (some ⟨p, 0, none⟩)), (11, 14, .pointer (some ⟨p, 2, none⟩)), (12, 15, .int .i64 t), (13, 16, .agg #[.int .i64 (s), .slice X L.length cu, .int .i64 (t)]), (14, 17, .pointer (some ⟨q, 0, none⟩)), (15, 2, .pointer (some ⟨q, 0, none⟩))] f a0 ∧ Sat G W (opt (f 14) (blk q #[.int .i64 (s), .slice X L.length cu, .int .i64 (t)] 52) :: opt (f 8) (ownS 49 1 (.slice X L.length cu) L.length (ints L)) :: blk p #[.int .i64 s, .slice (some ⟨g, 0, none⟩) L.length cap, .int .i64 t] 52 :: blk g cur 49 :: l)) ?_ ?_ ?_
  · exact ⟨0, none, 0, (by unfold H3; decide), rfl, S.drew.opt0.opt0⟩
  · refine ⟨?_, ?_, ?_, ?_, ?_, ?_, ?_, ?_, ?_, ?_, ?_, ?_, ?_, ?_, ?_, ?_, trivial⟩
    · rintro f a' W h0 hd ⟨q, X, cu, hh, rfl, S⟩
      refine wpOp_run (v := .pointer (some ⟨p, 0, none⟩)) rfl rfl (fun ρ hρ => ?_) ⟨q, X, cu, hh, (acts_some 0 rfl (by kernel_rfl) (by kernel_rfl)).symm, S⟩
      have e0 : ρ (.tmp 0) = .pointer (some ⟨p, 0, none⟩) := by rw [hρ]; exact (acts_eval_tmp 0 (by kernel_rfl)).trans E0
      clear hρ
      go_simp
    · rintro f a' W h1 hd ⟨q, X, cu, hh, rfl, S⟩
      refine wpOp_run (v := .pointer (some ⟨p, 0, none⟩)) rfl rfl (fun ρ hρ => ?_) ⟨q, X, cu, hh, (acts_some 1 rfl (by kernel_rfl) (by kernel_rfl)).symm, S⟩
      have e0 : ρ (.tmp 3) = .pointer (some ⟨p, 0, none⟩) := by rw [hρ]; exact acts_eval_hit 0 rfl hd.1 (by rw [HSZ]; rfl) (by kernel_rfl)
      clear hρ
      go_simp
    · rintro f a' W h2 hd ⟨q, X, cu, hh, rfl, S⟩
      refine wpOp_run (v := .pointer (some ⟨p, 0, none⟩)) rfl rfl (fun ρ hρ => ?_) ⟨q, X, cu, hh, (acts_some 2 rfl (by kernel_rfl) (by kernel_rfl)).symm, S⟩
      have e0 : ρ (.tmp 4) = .pointer (some ⟨p, 0, none⟩) := by rw [hρ]; exact acts_eval_hit 1 rfl hd.1 (by rw [HSZ]; rfl) (by kernel_rfl)
      clear hρ
      go_simp
    · rintro f a' W h3 hd ⟨q, X, cu, hh, rfl, S⟩
      have q5 : (acts [(0, 3, .pointer (some ⟨p, 0, none⟩)), (1, 4, .pointer (some ⟨p, 0, none⟩)), (2, 5, .pointer (some ⟨p, 0, none⟩)), (3, 6, .agg #[.int .i64 s]), (4, 7, .pointer (some ⟨p, 0, none⟩)), (5, 8, .pointer (some ⟨p, 0, none⟩)), (6, 9, .pointer (some ⟨p, 1, none⟩)), (7, 10, .slice (some ⟨g, 0, none⟩) L.length cap), (8, 11, .slice X L.length cu), (9, 12, .pointer (some ⟨p, 0, none⟩)), (10, 13, .pointer (some ⟨p, 0, none⟩)), (11, 14, .pointer (some ⟨p, 2, none⟩)), (12, 15, .int .i64 t), (13, 16, .agg #[.int .i64 (s), .slice X L.length cu, .int .i64 (t)]), (14, 17, .pointer (some ⟨q, 0, none⟩)), (15, 2, .pointer (some ⟨q, 0, none⟩))] f a0).eval (.tmp 5) = .pointer (some ⟨p, 0, none⟩) := acts_eval_hit 2 rfl hd.1 (by rw [HSZ]; rfl) (by kernel_rfl)
      (refine wpOp_list rfl ?_; refine st_get rfl _ _ rfl p 0 q5 _ _ S.pull2 [.int .i64 s] (fun i v hv => by rcases i with _ | i <;> simp_all) _ rfl rfl (by kernel_rfl) ?_; exact ⟨q, X, cu, hh, (acts_some 3 rfl (by kernel_rfl) (by kernel_rfl)).symm, S⟩)
    · rintro f a' W h4 hd ⟨q, X, cu, hh, rfl, S⟩
      refine wpOp_run (v := .pointer (some ⟨p, 0, none⟩)) rfl rfl (fun ρ hρ => ?_) ⟨q, X, cu, hh, (acts_some 4 rfl (by kernel_rfl) (by kernel_rfl)).symm, S⟩
      have e0 : ρ (.tmp 0) = .pointer (some ⟨p, 0, none⟩) := by rw [hρ]; exact (acts_eval_tmp 0 (by kernel_rfl)).trans E0
      clear hρ
      go_simp
    · rintro f a' W h5 hd ⟨q, X, cu, hh, rfl, S⟩
      refine wpOp_run (v := .pointer (some ⟨p, 0, none⟩)) rfl rfl (fun ρ hρ => ?_) ⟨q, X, cu, hh, (acts_some 5 rfl (by kernel_rfl) (by kernel_rfl)).symm, S⟩
      have e0 : ρ (.tmp 7) = .pointer (some ⟨p, 0, none⟩) := by rw [hρ]; exact acts_eval_hit 4 rfl hd.1 (by rw [HSZ]; rfl) (by kernel_rfl)
      clear hρ
      go_simp
    · rintro f a' W h6 hd ⟨q, X, cu, hh, rfl, S⟩
      refine wpOp_run (v := .pointer (some ⟨p, 1, none⟩)) rfl rfl (fun ρ hρ => ?_) ⟨q, X, cu, hh, (acts_some 6 rfl (by kernel_rfl) (by kernel_rfl)).symm, S⟩
      have e0 : ρ (.tmp 8) = .pointer (some ⟨p, 0, none⟩) := by rw [hρ]; exact acts_eval_hit 5 rfl hd.1 (by rw [HSZ]; rfl) (by kernel_rfl)
      clear hρ
      go_simp
    · rintro f a' W h7 hd ⟨q, X, cu, hh, rfl, S⟩
      refine wpOp_run (v := .slice (some ⟨g, 0, none⟩) L.length cap) rfl rfl (fun ρ hρ => ?_) ⟨q, X, cu, hh, (acts_some 7 rfl (by kernel_rfl) (by kernel_rfl)).symm, S⟩
      have e0 : ρ (.tmp 9) = .pointer (some ⟨p, 1, none⟩) := by rw [hρ]; exact acts_eval_hit 6 rfl hd.1 (by rw [HSZ]; rfl) (by kernel_rfl)
      clear hρ
      (have hcl : W.cell? ⟨p, 1, none⟩ = some (.slice (some ⟨g, 0, none⟩) L.length cap) := S.pull2.cell 1)
      go_simp
    · rintro f a' W h8 hd ⟨q, X, cu, hh, rfl, S⟩
      refine wpOp_call rfl rfl (fun ρ hρ => ?_) (wn_clone S gl0 h1 h2 gl1 (fun i hi ↦ (S.pull3.cell i).trans (HCU.out i hi))) ?_
      · skip
        have e0 : ρ (.tmp 10) = .slice (some ⟨g, 0, none⟩) L.length cap := by rw [hρ]; exact acts_eval_hit 7 rfl hd.1 (by rw [HSZ]; rfl) (by kernel_rfl)
        have ef : ρ (.func 27) = .func (.func 27) #[] #[] := by rw [hρ]; rfl
        clear hρ
        go_simp
      · (rintro e W' ⟨u2, rfl, S'⟩; obtain ⟨X2, c2, rfl, -⟩ := S'.ownSlice; have z13 := no_of hh.1 h8; have z14 := no_of hh.2.1 z13; refine ⟨_, rfl, q, X2, c2, ⟨fun _ => rfl, hh.2⟩, acts_swap (by simp only [acts, h8, z13, Bool.false_eq_true, if_false]) (k := 8) rfl (by kernel_rfl) (by kernel_rfl), ?_⟩; show Sat G W' (opt (f 14) _ :: _); rw [z14]; exact (opt_iff.2 S'.drop2.drop2).opt0)
    · rintro f a' W h9 hd ⟨q, X, cu, hh, rfl, S⟩
      refine wpOp_run (v := .pointer (some ⟨p, 0, none⟩)) rfl rfl (fun ρ hρ => ?_) ⟨q, X, cu, hh, (acts_some 9 rfl (by kernel_rfl) (by kernel_rfl)).symm, S⟩
      have e0 : ρ (.tmp 0) = .pointer (some ⟨p, 0, none⟩) := by rw [hρ]; exact (acts_eval_tmp 0 (by kernel_rfl)).trans E0
      clear hρ
      go_simp
    · rintro f a' W h10 hd ⟨q, X, cu, hh, rfl, S⟩
      refine wpOp_run (v := .pointer (some ⟨p, 0, none⟩)) rfl rfl (fun ρ hρ => ?_) ⟨q, X, cu, hh, (acts_some 10 rfl (by kernel_rfl) (by kernel_rfl)).symm, S⟩
      have e0 : ρ (.tmp 12) = .pointer (some ⟨p, 0, none⟩) := by rw [hρ]; exact acts_eval_hit 9 rfl hd.1 (by rw [HSZ]; rfl) (by kernel_rfl)
      clear hρ
      go_simp
    · rintro f a' W h11 hd ⟨q, X, cu, hh, rfl, S⟩
      refine wpOp_run (v := .pointer (some ⟨p, 2, none⟩)) rfl rfl (fun ρ hρ => ?_) ⟨q, X, cu, hh, (acts_some 11 rfl (by kernel_rfl) (by kernel_rfl)).symm, S⟩
      have e0 : ρ (.tmp 13) = .pointer (some ⟨p, 0, none⟩) := by rw [hρ]; exact acts_eval_hit 10 rfl hd.1 (by rw [HSZ]; rfl) (by kernel_rfl)
      clear hρ
      go_simp
    · rintro f a' W h12 hd ⟨q, X, cu, hh, rfl, S⟩
      refine wpOp_run (v := .int .i64 t) rfl rfl (fun ρ hρ => ?_) ⟨q, X, cu, hh, (acts_some 12 rfl (by kernel_rfl) (by kernel_rfl)).symm, S⟩
      have e0 : ρ (.tmp 14) = .pointer (some ⟨p, 2, none⟩) := by rw [hρ]; exact acts_eval_hit 11 rfl hd.1 (by rw [HSZ]; rfl) (by kernel_rfl)
      clear hρ
      (have hcl : W.cell? ⟨p, 2, none⟩ = some (.int .i64 t) := S.pull2.cell 2)
      go_simp
    · rintro f a' W h13 hd ⟨q, X, cu, hh, rfl, S⟩
      refine wpOp_run (v := .agg #[.int .i64 (s), .slice X L.length cu, .int .i64 (t)]) rfl rfl (fun ρ hρ => ?_) ⟨q, X, cu, ⟨fun _ => hd.2.1, fun _ => rfl, hh.2.2⟩, (acts_some 13 rfl (by kernel_rfl) (by kernel_rfl)).symm, S⟩
      have e0 : ρ (.tmp 6) = .agg #[.int .i64 s] := by rw [hρ]; exact acts_eval_hit 3 rfl hd.1 (by rw [HSZ]; rfl) (by kernel_rfl)
      have e1 : ρ (.tmp 11) = .slice X L.length cu := by rw [hρ]; exact acts_eval_hit 8 rfl hd.2.1 (by rw [HSZ]; rfl) (by kernel_rfl)
      have e2 : ρ (.tmp 15) = .int .i64 t := by rw [hρ]; exact acts_eval_hit 12 rfl hd.2.2.1 (by rw [HSZ]; rfl) (by kernel_rfl)
      clear hρ
      go_simp
    · rintro f a' W h14 hd ⟨q, X, cu, hh, rfl, S⟩
      refine wpOp_mem (v := .pointer (some ⟨W.heap.size, 0, none⟩)) (w' := W.alloc (.cells #[.int .i64 (s), .slice X L.length cu, .int .i64 (t)] 52)) rfl rfl (fun ρ hρ => ?_) (⟨W.heap.size, X, cu, ⟨hh.1, fun _ => hd.1, fun _ => rfl⟩, acts_swap (by have z15 := no_of hh.2.2 h14; simp only [acts, h14, z15, Bool.false_eq_true, if_false]) (k := 14) rfl (by kernel_rfl) (by kernel_rfl), Sat.optI rfl (S.newBlk _ _).drop2⟩)
      have e0 : ρ (.tmp 16) = .agg #[.int .i64 (s), .slice X L.length cu, .int .i64 (t)] := by rw [hρ]; exact acts_eval_hit 13 rfl hd.1 (by rw [HSZ]; rfl) (by kernel_rfl)
      clear hρ
      go_simp
    · rintro f a' W h15 hd ⟨q, X, cu, hh, rfl, S⟩
      refine wpOp_run (v := .pointer (some ⟨q, 0, none⟩)) rfl rfl (fun ρ hρ => ?_) ⟨q, X, cu, ⟨hh.1, hh.2.1, fun _ => hd.1⟩, (acts_some 15 rfl (by kernel_rfl) (by kernel_rfl)).symm, S⟩
      have e0 : ρ (.tmp 17) = .pointer (some ⟨q, 0, none⟩) := by rw [hρ]; exact acts_eval_hit 14 rfl hd.1 (by rw [HSZ]; rfl) (by kernel_rfl)
      clear hρ
      go_simp
  · rintro a' W ⟨q, X, cu, -, rfl, S1⟩
    subst ha0
    simp only [acts, if_true, Act.put, List.setIfInBounds_toArray, List.set_cons_succ, List.set_cons_zero]
    have S2 := HQ.out (opt_iff.1 (opt_iff.1 S1).swap).swap
    have S3 := HC.out (S2.push2)
    clear S S1 S2 HSZ E0
    go_wp2_with fail
    exact hK.out _ _ ⟨q, rfl, S3.swap⟩
end
end Go.Proofs.Ytkjelbnkfnifgaa
