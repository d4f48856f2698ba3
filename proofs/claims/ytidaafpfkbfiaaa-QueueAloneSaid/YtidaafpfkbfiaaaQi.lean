/- A tenant's item: its bytes; the walks over Size and own. -/
import Derived.Test.YtidaafpfkbfiaaaApp2
import Derived.Test.YtidaafpfkbfiaaaElt
import Derived.Test.YtidaafpfkbfiaaaPerm
set_option linter.unusedSimpArgs false
set_option linter.unusedVariables false
namespace Go.Proofs.Ytidaafpfkbfiaaa
open Go.RowKit

theorem SlB.up {R R' : Hp} {v : Value} {bs : List UInt8} (h : SlB (cellR R) v bs) (hR : ∀ k o, R k = some o → R' k = some o) : SlB (cellR R') v bs := by
  obtain ⟨⟨A, c, e, h1, h2, h3⟩, h4⟩ := h
  exact ⟨⟨A, c, e, h1, h2, fun j u hj => by obtain ⟨a, ha, hc⟩ := h3 j u hj; exact ⟨a, ha, cellR_mono hR hc⟩⟩, h4⟩
theorem no_of {f : Nat → Bool} {i j : Nat} (h : f i = true → f j = true) (hj : f j = false) : f i = false := by
  cases hx : f i with
  | false => rfl
  | true => rw [h hx] at hj; cases hj
section
variable {G : Gnd} {w w' : World} {l : List Asrt}
theorem it_size (H : Sat G w l) (n : Int) (A B : Option Addr) (a c b d : Nat) (h : a + b ≤ 9223372036854775807) : Calls Try.prog 12 #[.agg #[.int .i64 n, .slice A a c, .slice B b d]] w fun e w' => e = .returned (.int .i64 ((a + b : Nat) : Int)) ∧ Sat G w' l := by
  refine calls_any fun K hK => ?_
  have BB : ∀ o, Below w.heap.size w (w.alloc o) := fun o => (Below.refl _ _).alloc (Nat.le_refl _) o
  go_enter Try.func12, Try.ntmps12
  go_wp2_with fail
  exact hK.out _ _ ⟨by simp, H.below (BB _)⟩
def HN (f : Nat → Bool) : Prop := (f 8 = true → f 4 = true) ∧ (f 8 = true → f 7 = true) ∧ (f 9 = true → f 8 = true)
set_option maxHeartbeats 4000000 in
set_option maxRecDepth 100000 in
theorem it_own (H : Sat G w l) (n : Int) (hv bv : Value) (h b : List UInt8) (hh : ∀ W, Sat G W l → SlB W.cell? hv h) (hb : ∀ W, Sat G W l → SlB W.cell? bv b) (h1 : h.length ≤ 140737488355328) (h2 : b.length ≤ 140737488355328) :
    Calls Try.prog 23 #[.agg #[.int .i64 n, hv, bv]] w fun e w' => ∃ u1 u2, e = .returned (.agg #[.int .i64 n, u1, u2]) ∧ Sat G w' (ownS 5 1 u1 h.length (h.map byteV) :: ownS 5 1 u2 b.length (b.map byteV) :: l) := by
  refine calls_any fun K hK => ?_
  have HH := Lib.hid hh
  have HB := Lib.hid hb
  obtain ⟨A, c, rfl, -, -, -⟩ := (hh w H).form
  obtain ⟨B, d, rfl, -, -, -⟩ := (hb w H).form
  clear hh hb
  have S1 := (H.newBlk #[.int .i64 n, .slice A h.length c, .slice B b.length d] 24).newBlk #[.int .i64 0, .slice none 0 0, .slice none 0 0] 24
  simp only [World.size_alloc] at S1
  clear H
  go_enter Try.func23, Try.ntmps23
  go_upto_region 1 with fail
  generalize w.heap.size + 1 = q at *
  generalize w.heap.size = p at *
  refine wp_world S1 fun w1 S2 => ?_
  clear S1
  refine wp_act fun a0 ha0 => ?_
  have HSZ : a0.tmps.size = 12 := by rw [ha0]; rfl
  have E1 : a0.eval (.tmp 1) = .pointer (some ⟨p, 0, none⟩) := by rw [ha0]; rfl
  have E2 : a0.eval (.tmp 2) = .pointer (some ⟨q, 0, none⟩) := by rw [ha0]; rfl
  refine wp_region_J (by kernel_rfl) 10 (by kernel_rfl) [[], [0], [], [2], [3], [], [5], [6, 4], [1, 4, 7], [8, 7, 0, 1, 2, 3, 4, 5, 6, 7, 8]] (by kernel_rfl) (by kernel_rfl) (fun f a' W => ∃ u1 u2, HN f ∧ a' = acts [(0, 3, .pointer (some ⟨p, 0, none⟩)), (1, 4, .int .i64 n), (2, 5, .pointer (some ⟨p, 1, none⟩)), (3, 6, .slice A h.length c), (4, 7, u1), (5, 8, .pointer (some ⟨p, 2, none⟩)), (6, 9, .slice B b.length d), (7, 10, u2), (8, 11, .agg #[.int .i64 n, u1, u2])] f a0 ∧ Sat G W (opt (f 4) (ownS 5 1 u1 h.length (h.map byteV)) :: opt (f 7) (ownS 5 1 u2 b.length (b.map byteV)) :: blk q (cond (f 9) #[.int .i64 n, u1, u2] #[.int .i64 0, .slice none 0 0, .slice none 0 0]) 24 :: blk p #[.int .i64 n, .slice A h.length c, .slice B b.length d] 24 :: l)) ?_ ?_ ?_
  · exact ⟨.slice none 0 0, .slice none 0 0, (by unfold HN; decide), rfl, S2.drew.opt0.opt0⟩
  · refine ⟨?_, ?_, ?_, ?_, ?_, ?_, ?_, ?_, ?_, ?_, trivial⟩
    · rintro f a' W h0 hd ⟨u1, u2, hh, rfl, S⟩
      refine wpOp_run (v := .pointer (some ⟨p, 0, none⟩)) rfl rfl (fun ρ hρ => ?_) ⟨u1, u2, hh, (acts_some 0 rfl (by kernel_rfl) (by kernel_rfl)).symm, S⟩
      have e0 : ρ (.tmp 1) = .pointer (some ⟨p, 0, none⟩) := by rw [hρ]; exact (acts_eval_tmp 1 (by kernel_rfl)).trans E1
      clear hρ
      go_simp
    · rintro f a' W h1 hd ⟨u1, u2, hh, rfl, S⟩
      refine wpOp_run (v := .int .i64 n) rfl rfl (fun ρ hρ => ?_) ⟨u1, u2, hh, (acts_some 1 rfl (by kernel_rfl) (by kernel_rfl)).symm, S⟩
      have e0 : ρ (.tmp 3) = .pointer (some ⟨p, 0, none⟩) := by rw [hρ]; exact acts_eval_hit 0 rfl hd.1 (by rw [HSZ]; rfl) (by kernel_rfl)
      clear hρ
      (have hcl : W.cell? ⟨p, 0, none⟩ = some (.int .i64 n) := S.pull3.cell 0)
      go_simp
    · rintro f a' W h2 hd ⟨u1, u2, hh, rfl, S⟩
      refine wpOp_run (v := .pointer (some ⟨p, 1, none⟩)) rfl rfl (fun ρ hρ => ?_) ⟨u1, u2, hh, (acts_some 2 rfl (by kernel_rfl) (by kernel_rfl)).symm, S⟩
      have e0 : ρ (.tmp 1) = .pointer (some ⟨p, 0, none⟩) := by rw [hρ]; exact (acts_eval_tmp 1 (by kernel_rfl)).trans E1
      clear hρ
      go_simp
    · rintro f a' W h3 hd ⟨u1, u2, hh, rfl, S⟩
      refine wpOp_run (v := .slice A h.length c) rfl rfl (fun ρ hρ => ?_) ⟨u1, u2, hh, (acts_some 3 rfl (by kernel_rfl) (by kernel_rfl)).symm, S⟩
      have e0 : ρ (.tmp 5) = .pointer (some ⟨p, 1, none⟩) := by rw [hρ]; exact acts_eval_hit 2 rfl hd.1 (by rw [HSZ]; rfl) (by kernel_rfl)
      clear hρ
      (have hcl : W.cell? ⟨p, 1, none⟩ = some (.slice A h.length c) := S.pull3.cell 1)
      go_simp
    · rintro f a' W h4 hd ⟨u1, u2, hh, rfl, S⟩
      (have z8 := no_of hh.1 h4; have z9 := no_of hh.2.2 z8)
      refine wpOp_call rfl rfl (fun ρ hρ => ?_) (bytes_clone S (.slice A h.length c) h (HH.out W (S.drop.drop.drop.drop)).1 h1) ?_
      · skip
        have e0 : ρ (.tmp 6) = .slice A h.length c := by rw [hρ]; exact acts_eval_hit 3 rfl hd.1 (by rw [HSZ]; rfl) (by kernel_rfl)
        have ef : ρ (.func 29) = .func (.func 29) #[] #[] := by rw [hρ]; rfl
        clear hρ
        go_simp
      · (rintro e W' ⟨u, rfl, S'⟩; refine ⟨_, rfl, u, u2, ⟨fun _ => rfl, hh.2.1, hh.2.2⟩, acts_swap (by simp only [acts, h4, z8, Bool.false_eq_true, if_false]) (k := 4) rfl (by kernel_rfl) (by kernel_rfl), ?_⟩; have S9 := S'.drop2; show Sat G W' (_ :: _ :: blk q (cond (f 9) _ _) _ :: _); rw [z9] at S9 ⊢; exact Sat.optI rfl S9)
    · rintro f a' W h5 hd ⟨u1, u2, hh, rfl, S⟩
      refine wpOp_run (v := .pointer (some ⟨p, 2, none⟩)) rfl rfl (fun ρ hρ => ?_) ⟨u1, u2, hh, (acts_some 5 rfl (by kernel_rfl) (by kernel_rfl)).symm, S⟩
      have e0 : ρ (.tmp 1) = .pointer (some ⟨p, 0, none⟩) := by rw [hρ]; exact (acts_eval_tmp 1 (by kernel_rfl)).trans E1
      clear hρ
      go_simp
    · rintro f a' W h6 hd ⟨u1, u2, hh, rfl, S⟩
      refine wpOp_run (v := .slice B b.length d) rfl rfl (fun ρ hρ => ?_) ⟨u1, u2, hh, (acts_some 6 rfl (by kernel_rfl) (by kernel_rfl)).symm, S⟩
      have e0 : ρ (.tmp 8) = .pointer (some ⟨p, 2, none⟩) := by rw [hρ]; exact acts_eval_hit 5 rfl hd.1 (by rw [HSZ]; rfl) (by kernel_rfl)
      clear hρ
      (have hcl : W.cell? ⟨p, 2, none⟩ = some (.slice B b.length d) := S.pull3.cell 2)
      go_simp
    · rintro f a' W h7 hd ⟨u1, u2, hh, rfl, S⟩
      (have z8 := no_of hh.2.1 h7; have z9 := no_of hh.2.2 z8)
      refine wpOp_call rfl rfl (fun ρ hρ => ?_) (bytes_clone S (.slice B b.length d) b (HB.out W (S.drop.drop.drop.drop)).1 h2) ?_
      · skip
        have e0 : ρ (.tmp 9) = .slice B b.length d := by rw [hρ]; exact acts_eval_hit 6 rfl hd.1 (by rw [HSZ]; rfl) (by kernel_rfl)
        have ef : ρ (.func 29) = .func (.func 29) #[] #[] := by rw [hρ]; rfl
        clear hρ
        go_simp
      · (rintro e W' ⟨u, rfl, S'⟩; refine ⟨_, rfl, u1, u, ⟨hh.1, fun _ => rfl, hh.2.2⟩, acts_swap (by simp only [acts, h7, z8, Bool.false_eq_true, if_false]) (k := 7) rfl (by kernel_rfl) (by kernel_rfl), ?_⟩; have S9 := (S'.pull2).drop; show Sat G W' (_ :: _ :: blk q (cond (f 9) _ _) _ :: _); rw [z9] at S9 ⊢; exact (Sat.optI rfl S9).swap)
    · rintro f a' W h8 hd ⟨u1, u2, hh, rfl, S⟩
      refine wpOp_run (v := .agg #[.int .i64 n, u1, u2]) rfl rfl (fun ρ hρ => ?_) ⟨u1, u2, ⟨fun _ => hd.2.1, fun _ => hd.2.2.1, fun h => rfl⟩, (acts_some 8 rfl (by kernel_rfl) (by kernel_rfl)).symm, S⟩
      have e0 : ρ (.tmp 4) = .int .i64 n := by rw [hρ]; exact acts_eval_hit 1 rfl hd.1 (by rw [HSZ]; rfl) (by kernel_rfl)
      have e1 : ρ (.tmp 7) = u1 := by rw [hρ]; exact acts_eval_hit 4 rfl hd.2.1 (by rw [HSZ]; rfl) (by kernel_rfl)
      have e2 : ρ (.tmp 10) = u2 := by rw [hρ]; exact acts_eval_hit 7 rfl hd.2.2.1 (by rw [HSZ]; rfl) (by kernel_rfl)
      clear hρ
      (have S8 := S; rw [hd.2.1, hd.2.2.1] at S8; obtain ⟨_, _, hu1, -, -, -⟩ := (opt_iff.1 S8).ownForm; obtain ⟨_, _, hu2, -, -, -⟩ := (opt_iff.1 S8.swap).ownForm)
      go_simp
    · rintro f a' W h9 hd ⟨u1, u2, hh, rfl, S⟩
      have q2 : (acts [(0, 3, .pointer (some ⟨p, 0, none⟩)), (1, 4, .int .i64 n), (2, 5, .pointer (some ⟨p, 1, none⟩)), (3, 6, .slice A h.length c), (4, 7, u1), (5, 8, .pointer (some ⟨p, 2, none⟩)), (6, 9, .slice B b.length d), (7, 10, u2), (8, 11, .agg #[.int .i64 n, u1, u2])] f a0).eval (.tmp 2) = .pointer (some ⟨q, 0, none⟩) := (acts_eval_tmp 2 (by kernel_rfl)).trans E2
      have q11 : (acts [(0, 3, .pointer (some ⟨p, 0, none⟩)), (1, 4, .int .i64 n), (2, 5, .pointer (some ⟨p, 1, none⟩)), (3, 6, .slice A h.length c), (4, 7, u1), (5, 8, .pointer (some ⟨p, 2, none⟩)), (6, 9, .slice B b.length d), (7, 10, u2), (8, 11, .agg #[.int .i64 n, u1, u2])] f a0).eval (.tmp 11) = .agg #[.int .i64 n, u1, u2] := acts_eval_hit 8 rfl hd.1 (by rw [HSZ]; rfl) (by kernel_rfl)
      (have z4 := hh.1 hd.1; have z7 := hh.2.1 hd.1; have S8 := S; rw [z4, z7] at S8; obtain ⟨_, _, hu1, -, -, -⟩ := (opt_iff.1 S8).ownForm; obtain ⟨_, _, hu2, -, -, -⟩ := (opt_iff.1 S8.swap).ownForm; rw [h9] at S; refine wpOp_list rfl ?_; refine st_store rfl _ _ _ rfl _ _ q2 q11 _ _ S.pull2 rfl rfl (by simp [Value.oneCell', hu1, hu2]) fun W' S' => ?_; exact ⟨u1, u2, ⟨hh.1, hh.2.1, fun _ => hd.1⟩, (acts_none 9 (by kernel_rfl)).symm, S'.push2⟩)
  · rintro a' W ⟨u1, u2, -, rfl, S7⟩
    subst ha0
    simp only [acts, if_true, Act.put, List.setIfInBounds_toArray, List.set_cons_succ, List.set_cons_zero]
    have S8 := (opt_iff.1 (opt_iff.1 S7).swap).swap.pull2
    change Sat _ _ (blk q #[.int .i64 n, u1, u2] _ :: _) at S8
    have HS := Lib.hid S8
    clear S7 S8 S2 HSZ E1 E2
    go_wp2_with fail
    refine ret_cell HS.out 2 24 rfl _ rfl Try.underlying24 rfl (by kernel_rfl) rfl ?_
    exact hK.out _ _ ⟨u1, u2, rfl, (HS.out.drop.pull2).drop⟩
end
end Go.Proofs.Ytidaafpfkbfiaaa
