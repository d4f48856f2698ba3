/- The walks over New and Copy. -/
import Derived.Test.YtkjelbnkfnifgaaNew
import Derived.Test.YtkjelbnkfnifgaaFld
import Derived.Deep.Cut
set_option linter.unusedSimpArgs false
set_option linter.unusedVariables false
namespace Go.Proofs.Ytkjelbnkfnifgaa
open Go.RowKit

theorem isl_is_nil (A : Option Addr) (n c : Nat) (w : World) : (binOp .eql 34 (.slice A n c) (.slice none 0 0)).run Try.prog w = .ok (.bool A.isNone) w := by
  simp [binOp, run_equal_slice_nil w 34 3 A n c Try.underlying34]
section
variable {G : Gnd} {w w' : World} {l : List Asrt} {p : Nat} {L : List Int} {T : Nat}
theorem cr_new_not (n : Int) (w : World) (h : n < 1 ∨ 64 < n) : Calls Try.prog 8 #[.int .i64 n] w fun e w' => e = .returned (.tuple #[.pointer none, .int .i64 11]) ∧ w = w' := by
  refine calls_any fun K hK => ?_
  have hp := win_parts_none 65535 n w (by omega)
  have hnil := isl_is_nil none 0 0 w
  clear h
  go_enter Try.func8, Try.ntmps8
  go_wp2_with fail
  (with_reducible refine hp.mono ?_)
  rintro e w1 ⟨rfl, rfl⟩
  go_wp2_with fail
  exact hK.out _ _ ⟨rfl, rfl⟩
def HN (f : Nat → Bool) : Prop := (f 7 = true → f 6 = true) ∧ (f 7 = true → f 4 = true) ∧ (f 10 = true → f 7 = true)
theorem no_of {f : Nat → Bool} {i j : Nat} (h : f i = true → f j = true) (hj : f j = false) : f i = false := by
  cases hx : f i with
  | false => rfl
  | true => rw [h hx] at hj; cases hj
set_option maxHeartbeats 4000000 in
set_option maxRecDepth 100000 in
theorem cr_new (H : Sat G w l) (m : Nat) (hm0 : 1 ≤ m) (hm1 : m ≤ 64) : Calls Try.prog 8 #[.int .i64 m] w fun e w' => ∃ p, e = .returned (.tuple #[.pointer (some ⟨p, 0, none⟩), .int .i64 0]) ∧ Sat G w' (crA p (parts 65535 m) 0 :: l) := by
  refine calls_any fun K hK => ?_
  have hpn := part_nonneg 65535 m
  have hpl := part_lt 65535 m
  have hw0 : ∀ W, _ := fun W => win_new 65535 W
  rw [show winNew 65535 = (65535, 0) by decide] at hw0
  go_enter Try.func8, Try.ntmps8
  go_wp2_with fail
  (with_reducible refine (win_parts 65535 m w (by omega) (by omega) hm0 hm1).mono ?_)
  rintro e w2 ⟨rfl, hb2, hrow⟩
  have S2 : Sat G w2 (blk w.heap.size ((parts 65535 m).map (Value.int .i64)).toArray 3 :: l) := H.claim hb2 (Nat.le_refl _) hrow
  clear hb2 hrow H
  generalize w.heap.size = r at *
  obtain ⟨row, hrow⟩ : ∃ row, row = ((parts 65535 m).map (Value.int .i64)).toArray := ⟨_, rfl⟩
  rw [← hrow] at S2
  have hro : ∀ k, k < m → row[k]? = some (.int .i64 (part 65535 m k)) := fun k hk => by subst hrow; simp [parts, hk]
  have HRO := Lib.hid hro
  clear hrow hro
  have S3 := S2.newBlk #[.int .i64 0, .slice none 0 0, .int .i64 0] 52
  clear S2
  have HP := hpn
  clear hpn
  have hnil := isl_is_nil (some ⟨r, 0, none⟩) m m w2
  go_wp2_with fail
  clear hnil
  (with_reducible refine (hw0 _).mono ?_)
  rintro e w3 ⟨rfl, hb3⟩
  have S4 := S3.below hb3
  clear S3 hb3
  generalize w2.heap.size = p at *
  have f0 := S4.frozen 0
  have hc0 := S4.cell 0
  have S5 := S4.setCell 0 (.int .i64 65535)
  have hS5 : Sat G _ (blk p #[.int .i64 65535, .slice none 0 0, .int .i64 0] 52 :: blk r row 3 :: l) := S5
  have S6 := (hS5.ownNil 49 1).swap
  clear S4 S5 hS5
  go_wp2_with fail
  go_loopw [25] (fun i wr => ∃ (k : Nat) (v : Value), k ≤ m ∧ i = .int .i64 k ∧ Sat G wr (blk p #[.int .i64 65535, v, .int .i64 0] 52 :: ownS 49 1 v k (ints ((List.range k).map (part 65535 m))) :: blk r row 3 :: l)) (fun i _ => m - (intOf i).toNat)
  case atStart => exact ⟨0, _, Nat.zero_le _, rfl, S6⟩
  case round =>
    obtain ⟨k, v, hk, rfl, S⟩ := hrel
    clear S6 hc0 f0
    by_cases hlt : k < m
    · have hcell : wr.cell? ⟨r, k, none⟩ = some (.int .i64 (part 65535 m k)) := (S.pull2.cell k).trans (HRO.out k hlt)
      have HT := Lib.hid (parts_take 65535 m k)
      have p0 := HP k (by omega)
      have p1 := hpl k (by omega) (by omega) hm0 hlt
      have hn := fun W => win_new (part 65535 m k) W
      generalize part 65535 m k = x at *
      rw [show winNew x = (x, 0) by unfold winNew winRight; rw [if_pos (by simp; omega)]] at hn
      go_wp2_with fail
      (with_reducible refine (hn _).mono ?_)
      rintro e w4 ⟨rfl, hb4⟩
      have S4 := (S.below hb4).newBlk #[.int .i64 x] 49
      clear S hb4 hn hcell
      go_upto_region 10 with fail
      generalize w4.heap.size = z at *
      refine wp_world S4 fun w5 S5 => ?_
      have hxl := S5.pull2.ownSlice
      have HV1 : Hid (∃ A c, v = .slice A k c) := Lib.hid (by obtain ⟨A, c, h, -⟩ := hxl; exact ⟨A, c, h⟩)
      clear hxl
      obtain ⟨xs, hxs⟩ : ∃ xs, xs = ints ((List.range k).map (part 65535 m)) := ⟨_, rfl⟩
      rw [← hxs] at S5 HT
      clear hxs
      have hbk : k + 1 ≤ 64 := by omega
      refine wp_act fun a0 ha0 => ?_
      have HSZ : a0.tmps.size = 46 := by rw [ha0]; rfl
      have E5 : a0.eval (.tmp 5) = .pointer (some ⟨p, 0, none⟩) := by rw [ha0]; rfl
      have E8 : a0.eval (.tmp 8) = .pointer (some ⟨z, 0, none⟩) := by rw [ha0]; rfl
      refine wp_region_J (by kernel_rfl) 11 (by kernel_rfl) [[], [], [1], [2], [3], [], [5], [4, 6], [0, 0, 1, 2, 3, 4, 5, 6, 7], [8, 0, 1, 2, 3, 4, 5, 6, 7], [9, 7, 7, 0, 1, 2, 3, 4, 5, 6, 7]] (by kernel_rfl) (by kernel_rfl) (fun f a' W => ∃ q v', HN f ∧ a' = acts [(0, 34, .pointer (some ⟨p, 0, none⟩)), (1, 35, .pointer (some ⟨p, 0, none⟩)), (2, 36, .pointer (some ⟨p, 0, none⟩)), (3, 37, .pointer (some ⟨p, 1, none⟩)), (4, 38, v), (5, 39, .agg #[.int .i64 x]), (6, 40, .slice (some ⟨q, 0, none⟩) 1 1), (7, 41, v'), (8, 42, .pointer (some ⟨p, 0, none⟩)), (9, 43, .pointer (some ⟨p, 1, none⟩))] f a0 ∧ Sat G W (opt (f 6) (blk q #[.int .i64 x] 49) :: blk z #[.int .i64 x] 49 :: blk p #[.int .i64 65535, cond (f 10) v' v, .int .i64 0] 52 :: ownS 49 1 (cond (f 7) v' v) (cond (f 7) (k + 1) k) (cond (f 7) (xs ++ [.int .i64 x]) xs) :: blk r row 3 :: l)) ?_ ?_ ?_
      · exact ⟨0, undef, (by unfold HN; decide), rfl, S5.drew.opt0⟩
      · refine ⟨?_, ?_, ?_, ?_, ?_, ?_, ?_, ?_, ?_, ?_, ?_, trivial⟩
        · rintro f a' W h0 hd ⟨q, v', hh, rfl, S⟩
          refine wpOp_run (v := .pointer (some ⟨p, 0, none⟩)) rfl rfl (fun ρ hρ => ?_) ⟨q, v', hh, (acts_some 0 rfl (by kernel_rfl) (by kernel_rfl)).symm, S⟩
          have e0 : ρ (.tmp 5) = .pointer (some ⟨p, 0, none⟩) := by rw [hρ]; exact (acts_eval_tmp 5 (by kernel_rfl)).trans E5
          clear hρ
          go_simp
        · rintro f a' W h1 hd ⟨q, v', hh, rfl, S⟩
          refine wpOp_run (v := .pointer (some ⟨p, 0, none⟩)) rfl rfl (fun ρ hρ => ?_) ⟨q, v', hh, (acts_some 1 rfl (by kernel_rfl) (by kernel_rfl)).symm, S⟩
          have e0 : ρ (.tmp 5) = .pointer (some ⟨p, 0, none⟩) := by rw [hρ]; exact (acts_eval_tmp 5 (by kernel_rfl)).trans E5
          clear hρ
          go_simp
        · rintro f a' W h2 hd ⟨q, v', hh, rfl, S⟩
          refine wpOp_run (v := .pointer (some ⟨p, 0, none⟩)) rfl rfl (fun ρ hρ => ?_) ⟨q, v', hh, (acts_some 2 rfl (by kernel_rfl) (by kernel_rfl)).symm, S⟩
          have e0 : ρ (.tmp 35) = .pointer (some ⟨p, 0, none⟩) := by rw [hρ]; exact acts_eval_hit 1 rfl hd.1 (by rw [HSZ]; rfl) (by kernel_rfl)
          clear hρ
          go_simp
        · rintro f a' W h3 hd ⟨q, v', hh, rfl, S⟩
          refine wpOp_run (v := .pointer (some ⟨p, 1, none⟩)) rfl rfl (fun ρ hρ => ?_) ⟨q, v', hh, (acts_some 3 rfl (by kernel_rfl) (by kernel_rfl)).symm, S⟩
          have e0 : ρ (.tmp 36) = .pointer (some ⟨p, 0, none⟩) := by rw [hρ]; exact acts_eval_hit 2 rfl hd.1 (by rw [HSZ]; rfl) (by kernel_rfl)
          clear hρ
          go_simp
        · rintro f a' W h4 hd ⟨q, v', hh, rfl, S⟩
          (have z7 := no_of hh.2.1 h4; have z10 := no_of hh.2.2 z7)
          refine wpOp_run (v := v) rfl rfl (fun ρ hρ => ?_) ⟨q, v', ⟨hh.1, fun _ => rfl, hh.2.2⟩, (acts_some 4 rfl (by kernel_rfl) (by kernel_rfl)).symm, S⟩
          have e0 : ρ (.tmp 37) = .pointer (some ⟨p, 1, none⟩) := by rw [hρ]; exact acts_eval_hit 3 rfl hd.1 (by rw [HSZ]; rfl) (by kernel_rfl)
          clear hρ
          (have hcl : W.cell? ⟨p, 1, none⟩ = some v := (by have := S.pull2.cell 1; rw [z10] at this; exact this))
          go_simp
        · rintro f a' W h5 hd ⟨q, v', hh, rfl, S⟩
          refine wpOp_list rfl ?_
          refine st_load rfl _ _ rfl _ ((acts_eval_tmp 8 (by kernel_rfl)).trans E8) _ _ (S.swap) _ rfl rfl rfl ?_
          exact ⟨q, v', hh, (acts_some 5 rfl (by kernel_rfl) (by kernel_rfl)).symm, S⟩
        · rintro f a' W h6 hd ⟨q, v', hh, rfl, S⟩
          (have z7 := no_of hh.1 h6)
          refine wpOp_mem (v := .slice (some ⟨W.heap.size, 0, none⟩) 1 1) (w' := W.alloc (.cells #[.int .i64 x] 49)) rfl rfl (fun ρ hρ => ?_) (⟨W.heap.size, v', ⟨fun _ => rfl, hh.2⟩, acts_swap (by simp only [acts, h6, Bool.false_eq_true, if_false]) (k := 6) rfl (by kernel_rfl) (by kernel_rfl), Sat.optI rfl (S.newBlk _ _).drop2⟩)
          have e0 : ρ (.tmp 39) = .agg #[.int .i64 x] := by rw [hρ]; exact acts_eval_hit 5 rfl hd.1 (by rw [HSZ]; rfl) (by kernel_rfl)
          clear hρ
          go_simp
        · rintro f a' W h7 hd ⟨q, v', hh, rfl, S⟩
          have q38 : (acts [(0, 34, .pointer (some ⟨p, 0, none⟩)), (1, 35, .pointer (some ⟨p, 0, none⟩)), (2, 36, .pointer (some ⟨p, 0, none⟩)), (3, 37, .pointer (some ⟨p, 1, none⟩)), (4, 38, v), (5, 39, .agg #[.int .i64 x]), (6, 40, .slice (some ⟨q, 0, none⟩) 1 1), (7, 41, v'), (8, 42, .pointer (some ⟨p, 0, none⟩)), (9, 43, .pointer (some ⟨p, 1, none⟩))] f a0).eval (.tmp 38) = v := acts_eval_hit 4 rfl hd.1 (by rw [HSZ]; rfl) (by kernel_rfl)
          have q40 : (acts [(0, 34, .pointer (some ⟨p, 0, none⟩)), (1, 35, .pointer (some ⟨p, 0, none⟩)), (2, 36, .pointer (some ⟨p, 0, none⟩)), (3, 37, .pointer (some ⟨p, 1, none⟩)), (4, 38, v), (5, 39, .agg #[.int .i64 x]), (6, 40, .slice (some ⟨q, 0, none⟩) 1 1), (7, 41, v'), (8, 42, .pointer (some ⟨p, 0, none⟩)), (9, 43, .pointer (some ⟨p, 1, none⟩))] f a0).eval (.tmp 40) = .slice (some ⟨q, 0, none⟩) 1 1 := acts_eval_hit 6 rfl hd.2.1 (by rw [HSZ]; rfl) (by kernel_rfl)
          (have z10 := no_of hh.2.2 h7; simp only [hd.2.1, h7, z10, cond_false] at S; have S2 := (opt_iff.1 S).pull3; refine wpOp_list rfl ?_; refine st_append rfl _ _ 50 rfl 49 (.agg #[.int .i64 0]) 1 8 Try.underlying50 info_wn rfl (by omega) v k xs q38 S2 ⟨q, 0, none⟩ 1 1 [.int .i64 x] q40 rfl (fun j u hj => blk_cells (opt_iff.1 S) j u hj) rfl (Nat.le_trans hbk (by decide)) (by omega) ?_; intro v2 w2 S3; refine ⟨q, v2, ⟨fun _ => hd.2.1, fun _ => hd.1, fun _ => rfl⟩, acts_swap (by simp only [acts, h7, Bool.false_eq_true, if_false]) (k := 7) rfl (by kernel_rfl) (by kernel_rfl), ?_⟩; show Sat G w2 (opt (f 6) _ :: _ :: blk p #[_, cond (f 10) v2 v, _] _ :: _); rw [hd.2.1, z10]; exact opt_iff.2 S3.push3)
        · rintro f a' W h8 hd ⟨q, v', hh, rfl, S⟩
          refine wpOp_run (v := .pointer (some ⟨p, 0, none⟩)) rfl rfl (fun ρ hρ => ?_) ⟨q, v', hh, (acts_some 8 rfl (by kernel_rfl) (by kernel_rfl)).symm, S⟩
          have e0 : ρ (.tmp 34) = .pointer (some ⟨p, 0, none⟩) := by rw [hρ]; exact acts_eval_hit 0 rfl hd.1 (by rw [HSZ]; rfl) (by kernel_rfl)
          clear hρ
          go_simp
        · rintro f a' W h9 hd ⟨q, v', hh, rfl, S⟩
          refine wpOp_run (v := .pointer (some ⟨p, 1, none⟩)) rfl rfl (fun ρ hρ => ?_) ⟨q, v', hh, (acts_some 9 rfl (by kernel_rfl) (by kernel_rfl)).symm, S⟩
          have e0 : ρ (.tmp 42) = .pointer (some ⟨p, 0, none⟩) := by rw [hρ]; exact acts_eval_hit 8 rfl hd.1 (by rw [HSZ]; rfl) (by kernel_rfl)
          clear hρ
          go_simp
        · rintro f a' W h10 hd ⟨q, v', hh, rfl, S⟩
          have q43 : (acts [(0, 34, .pointer (some ⟨p, 0, none⟩)), (1, 35, .pointer (some ⟨p, 0, none⟩)), (2, 36, .pointer (some ⟨p, 0, none⟩)), (3, 37, .pointer (some ⟨p, 1, none⟩)), (4, 38, v), (5, 39, .agg #[.int .i64 x]), (6, 40, .slice (some ⟨q, 0, none⟩) 1 1), (7, 41, v'), (8, 42, .pointer (some ⟨p, 0, none⟩)), (9, 43, .pointer (some ⟨p, 1, none⟩))] f a0).eval (.tmp 43) = .pointer (some ⟨p, 1, none⟩) := acts_eval_hit 9 rfl hd.1 (by rw [HSZ]; rfl) (by kernel_rfl)
          have q41 : (acts [(0, 34, .pointer (some ⟨p, 0, none⟩)), (1, 35, .pointer (some ⟨p, 0, none⟩)), (2, 36, .pointer (some ⟨p, 0, none⟩)), (3, 37, .pointer (some ⟨p, 1, none⟩)), (4, 38, v), (5, 39, .agg #[.int .i64 x]), (6, 40, .slice (some ⟨q, 0, none⟩) 1 1), (7, 41, v'), (8, 42, .pointer (some ⟨p, 0, none⟩)), (9, 43, .pointer (some ⟨p, 1, none⟩))] f a0).eval (.tmp 41) = v' := acts_eval_hit 7 rfl hd.2.1 (by rw [HSZ]; rfl) (by kernel_rfl)
          (simp only [hd.2.1, h10, cond_true, cond_false] at S; obtain ⟨A', c', rfl, -⟩ := (S.pull3).ownSlice; refine wpOp_list rfl ?_; refine st_set rfl _ _ _ rfl _ _ _ q43 q41 rfl _ _ S.pull2 (by kernel_rfl) (by simp) fun W' S' => ?_; refine ⟨q, _, ⟨hh.1, hh.2.1, fun _ => hd.2.1⟩, (acts_none 10 (by kernel_rfl)).symm, ?_⟩; show Sat G W' (_ :: _ :: _ :: ownS _ _ (cond (f 7) _ _) (cond (f 7) _ _) (cond (f 7) _ _) :: _); rw [hd.2.1]; exact S'.push2)
      · rintro a' W ⟨q, v', -, rfl, S6⟩
        subst ha0
        simp only [acts, if_true, Act.put, List.setIfInBounds_toArray, List.set_cons_succ, List.set_cons_zero]
        have S7 := S6.drop.drop
        clear S6 S5 S4 HSZ E5 E8
        go_wp2_with fail
        go_roundw
        case rel => exact ⟨k + 1, v', by omega, by go_num, by rw [HT.out]; exact S7⟩
        case measure => simp [intOf]; omega
    · obtain rfl : k = m := by omega
      have HS := Lib.hid S
      clear S
      go_wp2_with fail
      have S2 := HS.out
      have hl : (parts 65535 k).length = k := by simp [parts]
      obtain ⟨gd, hs⟩ := parts_good k hm0 hm1
      refine hK.out _ _ ⟨p, rfl, cr_iff.2 ⟨v, ?_⟩⟩
      have S3 := (S2.pull2).drop
      rw [hs, hl, Nat.zero_mod]
      exact S3
end
end Go.Proofs.Ytkjelbnkfnifgaa
