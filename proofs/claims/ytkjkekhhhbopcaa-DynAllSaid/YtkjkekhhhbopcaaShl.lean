/- The walk over shrink. -/
import Derived.Test.YtkjkekhhhbopcaaShk
set_option linter.unusedSimpArgs false
set_option linter.unusedVariables false
namespace Go.Proofs.Ytkjkekhhhbopcaa
open Go.RowKit

section
variable {G : Gnd} {w : World} {l : List Asrt} {p : Nat} {Z F : List Fd} {lim : Int}
def HSa (f : Nat → Bool) : Prop := f 18 = true → f 3 = true
def HSb (f : Nat → Bool) : Prop := (f 13 = true → f 10 = true) ∧ (f 10 = true → f 9 = true) ∧ (f 9 = true → f 4 = true)
theorem no_of {f : Nat → Bool} {i j : Nat} (h : f j = true → f i = true) (hi : f i = false) : f j = false := by
  cases hj : f j with
  | false => rfl
  | true => rw [h hj] at hi; cases hi
theorem rep_snoc (Z : List Fd) (k : Nat) : Z ++ List.replicate k (([], []) : Fd) ++ [([], [])] = Z ++ List.replicate (k + 1) ([], []) := by
  rw [List.append_assoc, List.replicate_succ']
set_option maxHeartbeats 8000000 in
set_option maxRecDepth 100000 in
theorem tb_shrink (H : Sat G w (tbA p Z F lim :: l)) (hf : fsz F ≤ 65536) (hfl : F.length ≤ 4000) (hz : Z.length ≤ 4000) (most : Int) (K0 : Nat) (hK0 : K0 = (shrF most F).2) : Calls Try.prog 25 #[.pointer (some ⟨p, 0, none⟩), .int .i64 most] w fun e w' => e = .returned (.int .i64 K0) ∧ ∃ Z', Z'.length ≤ (F.drop K0).length ∧ Sat G w' (tbA p Z' (F.drop K0) lim :: l) := by
  refine calls_any fun K hK => ?_
  have HGO := Lib.hid fun k (h : k < K0) => shrF_lt (most := most) (F := F) (hK0 ▸ h)
  have HEND := Lib.hid (hK0 ▸ shrF_end most F)
  have hkl : K0 ≤ F.length := by have := shrF_len most F; omega
  clear hK0
  go_enter Try.func25, Try.ntmps25
  go_wp2_with fail
  go_loopw [5] (fun n wr => ∃ k : Nat, k ≤ K0 ∧ n = .int .i64 k ∧ Sat G wr (tbA p (Z ++ List.replicate k ([], [])) (F.drop k) lim :: l)) (fun n _ => K0 - (intOf n).toNat)
  case atStart => exact ⟨0, Nat.zero_le _, rfl, by simpa using H⟩
  case round =>
    obtain ⟨k, hk, rfl, S⟩ := hrel
    clear H
    by_cases hlt : k < K0
    · obtain ⟨hk1, hk2⟩ := HGO.out k hlt
      obtain ⟨x, hx⟩ : ∃ x, x = F[k] := ⟨_, rfl⟩
      obtain ⟨R, hR⟩ : ∃ R, R = F.drop (k + 1) := ⟨_, rfl⟩
      have hd : F.drop k = x :: R := by rw [List.drop_eq_getElem_cons hk1, hx, hR]
      obtain ⟨Y, hY⟩ : ∃ Y, Y = Z ++ List.replicate k (([], []) : Fd) := ⟨_, rfl⟩
      have hyl : Y.length = Z.length + k := by rw [hY]; simp
      have hrl : R.length + (k + 1) = F.length := by rw [hR, List.length_drop]; omega
      have hsz : fsz (x :: R) ≤ 65536 := by
        have : fsz F = fsz (F.take k) + fsz (F.drop k) := by rw [← fsz_append, List.take_append_drop]
        rw [← hd]; omega
      rw [hd, ← hY] at S
      rw [hd] at hk2
      have HYR : Hid (Y ++ [([], [])] = Z ++ List.replicate (k + 1) (([], []) : Fd)) := Lib.hid (by rw [hY]; exact rep_snoc Z k)
      have HRR := Lib.hid hR
      have hln := tb_len S (by omega) (by simp; omega)
      obtain ⟨v, T⟩ := tb_iff.1 S
      have c2 := T.cell 2
      clear hx hR hd hY T S
      obtain ⟨s1, hs1⟩ : ∃ s1, s1 = fsz (x :: R) := ⟨_, rfl⟩
      obtain ⟨s2, hs2⟩ : ∃ s2, s2 = fsz R := ⟨_, rfl⟩
      obtain ⟨sx, hsx⟩ : ∃ sx, sx = fsz1 x := ⟨_, rfl⟩
      have HS3 : Hid (s1 = sx + s2) := Lib.hid (by rw [hs1, hs2, hsx, fsz_cons])
      rw [← hs1] at c2 hk2 hsz
      have z1 : decide ((s1 : Int) > most) = true := decide_eq_true (by omega)
      have z2 : decide ((((x :: R).length : Nat) : Int) > 0) = true := decide_eq_true (by simp only [List.length_cons]; omega)
      generalize hrl2 : (x :: R).length = rl at *
      have hrl0 : 0 < rl := by rw [← hrl2]; simp
      have HS1 := Lib.hid hs1
      have HS2 := Lib.hid hs2
      have HSX := Lib.hid hsx
      clear hs1 hs2 hsx hk2
      go_wp2_with fail
      (with_reducible refine hln.mono ?_)
      clear hln c2
      rintro e w1 ⟨rfl, S1⟩
      go_upto_region 3 with fail
      refine wp_world S1 fun w2 S2 => ?_
      clear S1
      have hsz2 : fsz (x :: R) = s1 := HS1.out.symm
      obtain ⟨v, S2⟩ := tb_iff.1 S2
      rw [hsz2] at S2
      obtain ⟨g, cap, cur, rfl, hcap, Li, S3⟩ := Sat.layOpen (S2.re [1, 0]) fd_len (by simp; omega)
      obtain ⟨N, hN⟩ : ∃ N, N = (Y ++ x :: R).length := ⟨_, rfl⟩
      have hN2 : N = Y.length + rl := by rw [hN, List.length_append, hrl2]
      rw [← hN] at S3
      have hx0 : (Y ++ x :: R)[Y.length]? = some x := by rw [List.getElem?_append_right (Nat.le_refl _)]; simp
      have HX0 := Lib.hid (Li.get hx0 (j := 0) (by decide))
      have HX1 := Lib.hid (Li.get hx0 (j := 1) (by decide))
      have HLS : Hid (Lay fenc 2 cap (setMid cur (Y.length * 2) (fenc ([], []))) ((Y ++ [([], [])]) ++ R)) := Lib.hid (by have := Li.set (i := Y.length) (by rw [← hN]; omega) (([], []) : Fd); simpa using this)
      have HRM := Lib.hid (Li.room (i := Y.length) (by rw [← hN]; omega))
      have hlc := Li.len
      rw [← hN] at hlc
      have hc3 : cap ≤ 9223372036854775807 := hcap
      have HNL : Hid (N = ((Y ++ [([], [])]) ++ R).length) := Lib.hid (by have h := hrl2; rw [hN2]; simp only [List.length_append, List.length_cons, List.length_nil] at h ⊢; omega)
      have HCL := Lib.hid hcap
      generalize hz0 : Y.length = z at *
      have HZ0 := Lib.hid hz0.symm
      have hs3 := HS3.out
      have hx1 : x.1.length + x.2.length + 32 = sx := HSX.out.symm
      have hfs : Hid (∀ {W : World} {l'}, Sat G W l' → Calls Try.prog 14 #[.agg #[.string (bstr x.1), .string (bstr x.2)]] W fun e w' => e = .returned (.int .i64 sx) ∧ Sat G w' l') := Lib.hid fun S => by
        rw [HSX.out]; exact fd_size S x.1 x.2 (by omega) (by omega)
      have hzN : (z : Int) < N := by omega
      have hzN2 : z < N := by omega
      have hwr : IntKind.i64.wrap ((s1 : Int) - (sx : Int)) = (s2 : Int) := by rw [IntWalk.i64_in _ (by omega)]; omega
      have hwz : IntKind.i64.wrap ((z : Int) + 1) = ((z + 1 : Nat) : Int) := by rw [IntWalk.i64_in _ (by omega)]; omega
      have HWZ := Lib.hid hwz
      have HWR := Lib.hid hwr
      have HLT := Lib.hid (And.intro hzN hzN2)
      have hz4 : z ≤ 8000 := by omega
      have HC : Hid (∀ {W : World}, Sat G W (blk p #[.slice (some ⟨g, 0, none⟩) N cap, .int .i64 ((z + 1 : Nat) : Int), .int .i64 s2, .int .i64 lim] 60 :: blk g (setMid cur (z * 2) (fenc ([], []))) 23 :: l) → Sat G W (tbA p (Z ++ List.replicate (k + 1) ([], [])) (F.drop (k + 1)) lim :: l)) := Lib.hid fun S7 => by
        have T := (Sat.re S7 [1, 0]).layClose HLS.out HCL.out N HNL.out
        rw [← HYR.out, ← HRR.out]
        refine tb_iff.2 ⟨.slice (some ⟨g, 0, none⟩) N cap, ?_⟩
        rw [← HS2.out]
        have e : (Y ++ [([], [])]).length = z + 1 := by rw [HZ0.out]; simp
        rw [e]
        exact Sat.swap T
      have HYL := Lib.hid hyl
      clear hyl
      clear Li hN hN2 hx0 S2 hz0 hwr hwz hx1 hrl2 hs3 hzN hzN2 hsz2 z1 z2
      refine wp_act fun a0 ha0 => ?_
      have HSZ : a0.tmps.size = 78 := by rw [ha0]; rfl
      have E0 : a0.eval (.tmp 0) = .pointer (some ⟨p, 0, none⟩) := by rw [ha0]; rfl
      refine wp_region_J (by kernel_rfl) 19 (by kernel_rfl) [[], [0], [1], [2], [], [4], [5], [6], [], [8], [9], [10], [7, 11], [12], [13], [3, 14], [0, 0, 1, 2, 3, 4, 5, 6, 7, 8, 9, 10, 11, 12, 13, 14, 15], [16, 0, 1, 2, 3, 4, 5, 6, 7, 8, 9, 10, 11, 12, 13, 14, 15], [17, 15, 14, 0, 1, 2, 3, 4, 5, 6, 7, 8, 9, 10, 11, 12, 13, 14, 15]] (by kernel_rfl) (by kernel_rfl) (fun f a' W => HSa f ∧ a' = acts [(0, 17, .pointer (some ⟨p, 0, none⟩)), (1, 18, .pointer (some ⟨p, 0, none⟩)), (2, 19, .pointer (some ⟨p, 2, none⟩)), (3, 20, .int .i64 s1), (4, 21, .pointer (some ⟨p, 0, none⟩)), (5, 22, .pointer (some ⟨p, 0, none⟩)), (6, 23, .pointer (some ⟨p, 0, none⟩)), (7, 24, .slice (some ⟨g, 0, none⟩) N cap), (8, 25, .pointer (some ⟨p, 0, none⟩)), (9, 26, .pointer (some ⟨p, 0, none⟩)), (10, 27, .pointer (some ⟨p, 1, none⟩)), (11, 28, .int .i64 z), (12, 29, .pointer (some ⟨g, z * 2, none⟩)), (13, 30, .agg #[.string (bstr x.1), .string (bstr x.2)]), (14, 31, .int .i64 sx), (15, 32, .int .i64 s2), (16, 33, .pointer (some ⟨p, 0, none⟩)), (17, 34, .pointer (some ⟨p, 2, none⟩))] f a0 ∧ Sat G W (blk p #[.slice (some ⟨g, 0, none⟩) N cap, .int .i64 z, .int .i64 ((cond (f 18) s2 s1 : Nat) : Int), .int .i64 lim] 60 :: blk g cur 23 :: l)) ?_ ?_ ?_
      · exact ⟨(by unfold HSa; decide), rfl, (S3.re [1, 0]).drew⟩
      · refine ⟨?_, ?_, ?_, ?_, ?_, ?_, ?_, ?_, ?_, ?_, ?_, ?_, ?_, ?_, ?_, ?_, ?_, ?_, ?_, trivial⟩
        · rintro f a' W h0 hd ⟨hh, rfl, S⟩
          refine wpOp_run (v := .pointer (some ⟨p, 0, none⟩)) rfl rfl (fun ρ hρ => ?_) ⟨hh, (acts_some 0 rfl (by kernel_rfl) (by kernel_rfl)).symm, S⟩
          have e0 : ρ (.tmp 0) = .pointer (some ⟨p, 0, none⟩) := by rw [hρ]; exact (acts_eval_tmp 0 (by kernel_rfl)).trans E0
          clear hρ
          go_simp
        · rintro f a' W h1 hd ⟨hh, rfl, S⟩
          refine wpOp_run (v := .pointer (some ⟨p, 0, none⟩)) rfl rfl (fun ρ hρ => ?_) ⟨hh, (acts_some 1 rfl (by kernel_rfl) (by kernel_rfl)).symm, S⟩
          have e0 : ρ (.tmp 17) = .pointer (some ⟨p, 0, none⟩) := by rw [hρ]; exact acts_eval_hit 0 rfl hd.1 (by rw [HSZ]; rfl) (by kernel_rfl)
          clear hρ
          go_simp
        · rintro f a' W h2 hd ⟨hh, rfl, S⟩
          refine wpOp_run (v := .pointer (some ⟨p, 2, none⟩)) rfl rfl (fun ρ hρ => ?_) ⟨hh, (acts_some 2 rfl (by kernel_rfl) (by kernel_rfl)).symm, S⟩
          have e0 : ρ (.tmp 18) = .pointer (some ⟨p, 0, none⟩) := by rw [hρ]; exact acts_eval_hit 1 rfl hd.1 (by rw [HSZ]; rfl) (by kernel_rfl)
          clear hρ
          go_simp
        · rintro f a' W h3 hd ⟨hh, rfl, S⟩
          (have z18 := no_of hh h3)
          refine wpOp_run (v := .int .i64 s1) rfl rfl (fun ρ hρ => ?_) ⟨fun _ => rfl, (acts_some 3 rfl (by kernel_rfl) (by kernel_rfl)).symm, S⟩
          have e0 : ρ (.tmp 19) = .pointer (some ⟨p, 2, none⟩) := by rw [hρ]; exact acts_eval_hit 2 rfl hd.1 (by rw [HSZ]; rfl) (by kernel_rfl)
          clear hρ
          (have hcl : W.cell? ⟨p, 2, none⟩ = some (.int .i64 s1) := (by have := S.cell 2; rw [z18] at this; exact this))
          go_simp
        · rintro f a' W h4 hd ⟨hh, rfl, S⟩
          refine wpOp_run (v := .pointer (some ⟨p, 0, none⟩)) rfl rfl (fun ρ hρ => ?_) ⟨hh, (acts_some 4 rfl (by kernel_rfl) (by kernel_rfl)).symm, S⟩
          have e0 : ρ (.tmp 0) = .pointer (some ⟨p, 0, none⟩) := by rw [hρ]; exact (acts_eval_tmp 0 (by kernel_rfl)).trans E0
          clear hρ
          go_simp
        · rintro f a' W h5 hd ⟨hh, rfl, S⟩
          refine wpOp_run (v := .pointer (some ⟨p, 0, none⟩)) rfl rfl (fun ρ hρ => ?_) ⟨hh, (acts_some 5 rfl (by kernel_rfl) (by kernel_rfl)).symm, S⟩
          have e0 : ρ (.tmp 21) = .pointer (some ⟨p, 0, none⟩) := by rw [hρ]; exact acts_eval_hit 4 rfl hd.1 (by rw [HSZ]; rfl) (by kernel_rfl)
          clear hρ
          go_simp
        · rintro f a' W h6 hd ⟨hh, rfl, S⟩
          refine wpOp_run (v := .pointer (some ⟨p, 0, none⟩)) rfl rfl (fun ρ hρ => ?_) ⟨hh, (acts_some 6 rfl (by kernel_rfl) (by kernel_rfl)).symm, S⟩
          have e0 : ρ (.tmp 22) = .pointer (some ⟨p, 0, none⟩) := by rw [hρ]; exact acts_eval_hit 5 rfl hd.1 (by rw [HSZ]; rfl) (by kernel_rfl)
          clear hρ
          go_simp
        · rintro f a' W h7 hd ⟨hh, rfl, S⟩
          refine wpOp_run (v := .slice (some ⟨g, 0, none⟩) N cap) rfl rfl (fun ρ hρ => ?_) ⟨hh, (acts_some 7 rfl (by kernel_rfl) (by kernel_rfl)).symm, S⟩
          have e0 : ρ (.tmp 23) = .pointer (some ⟨p, 0, none⟩) := by rw [hρ]; exact acts_eval_hit 6 rfl hd.1 (by rw [HSZ]; rfl) (by kernel_rfl)
          clear hρ
          (have hcl : W.cell? ⟨p, 0, none⟩ = some (.slice (some ⟨g, 0, none⟩) N cap) := S.cell 0)
          go_simp
        · rintro f a' W h8 hd ⟨hh, rfl, S⟩
          refine wpOp_run (v := .pointer (some ⟨p, 0, none⟩)) rfl rfl (fun ρ hρ => ?_) ⟨hh, (acts_some 8 rfl (by kernel_rfl) (by kernel_rfl)).symm, S⟩
          have e0 : ρ (.tmp 0) = .pointer (some ⟨p, 0, none⟩) := by rw [hρ]; exact (acts_eval_tmp 0 (by kernel_rfl)).trans E0
          clear hρ
          go_simp
        · rintro f a' W h9 hd ⟨hh, rfl, S⟩
          refine wpOp_run (v := .pointer (some ⟨p, 0, none⟩)) rfl rfl (fun ρ hρ => ?_) ⟨hh, (acts_some 9 rfl (by kernel_rfl) (by kernel_rfl)).symm, S⟩
          have e0 : ρ (.tmp 25) = .pointer (some ⟨p, 0, none⟩) := by rw [hρ]; exact acts_eval_hit 8 rfl hd.1 (by rw [HSZ]; rfl) (by kernel_rfl)
          clear hρ
          go_simp
        · rintro f a' W h10 hd ⟨hh, rfl, S⟩
          refine wpOp_run (v := .pointer (some ⟨p, 1, none⟩)) rfl rfl (fun ρ hρ => ?_) ⟨hh, (acts_some 10 rfl (by kernel_rfl) (by kernel_rfl)).symm, S⟩
          have e0 : ρ (.tmp 26) = .pointer (some ⟨p, 0, none⟩) := by rw [hρ]; exact acts_eval_hit 9 rfl hd.1 (by rw [HSZ]; rfl) (by kernel_rfl)
          clear hρ
          go_simp
        · rintro f a' W h11 hd ⟨hh, rfl, S⟩
          refine wpOp_run (v := .int .i64 z) rfl rfl (fun ρ hρ => ?_) ⟨hh, (acts_some 11 rfl (by kernel_rfl) (by kernel_rfl)).symm, S⟩
          have e0 : ρ (.tmp 27) = .pointer (some ⟨p, 1, none⟩) := by rw [hρ]; exact acts_eval_hit 10 rfl hd.1 (by rw [HSZ]; rfl) (by kernel_rfl)
          clear hρ
          (have hcl : W.cell? ⟨p, 1, none⟩ = some (.int .i64 z) := S.cell 1)
          go_simp
        · rintro f a' W h12 hd ⟨hh, rfl, S⟩
          refine wpOp_run (v := .pointer (some ⟨g, z * 2, none⟩)) rfl rfl (fun ρ hρ => ?_) ⟨hh, (acts_some 12 rfl (by kernel_rfl) (by kernel_rfl)).symm, S⟩
          have e0 : ρ (.tmp 24) = .slice (some ⟨g, 0, none⟩) N cap := by rw [hρ]; exact acts_eval_hit 7 rfl hd.1 (by rw [HSZ]; rfl) (by kernel_rfl)
          have e1 : ρ (.tmp 28) = .int .i64 z := by rw [hρ]; exact acts_eval_hit 11 rfl hd.2.1 (by rw [HSZ]; rfl) (by kernel_rfl)
          clear hρ
          (have hh1 := HLT.out.1; have hh2 := HLT.out.2)
          go_simp
        · rintro f a' W h13 hd ⟨hh, rfl, S⟩
          refine wpOp_run (v := .agg #[.string (bstr x.1), .string (bstr x.2)]) rfl rfl (fun ρ hρ => ?_) ⟨hh, (acts_some 13 rfl (by kernel_rfl) (by kernel_rfl)).symm, S⟩
          have e0 : ρ (.tmp 29) = .pointer (some ⟨g, z * 2, none⟩) := by rw [hρ]; exact acts_eval_hit 12 rfl hd.1 (by rw [HSZ]; rfl) (by kernel_rfl)
          clear hρ
          (have hz0 := (S.swap.cell (z * 2)).trans HX0.out; have hz1 := (S.swap.cell (z * 2 + 1)).trans HX1.out; generalize z * 2 = jj at *; simp only [fenc, List.getElem?_cons_zero, List.getElem?_cons_succ] at hz0 hz1)
          go_simp
        · rintro f a' W h14 hd ⟨hh, rfl, S⟩
          refine wpOp_call rfl rfl (fun ρ hρ => ?_) (hfs.out S) ?_
          · skip
            have e0 : ρ (.tmp 30) = .agg #[.string (bstr x.1), .string (bstr x.2)] := by rw [hρ]; exact acts_eval_hit 13 rfl hd.1 (by rw [HSZ]; rfl) (by kernel_rfl)
            have ef : ρ (.func 14) = .func (.func 14) #[] #[] := by rw [hρ]; rfl
            clear hρ
            go_simp
          · (rintro e W' ⟨rfl, S'⟩; exact ⟨_, rfl, hh, (acts_some 14 rfl (by kernel_rfl) (by kernel_rfl)).symm, S'⟩)
        · rintro f a' W h15 hd ⟨hh, rfl, S⟩
          refine wpOp_run (v := .int .i64 s2) rfl rfl (fun ρ hρ => ?_) ⟨hh, (acts_some 15 rfl (by kernel_rfl) (by kernel_rfl)).symm, S⟩
          have e0 : ρ (.tmp 20) = .int .i64 s1 := by rw [hρ]; exact acts_eval_hit 3 rfl hd.1 (by rw [HSZ]; rfl) (by kernel_rfl)
          have e1 : ρ (.tmp 31) = .int .i64 sx := by rw [hρ]; exact acts_eval_hit 14 rfl hd.2.1 (by rw [HSZ]; rfl) (by kernel_rfl)
          clear hρ
          (have hh1 := HWR.out)
          go_simp
        · rintro f a' W h16 hd ⟨hh, rfl, S⟩
          refine wpOp_run (v := .pointer (some ⟨p, 0, none⟩)) rfl rfl (fun ρ hρ => ?_) ⟨hh, (acts_some 16 rfl (by kernel_rfl) (by kernel_rfl)).symm, S⟩
          have e0 : ρ (.tmp 17) = .pointer (some ⟨p, 0, none⟩) := by rw [hρ]; exact acts_eval_hit 0 rfl hd.1 (by rw [HSZ]; rfl) (by kernel_rfl)
          clear hρ
          go_simp
        · rintro f a' W h17 hd ⟨hh, rfl, S⟩
          refine wpOp_run (v := .pointer (some ⟨p, 2, none⟩)) rfl rfl (fun ρ hρ => ?_) ⟨hh, (acts_some 17 rfl (by kernel_rfl) (by kernel_rfl)).symm, S⟩
          have e0 : ρ (.tmp 33) = .pointer (some ⟨p, 0, none⟩) := by rw [hρ]; exact acts_eval_hit 16 rfl hd.1 (by rw [HSZ]; rfl) (by kernel_rfl)
          clear hρ
          go_simp
        · rintro f a' W h18 hd ⟨hh, rfl, S⟩
          have q34 : (acts [(0, 17, .pointer (some ⟨p, 0, none⟩)), (1, 18, .pointer (some ⟨p, 0, none⟩)), (2, 19, .pointer (some ⟨p, 2, none⟩)), (3, 20, .int .i64 s1), (4, 21, .pointer (some ⟨p, 0, none⟩)), (5, 22, .pointer (some ⟨p, 0, none⟩)), (6, 23, .pointer (some ⟨p, 0, none⟩)), (7, 24, .slice (some ⟨g, 0, none⟩) N cap), (8, 25, .pointer (some ⟨p, 0, none⟩)), (9, 26, .pointer (some ⟨p, 0, none⟩)), (10, 27, .pointer (some ⟨p, 1, none⟩)), (11, 28, .int .i64 z), (12, 29, .pointer (some ⟨g, z * 2, none⟩)), (13, 30, .agg #[.string (bstr x.1), .string (bstr x.2)]), (14, 31, .int .i64 sx), (15, 32, .int .i64 s2), (16, 33, .pointer (some ⟨p, 0, none⟩)), (17, 34, .pointer (some ⟨p, 2, none⟩))] f a0).eval (.tmp 34) = .pointer (some ⟨p, 2, none⟩) := acts_eval_hit 17 rfl hd.1 (by rw [HSZ]; rfl) (by kernel_rfl)
          have q32 : (acts [(0, 17, .pointer (some ⟨p, 0, none⟩)), (1, 18, .pointer (some ⟨p, 0, none⟩)), (2, 19, .pointer (some ⟨p, 2, none⟩)), (3, 20, .int .i64 s1), (4, 21, .pointer (some ⟨p, 0, none⟩)), (5, 22, .pointer (some ⟨p, 0, none⟩)), (6, 23, .pointer (some ⟨p, 0, none⟩)), (7, 24, .slice (some ⟨g, 0, none⟩) N cap), (8, 25, .pointer (some ⟨p, 0, none⟩)), (9, 26, .pointer (some ⟨p, 0, none⟩)), (10, 27, .pointer (some ⟨p, 1, none⟩)), (11, 28, .int .i64 z), (12, 29, .pointer (some ⟨g, z * 2, none⟩)), (13, 30, .agg #[.string (bstr x.1), .string (bstr x.2)]), (14, 31, .int .i64 sx), (15, 32, .int .i64 s2), (16, 33, .pointer (some ⟨p, 0, none⟩)), (17, 34, .pointer (some ⟨p, 2, none⟩))] f a0).eval (.tmp 32) = .int .i64 s2 := acts_eval_hit 15 rfl hd.2.1 (by rw [HSZ]; rfl) (by kernel_rfl)
          (rw [h18] at S; simp only [cond_false] at S; refine wpOp_list rfl ?_; refine st_set rfl _ _ _ rfl _ _ _ q34 q32 rfl _ _ S (by kernel_rfl) (by simp) fun W' S' => ?_; exact ⟨fun _ => hd.2.2.2.2.2.2.1, (acts_none 18 (by kernel_rfl)).symm, S'⟩)
      rintro a' W ⟨-, rfl, S5⟩
      subst ha0
      simp only [acts, if_true, Act.put, List.setIfInBounds_toArray, List.set_cons_succ, List.set_cons_zero]
      simp only [cond_true] at S5
      clear HSZ E0 S3
      go_upto_region 4 with fail
      refine wp_act fun a0 ha0 => ?_
      have HSZ : a0.tmps.size = 78 := by rw [ha0]; rfl
      have E0 : a0.eval (.tmp 0) = .pointer (some ⟨p, 0, none⟩) := by rw [ha0]; rfl
      refine wp_region_J (by kernel_rfl) 11 (by kernel_rfl) [[], [0], [1], [2], [], [4], [5], [6], [], [3, 7, 0, 1, 2, 3, 4, 5, 6, 7, 8], [9, 8, 0, 1, 2, 3, 4, 5, 6, 7, 8]] (by kernel_rfl) (by kernel_rfl) (fun f a' W => a' = acts [(0, 35, .pointer (some ⟨p, 0, none⟩)), (1, 36, .pointer (some ⟨p, 0, none⟩)), (2, 37, .pointer (some ⟨p, 0, none⟩)), (3, 38, .slice (some ⟨g, 0, none⟩) N cap), (4, 39, .pointer (some ⟨p, 0, none⟩)), (5, 40, .pointer (some ⟨p, 0, none⟩)), (6, 41, .pointer (some ⟨p, 1, none⟩)), (7, 42, .int .i64 z), (8, 43, .agg #[.string { data := #[] }, .string { data := #[] }]), (9, 44, .pointer (some ⟨g, z * 2, none⟩))] f a0 ∧ Sat G W (blk p #[.slice (some ⟨g, 0, none⟩) N cap, .int .i64 z, .int .i64 s2, .int .i64 lim] 60 :: blk g (cond (f 10) (setMid cur (z * 2) [.string { data := #[] }, .string { data := #[] }]) cur) 23 :: l)) ?_ ?_ ?_
      · exact ⟨rfl, S5.drew⟩
      · refine ⟨?_, ?_, ?_, ?_, ?_, ?_, ?_, ?_, ?_, ?_, ?_, trivial⟩
        · rintro f a' W h0 hd ⟨rfl, S⟩
          refine wpOp_run (v := .pointer (some ⟨p, 0, none⟩)) rfl rfl (fun ρ hρ => ?_) ⟨(acts_some 0 rfl (by kernel_rfl) (by kernel_rfl)).symm, S⟩
          have e0 : ρ (.tmp 0) = .pointer (some ⟨p, 0, none⟩) := by rw [hρ]; exact (acts_eval_tmp 0 (by kernel_rfl)).trans E0
          clear hρ
          go_simp
        · rintro f a' W h1 hd ⟨rfl, S⟩
          refine wpOp_run (v := .pointer (some ⟨p, 0, none⟩)) rfl rfl (fun ρ hρ => ?_) ⟨(acts_some 1 rfl (by kernel_rfl) (by kernel_rfl)).symm, S⟩
          have e0 : ρ (.tmp 35) = .pointer (some ⟨p, 0, none⟩) := by rw [hρ]; exact acts_eval_hit 0 rfl hd.1 (by rw [HSZ]; rfl) (by kernel_rfl)
          clear hρ
          go_simp
        · rintro f a' W h2 hd ⟨rfl, S⟩
          refine wpOp_run (v := .pointer (some ⟨p, 0, none⟩)) rfl rfl (fun ρ hρ => ?_) ⟨(acts_some 2 rfl (by kernel_rfl) (by kernel_rfl)).symm, S⟩
          have e0 : ρ (.tmp 36) = .pointer (some ⟨p, 0, none⟩) := by rw [hρ]; exact acts_eval_hit 1 rfl hd.1 (by rw [HSZ]; rfl) (by kernel_rfl)
          clear hρ
          go_simp
        · rintro f a' W h3 hd ⟨rfl, S⟩
          refine wpOp_run (v := .slice (some ⟨g, 0, none⟩) N cap) rfl rfl (fun ρ hρ => ?_) ⟨(acts_some 3 rfl (by kernel_rfl) (by kernel_rfl)).symm, S⟩
          have e0 : ρ (.tmp 37) = .pointer (some ⟨p, 0, none⟩) := by rw [hρ]; exact acts_eval_hit 2 rfl hd.1 (by rw [HSZ]; rfl) (by kernel_rfl)
          clear hρ
          (have hcl : W.cell? ⟨p, 0, none⟩ = some (.slice (some ⟨g, 0, none⟩) N cap) := S.cell 0)
          go_simp
        · rintro f a' W h4 hd ⟨rfl, S⟩
          refine wpOp_run (v := .pointer (some ⟨p, 0, none⟩)) rfl rfl (fun ρ hρ => ?_) ⟨(acts_some 4 rfl (by kernel_rfl) (by kernel_rfl)).symm, S⟩
          have e0 : ρ (.tmp 0) = .pointer (some ⟨p, 0, none⟩) := by rw [hρ]; exact (acts_eval_tmp 0 (by kernel_rfl)).trans E0
          clear hρ
          go_simp
        · rintro f a' W h5 hd ⟨rfl, S⟩
          refine wpOp_run (v := .pointer (some ⟨p, 0, none⟩)) rfl rfl (fun ρ hρ => ?_) ⟨(acts_some 5 rfl (by kernel_rfl) (by kernel_rfl)).symm, S⟩
          have e0 : ρ (.tmp 39) = .pointer (some ⟨p, 0, none⟩) := by rw [hρ]; exact acts_eval_hit 4 rfl hd.1 (by rw [HSZ]; rfl) (by kernel_rfl)
          clear hρ
          go_simp
        · rintro f a' W h6 hd ⟨rfl, S⟩
          refine wpOp_run (v := .pointer (some ⟨p, 1, none⟩)) rfl rfl (fun ρ hρ => ?_) ⟨(acts_some 6 rfl (by kernel_rfl) (by kernel_rfl)).symm, S⟩
          have e0 : ρ (.tmp 40) = .pointer (some ⟨p, 0, none⟩) := by rw [hρ]; exact acts_eval_hit 5 rfl hd.1 (by rw [HSZ]; rfl) (by kernel_rfl)
          clear hρ
          go_simp
        · rintro f a' W h7 hd ⟨rfl, S⟩
          refine wpOp_run (v := .int .i64 z) rfl rfl (fun ρ hρ => ?_) ⟨(acts_some 7 rfl (by kernel_rfl) (by kernel_rfl)).symm, S⟩
          have e0 : ρ (.tmp 41) = .pointer (some ⟨p, 1, none⟩) := by rw [hρ]; exact acts_eval_hit 6 rfl hd.1 (by rw [HSZ]; rfl) (by kernel_rfl)
          clear hρ
          (have hcl : W.cell? ⟨p, 1, none⟩ = some (.int .i64 z) := S.cell 1)
          go_simp
        · rintro f a' W h8 hd ⟨rfl, S⟩
          refine wpOp_run (v := .agg #[.string { data := #[] }, .string { data := #[] }]) rfl rfl (fun ρ hρ => ?_) ⟨(acts_some 8 rfl (by kernel_rfl) (by kernel_rfl)).symm, S⟩
          clear hρ
          go_simp
        · rintro f a' W h9 hd ⟨rfl, S⟩
          refine wpOp_run (v := .pointer (some ⟨g, z * 2, none⟩)) rfl rfl (fun ρ hρ => ?_) ⟨(acts_some 9 rfl (by kernel_rfl) (by kernel_rfl)).symm, S⟩
          have e0 : ρ (.tmp 38) = .slice (some ⟨g, 0, none⟩) N cap := by rw [hρ]; exact acts_eval_hit 3 rfl hd.1 (by rw [HSZ]; rfl) (by kernel_rfl)
          have e1 : ρ (.tmp 42) = .int .i64 z := by rw [hρ]; exact acts_eval_hit 7 rfl hd.2.1 (by rw [HSZ]; rfl) (by kernel_rfl)
          clear hρ
          (have hh1 := HLT.out.1; have hh2 := HLT.out.2)
          go_simp
        · rintro f a' W h10 hd ⟨rfl, S⟩
          have q44 : (acts [(0, 35, .pointer (some ⟨p, 0, none⟩)), (1, 36, .pointer (some ⟨p, 0, none⟩)), (2, 37, .pointer (some ⟨p, 0, none⟩)), (3, 38, .slice (some ⟨g, 0, none⟩) N cap), (4, 39, .pointer (some ⟨p, 0, none⟩)), (5, 40, .pointer (some ⟨p, 0, none⟩)), (6, 41, .pointer (some ⟨p, 1, none⟩)), (7, 42, .int .i64 z), (8, 43, .agg #[.string { data := #[] }, .string { data := #[] }]), (9, 44, .pointer (some ⟨g, z * 2, none⟩))] f a0).eval (.tmp 44) = .pointer (some ⟨g, z * 2, none⟩) := acts_eval_hit 9 rfl hd.1 (by rw [HSZ]; rfl) (by kernel_rfl)
          have q43 : (acts [(0, 35, .pointer (some ⟨p, 0, none⟩)), (1, 36, .pointer (some ⟨p, 0, none⟩)), (2, 37, .pointer (some ⟨p, 0, none⟩)), (3, 38, .slice (some ⟨g, 0, none⟩) N cap), (4, 39, .pointer (some ⟨p, 0, none⟩)), (5, 40, .pointer (some ⟨p, 0, none⟩)), (6, 41, .pointer (some ⟨p, 1, none⟩)), (7, 42, .int .i64 z), (8, 43, .agg #[.string { data := #[] }, .string { data := #[] }]), (9, 44, .pointer (some ⟨g, z * 2, none⟩))] f a0).eval (.tmp 43) = .agg #[.string { data := #[] }, .string { data := #[] }] := acts_eval_hit 8 rfl hd.2.1 (by rw [HSZ]; rfl) (by kernel_rfl)
          (rw [h10] at S; simp only [cond_false] at S; refine wpOp_list rfl ?_; refine st_mid rfl 23 _ _ rfl g (z * 2) (.agg #[.string { data := #[] }, .string { data := #[] }]) #[.string { data := #[] }, .string { data := #[] }] q44 q43 rfl _ _ S.swap (by kernel_rfl) HRM.out (by simp [Value.oneCell']) fun W' S' => ?_; exact ⟨(acts_none 10 (by kernel_rfl)).symm, S'.swap⟩)
      rintro a' W ⟨rfl, S6⟩
      subst ha0
      simp only [acts, if_true, Act.put, List.setIfInBounds_toArray, List.set_cons_succ, List.set_cons_zero]
      simp only [cond_true] at S6
      clear HSZ E0 S5
      have c1 := S6.cell 1
      have f1 := S6.frozen 1
      have S7 := S6.setCell 1 (.int .i64 ((z + 1 : Nat) : Int))
      have HS := Lib.hid (HC.out S7)
      have hwz := HWZ.out
      have hwk : IntKind.i64.wrap ((k : Int) + 1) = ((k + 1 : Nat) : Int) := by rw [IntWalk.i64_in _ (by omega)]; omega
      clear S6 S7 HLS HNL HCL HX0 HX1 HRM HYR HRR HS1 HS2 HSX hfs HZ0
      go_wp2_with fail
      go_roundw
      case rel => exact ⟨k + 1, by omega, by go_num, HS.out⟩
      case measure => simp [intOf]; omega
    · obtain rfl : k = K0 := by omega
      have hFl : (F.drop k).length + k = F.length := by rw [List.length_drop]; omega
      have hFs : fsz (F.drop k) ≤ 65536 := by
        have : fsz F = fsz (F.take k) + fsz (F.drop k) := by rw [← fsz_append, List.take_append_drop]
        omega
      have hem : k = F.length → F.drop k = [] := fun e => by rw [e]; simp
      have HE := Lib.hid HEND.out
      obtain ⟨X, hX⟩ : ∃ X, X = F.drop k := ⟨_, rfl⟩
      obtain ⟨Y, hY⟩ : ∃ Y, Y = Z ++ List.replicate k (([], []) : Fd) := ⟨_, rfl⟩
      have hyl : Y.length = Z.length + k := by rw [hY]; simp
      rw [← hX] at hFl hFs hem HE S
      rw [← hY] at S
      have HYL : Hid (Y.length ≤ 8000) := Lib.hid (by omega)
      have HXL : Hid (X.length ≤ 4000) := Lib.hid (by omega)
      have hend : ((fsz X : Int) ≤ most) ∨ X = [] := by rcases HE.out with h | h; exact .inr (hem h); exact .inl h
      have HXK := Lib.hid hX
      clear hX hY hyl hFl hFs hem HE HGO HEND hk hlt hkl hf hfl hz
      have hln := tb_len S (Nat.le_trans HYL.out (by omega)) (Nat.le_trans HXL.out (by omega))
      obtain ⟨v, T⟩ := tb_iff.1 S
      have c2 := T.cell 2
      obtain ⟨s, hs⟩ : ∃ s, s = fsz X := ⟨_, rfl⟩
      rw [← hs] at c2 hend
      have HSS := Lib.hid hs
      have HXZ : Hid (X = [] → X.length = 0) := Lib.hid (fun e => by rw [e]; rfl)
      generalize hxl : X.length = xl at *
      generalize hyl : Y.length = yl at *
      have HX := Lib.hid hxl
      have HY := Lib.hid hyl
      clear T hs hxl hyl
      obtain ⟨b, hb⟩ : ∃ b, b = decide (xl < yl) := ⟨_, rfl⟩
      have HB := Lib.hid hb
      clear hb
      by_cases hc : (s : Int) ≤ most
      · have z1 : ¬ (most < (s : Int)) := by omega
        clear hc hend
        go_upto_region 7 with fail
        refine wp_world S fun w2 S2 => ?_
        clear S hln c2 z1
        refine wp_act fun a0 ha0 => ?_
        have HSZ : a0.tmps.size = 78 := by rw [ha0]; rfl
        have E0 : a0.eval (.tmp 0) = .pointer (some ⟨p, 0, none⟩) := by rw [ha0]; rfl
        refine wp_region_J (by kernel_rfl) 7 (by kernel_rfl) [[], [0], [1], [2], [], [4], [3, 5]] (by kernel_rfl) (by kernel_rfl) (fun f a' W => a' = acts [(0, 54, .pointer (some ⟨p, 0, none⟩)), (1, 55, .pointer (some ⟨p, 0, none⟩)), (2, 56, .pointer (some ⟨p, 1, none⟩)), (3, 57, .int .i64 yl), (4, 58, .pointer (some ⟨p, 0, none⟩)), (5, 59, .int .i64 xl), (6, 60, .bool b)] f a0 ∧ Sat G W (tbA p Y X lim :: l)) ?_ ?_ ?_
        · exact ⟨rfl, S2.drew⟩
        · refine ⟨?_, ?_, ?_, ?_, ?_, ?_, ?_, trivial⟩
          · rintro f a' W h0 hd ⟨rfl, S⟩
            refine wpOp_run (v := .pointer (some ⟨p, 0, none⟩)) rfl rfl (fun ρ hρ => ?_) ⟨(acts_some 0 rfl (by kernel_rfl) (by kernel_rfl)).symm, S⟩
            have e0 : ρ (.tmp 0) = .pointer (some ⟨p, 0, none⟩) := by rw [hρ]; exact (acts_eval_tmp 0 (by kernel_rfl)).trans E0
            clear hρ
            go_simp
          · rintro f a' W h1 hd ⟨rfl, S⟩
            refine wpOp_run (v := .pointer (some ⟨p, 0, none⟩)) rfl rfl (fun ρ hρ => ?_) ⟨(acts_some 1 rfl (by kernel_rfl) (by kernel_rfl)).symm, S⟩
            have e0 : ρ (.tmp 54) = .pointer (some ⟨p, 0, none⟩) := by rw [hρ]; exact acts_eval_hit 0 rfl hd.1 (by rw [HSZ]; rfl) (by kernel_rfl)
            clear hρ
            go_simp
          · rintro f a' W h2 hd ⟨rfl, S⟩
            refine wpOp_run (v := .pointer (some ⟨p, 1, none⟩)) rfl rfl (fun ρ hρ => ?_) ⟨(acts_some 2 rfl (by kernel_rfl) (by kernel_rfl)).symm, S⟩
            have e0 : ρ (.tmp 55) = .pointer (some ⟨p, 0, none⟩) := by rw [hρ]; exact acts_eval_hit 1 rfl hd.1 (by rw [HSZ]; rfl) (by kernel_rfl)
            clear hρ
            go_simp
          · rintro f a' W h3 hd ⟨rfl, S⟩
            refine wpOp_run (v := .int .i64 yl) rfl rfl (fun ρ hρ => ?_) ⟨(acts_some 3 rfl (by kernel_rfl) (by kernel_rfl)).symm, S⟩
            have e0 : ρ (.tmp 56) = .pointer (some ⟨p, 1, none⟩) := by rw [hρ]; exact acts_eval_hit 2 rfl hd.1 (by rw [HSZ]; rfl) (by kernel_rfl)
            clear hρ
            (obtain ⟨v9, T9⟩ := tb_iff.1 S; have hcl : W.cell? ⟨p, 1, none⟩ = some (.int .i64 yl) := (by rw [← HY.out]; exact T9.cell 1))
            go_simp
          · rintro f a' W h4 hd ⟨rfl, S⟩
            refine wpOp_run (v := .pointer (some ⟨p, 0, none⟩)) rfl rfl (fun ρ hρ => ?_) ⟨(acts_some 4 rfl (by kernel_rfl) (by kernel_rfl)).symm, S⟩
            have e0 : ρ (.tmp 0) = .pointer (some ⟨p, 0, none⟩) := by rw [hρ]; exact (acts_eval_tmp 0 (by kernel_rfl)).trans E0
            clear hρ
            go_simp
          · rintro f a' W h5 hd ⟨rfl, S⟩
            refine wpOp_call rfl rfl (fun ρ hρ => ?_) (tb_len S (by rw [HY.out]; exact Nat.le_trans HYL.out (by omega)) (by rw [HX.out]; exact Nat.le_trans HXL.out (by omega))) ?_
            · skip
              have e0 : ρ (.tmp 58) = .pointer (some ⟨p, 0, none⟩) := by rw [hρ]; exact acts_eval_hit 4 rfl hd.1 (by rw [HSZ]; rfl) (by kernel_rfl)
              have ef : ρ (.func 10) = .func (.func 10) #[] #[] := by rw [hρ]; rfl
              clear hρ
              go_simp
            · (rintro e W' ⟨rfl, S'⟩; rw [HX.out]; exact ⟨_, rfl, (acts_some 5 rfl (by kernel_rfl) (by kernel_rfl)).symm, S'⟩)
          · rintro f a' W h6 hd ⟨rfl, S⟩
            refine wpOp_run (v := .bool b) rfl rfl (fun ρ hρ => ?_) ⟨(acts_some 6 rfl (by kernel_rfl) (by kernel_rfl)).symm, S⟩
            have e0 : ρ (.tmp 57) = .int .i64 yl := by rw [hρ]; exact acts_eval_hit 3 rfl hd.1 (by rw [HSZ]; rfl) (by kernel_rfl)
            have e1 : ρ (.tmp 59) = .int .i64 xl := by rw [hρ]; exact acts_eval_hit 5 rfl hd.2.1 (by rw [HSZ]; rfl) (by kernel_rfl)
            clear hρ
            (have hh := HB.out)
            go_simp
            (first | done | (rw [hh]) | (rw [hh]; simp))
        rintro a' W ⟨rfl, S3⟩
        subst ha0
        simp only [acts, if_true, Act.put, List.setIfInBounds_toArray, List.set_cons_succ, List.set_cons_zero]
        clear HSZ E0 S2
        cases b with
        | false =>
          have hle : Y.length ≤ X.length := by
            have := of_decide_eq_false HB.out.symm
            rw [HX.out, HY.out]; omega
          have HS : Hid (∃ Z', Z'.length ≤ (F.drop k).length ∧ Sat G W (tbA p Z' (F.drop k) lim :: l)) := Lib.hid (by rw [← HXK.out]; exact ⟨Y, hle, S3⟩)
          clear S3 hle
          go_wp2_with fail
          exact hK.out _ _ ⟨rfl, HS.out⟩
        | true =>
          have hlt0 := of_decide_eq_true HB.out.symm
          go_upto_region 8 with fail
          refine wp_world S3 fun w3 S4 => ?_
          clear S3
          obtain ⟨v, S4⟩ := tb_iff.1 S4
          rw [HY.out, ← HSS.out] at S4
          have HYL2 := HYL.out
          have HXL2 := HXL.out
          obtain ⟨g, cap, cur, rfl, hcap, Li, S5⟩ := Sat.layOpen (S4.re [1, 0]) fd_len (by rw [List.length_append, HX.out, HY.out]; omega)
          obtain ⟨N, hN⟩ : ∃ N, N = (Y ++ X).length := ⟨_, rfl⟩
          have hN2 : N = yl + xl := by rw [hN, List.length_append, HX.out, HY.out]
          rw [← hN] at S5
          have hlc := Li.len
          rw [← hN] at hlc
          have hc3 : cap ≤ 9223372036854775807 := hcap
          have hm : xl = N - yl := by omega
          have HHC : Hid (∀ j u, (encs fenc X)[j]? = some u → cur[yl * 2 + j]? = some u) := Lib.hid fun j u hj => by
            have hjl := (List.getElem?_eq_some_iff.1 hj).1
            rw [encs_length fd_len, HX.out] at hjl
            have e1 := Li.at_
            have e2 : (encs fenc (Y ++ X))[yl * 2 + j]? = some u := by
              rw [encs_append, List.getElem?_append_right (by rw [encs_length fd_len, HY.out]; omega), encs_length fd_len, HY.out, show yl * 2 + j - yl * 2 = j by omega]
              exact hj
            rw [← e1, List.getElem?_take] at e2
            split at e2
            · simpa using e2
            · cases e2
          obtain ⟨oo, hoo⟩ : ∃ oo, (cap - yl = 0 ∧ oo = 0) ∨ (¬ (cap - yl = 0) ∧ oo = yl * 2) := by
            by_cases h : cap - yl = 0
            · exact ⟨_, .inl ⟨h, rfl⟩⟩
            · exact ⟨_, .inr ⟨h, rfl⟩⟩
          have HO := Lib.hid hoo
          have HHD : Hid (∀ j u, (encs fenc X)[j]? = some u → cur[oo + j]? = some u) := Lib.hid fun j u hj => by
            rcases HO.out with ⟨h1, h2⟩ | ⟨h1, h2⟩
            · have hjl := (List.getElem?_eq_some_iff.1 hj).1
              rw [encs_length fd_len, HX.out] at hjl
              omega
            · rw [h2]; exact HHC.out j u hj
          have HLE := Lib.hid (And.intro (show yl ≤ N by omega) (And.intro (show (yl : Int) ≤ (N : Int) by omega) (And.intro (show N ≤ cap by omega) (show (N : Int) ≤ (cap : Int) by omega))))
          have HM := Lib.hid hm
          have HS0 := HB
          clear hoo hm hN2 hN Li S4 hlt0 HHC
          refine wp_act fun a0 ha0 => ?_
          have HSZ : a0.tmps.size = 78 := by rw [ha0]; rfl
          have E0 : a0.eval (.tmp 0) = .pointer (some ⟨p, 0, none⟩) := by rw [ha0]; rfl
          refine wp_region_J (by kernel_rfl) 14 (by kernel_rfl) [[], [], [1], [2], [3], [], [5], [6], [7], [4, 8], [9], [0, 0, 1, 2, 3, 4, 5, 6, 7, 8, 9, 10], [11, 0, 1, 2, 3, 4, 5, 6, 7, 8, 9, 10], [12, 10, 10, 0, 1, 2, 3, 4, 5, 6, 7, 8, 9, 10]] (by kernel_rfl) (by kernel_rfl) (fun f a' W => ∃ A c', HSb f ∧ a' = acts [(0, 61, .pointer (some ⟨p, 0, none⟩)), (1, 62, .pointer (some ⟨p, 0, none⟩)), (2, 63, .pointer (some ⟨p, 0, none⟩)), (3, 64, .pointer (some ⟨p, 0, none⟩)), (4, 65, .slice (some ⟨g, 0, none⟩) N cap), (5, 66, .pointer (some ⟨p, 0, none⟩)), (6, 67, .pointer (some ⟨p, 0, none⟩)), (7, 68, .pointer (some ⟨p, 1, none⟩)), (8, 69, .int .i64 yl), (9, 70, .slice (some ⟨g, oo, none⟩) xl (cap - yl)), (10, 71, .slice A xl c'), (11, 72, .pointer (some ⟨p, 0, none⟩)), (12, 73, .pointer (some ⟨p, 0, none⟩))] f a0 ∧ Sat G W (opt (f 10) (ownS 23 2 (.slice A xl c') xl (encs fenc X)) :: blk p #[cond (f 13) (.slice A xl c') (.slice (some ⟨g, 0, none⟩) N cap), .int .i64 yl, .int .i64 s, .int .i64 lim] 60 :: blk g cur 23 :: l)) ?_ ?_ ?_
          · exact ⟨none, 0, (by unfold HSb; decide), rfl, (Sat.re S5 [1, 0]).drew.opt0⟩
          · refine ⟨?_, ?_, ?_, ?_, ?_, ?_, ?_, ?_, ?_, ?_, ?_, ?_, ?_, ?_, trivial⟩
            · rintro f a' W h0 hd ⟨A, c', hh, rfl, S⟩
              refine wpOp_run (v := .pointer (some ⟨p, 0, none⟩)) rfl rfl (fun ρ hρ => ?_) ⟨A, c', hh, (acts_some 0 rfl (by kernel_rfl) (by kernel_rfl)).symm, S⟩
              have e0 : ρ (.tmp 0) = .pointer (some ⟨p, 0, none⟩) := by rw [hρ]; exact (acts_eval_tmp 0 (by kernel_rfl)).trans E0
              clear hρ
              go_simp
            · rintro f a' W h1 hd ⟨A, c', hh, rfl, S⟩
              refine wpOp_run (v := .pointer (some ⟨p, 0, none⟩)) rfl rfl (fun ρ hρ => ?_) ⟨A, c', hh, (acts_some 1 rfl (by kernel_rfl) (by kernel_rfl)).symm, S⟩
              have e0 : ρ (.tmp 0) = .pointer (some ⟨p, 0, none⟩) := by rw [hρ]; exact (acts_eval_tmp 0 (by kernel_rfl)).trans E0
              clear hρ
              go_simp
            · rintro f a' W h2 hd ⟨A, c', hh, rfl, S⟩
              refine wpOp_run (v := .pointer (some ⟨p, 0, none⟩)) rfl rfl (fun ρ hρ => ?_) ⟨A, c', hh, (acts_some 2 rfl (by kernel_rfl) (by kernel_rfl)).symm, S⟩
              have e0 : ρ (.tmp 62) = .pointer (some ⟨p, 0, none⟩) := by rw [hρ]; exact acts_eval_hit 1 rfl hd.1 (by rw [HSZ]; rfl) (by kernel_rfl)
              clear hρ
              go_simp
            · rintro f a' W h3 hd ⟨A, c', hh, rfl, S⟩
              refine wpOp_run (v := .pointer (some ⟨p, 0, none⟩)) rfl rfl (fun ρ hρ => ?_) ⟨A, c', hh, (acts_some 3 rfl (by kernel_rfl) (by kernel_rfl)).symm, S⟩
              have e0 : ρ (.tmp 63) = .pointer (some ⟨p, 0, none⟩) := by rw [hρ]; exact acts_eval_hit 2 rfl hd.1 (by rw [HSZ]; rfl) (by kernel_rfl)
              clear hρ
              go_simp
            · rintro f a' W h4 hd ⟨A, c', hh, rfl, S⟩
              (have z10 := no_of hh.2.1 (no_of hh.2.2 h4); have z13 := no_of hh.1 z10)
              refine wpOp_run (v := .slice (some ⟨g, 0, none⟩) N cap) rfl rfl (fun ρ hρ => ?_) ⟨A, c', ⟨hh.1, hh.2.1, fun _ => rfl⟩, (acts_some 4 rfl (by kernel_rfl) (by kernel_rfl)).symm, S⟩
              have e0 : ρ (.tmp 64) = .pointer (some ⟨p, 0, none⟩) := by rw [hρ]; exact acts_eval_hit 3 rfl hd.1 (by rw [HSZ]; rfl) (by kernel_rfl)
              clear hρ
              (have hcl : W.cell? ⟨p, 0, none⟩ = some (.slice (some ⟨g, 0, none⟩) N cap) := (by have := S.swap.cell 0; rw [z13] at this; exact this))
              go_simp
            · rintro f a' W h5 hd ⟨A, c', hh, rfl, S⟩
              refine wpOp_run (v := .pointer (some ⟨p, 0, none⟩)) rfl rfl (fun ρ hρ => ?_) ⟨A, c', hh, (acts_some 5 rfl (by kernel_rfl) (by kernel_rfl)).symm, S⟩
              have e0 : ρ (.tmp 0) = .pointer (some ⟨p, 0, none⟩) := by rw [hρ]; exact (acts_eval_tmp 0 (by kernel_rfl)).trans E0
              clear hρ
              go_simp
            · rintro f a' W h6 hd ⟨A, c', hh, rfl, S⟩
              refine wpOp_run (v := .pointer (some ⟨p, 0, none⟩)) rfl rfl (fun ρ hρ => ?_) ⟨A, c', hh, (acts_some 6 rfl (by kernel_rfl) (by kernel_rfl)).symm, S⟩
              have e0 : ρ (.tmp 66) = .pointer (some ⟨p, 0, none⟩) := by rw [hρ]; exact acts_eval_hit 5 rfl hd.1 (by rw [HSZ]; rfl) (by kernel_rfl)
              clear hρ
              go_simp
            · rintro f a' W h7 hd ⟨A, c', hh, rfl, S⟩
              refine wpOp_run (v := .pointer (some ⟨p, 1, none⟩)) rfl rfl (fun ρ hρ => ?_) ⟨A, c', hh, (acts_some 7 rfl (by kernel_rfl) (by kernel_rfl)).symm, S⟩
              have e0 : ρ (.tmp 67) = .pointer (some ⟨p, 0, none⟩) := by rw [hρ]; exact acts_eval_hit 6 rfl hd.1 (by rw [HSZ]; rfl) (by kernel_rfl)
              clear hρ
              go_simp
            · rintro f a' W h8 hd ⟨A, c', hh, rfl, S⟩
              refine wpOp_run (v := .int .i64 yl) rfl rfl (fun ρ hρ => ?_) ⟨A, c', hh, (acts_some 8 rfl (by kernel_rfl) (by kernel_rfl)).symm, S⟩
              have e0 : ρ (.tmp 68) = .pointer (some ⟨p, 1, none⟩) := by rw [hρ]; exact acts_eval_hit 7 rfl hd.1 (by rw [HSZ]; rfl) (by kernel_rfl)
              clear hρ
              (have hcl : W.cell? ⟨p, 1, none⟩ = some (.int .i64 yl) := S.swap.cell 1)
              go_simp
            · rintro f a' W h9 hd ⟨A, c', hh, rfl, S⟩
              refine wpOp_run (v := .slice (some ⟨g, oo, none⟩) xl (cap - yl)) rfl rfl (fun ρ hρ => ?_) ⟨A, c', ⟨hh.1, fun _ => rfl, fun _ => hd.1⟩, (acts_some 9 rfl (by kernel_rfl) (by kernel_rfl)).symm, S⟩
              have e0 : ρ (.tmp 65) = .slice (some ⟨g, 0, none⟩) N cap := by rw [hρ]; exact acts_eval_hit 4 rfl hd.1 (by rw [HSZ]; rfl) (by kernel_rfl)
              have e1 : ρ (.tmp 69) = .int .i64 yl := by rw [hρ]; exact acts_eval_hit 8 rfl hd.2.1 (by rw [HSZ]; rfl) (by kernel_rfl)
              clear hρ
              (have hle1 := HLE.out.1; have hle2 := HLE.out.2.1; have hle3 := HLE.out.2.2.1; have hle4 := HLE.out.2.2.2; rw [HM.out]; rcases HO.out with ⟨b1, rfl⟩ | ⟨b1, rfl⟩; · go_simp; exact fun h ↦ absurd (show cap = yl by omega) h)
              go_simp
              exact fun h ↦ absurd (show cap - yl = 0 by omega) b1
            · rintro f a' W h10 hd ⟨A, c', hh, rfl, S⟩
              refine wpOp_call rfl rfl (fun ρ hρ => ?_) (fd_clone (c := cap - yl) S HX.out (Nat.le_trans HXL2 (by decide)) (fun j u hj ↦ (S.pull2.cell (oo + j)).trans (HHD.out j u hj))) ?_
              · skip
                have e0 : ρ (.tmp 70) = .slice (some ⟨g, oo, none⟩) xl (cap - yl) := by rw [hρ]; exact acts_eval_hit 9 rfl hd.1 (by rw [HSZ]; rfl) (by kernel_rfl)
                have ef : ρ (.func 30) = .func (.func 30) #[] #[] := by rw [hρ]; rfl
                clear hρ
                go_simp
              · (rintro e W' ⟨A2, c2, rfl, S'⟩; have z13 := no_of hh.1 h10; refine ⟨_, rfl, A2, c2, ⟨fun _ => rfl, fun _ => hd.1, hh.2.2⟩, acts_swap (by simp only [acts, h10, Bool.false_eq_true, if_false]) (k := 10) rfl (by kernel_rfl) (by kernel_rfl), ?_⟩; show Sat G W' (opt true _ :: blk p #[cond (f 13) _ _, _, _, _] _ :: _); have T := S'.drop2; rw [z13] at T ⊢; exact opt_iff.2 T)
            · rintro f a' W h11 hd ⟨A, c', hh, rfl, S⟩
              refine wpOp_run (v := .pointer (some ⟨p, 0, none⟩)) rfl rfl (fun ρ hρ => ?_) ⟨A, c', hh, (acts_some 11 rfl (by kernel_rfl) (by kernel_rfl)).symm, S⟩
              have e0 : ρ (.tmp 61) = .pointer (some ⟨p, 0, none⟩) := by rw [hρ]; exact acts_eval_hit 0 rfl hd.1 (by rw [HSZ]; rfl) (by kernel_rfl)
              clear hρ
              go_simp
            · rintro f a' W h12 hd ⟨A, c', hh, rfl, S⟩
              refine wpOp_run (v := .pointer (some ⟨p, 0, none⟩)) rfl rfl (fun ρ hρ => ?_) ⟨A, c', hh, (acts_some 12 rfl (by kernel_rfl) (by kernel_rfl)).symm, S⟩
              have e0 : ρ (.tmp 72) = .pointer (some ⟨p, 0, none⟩) := by rw [hρ]; exact acts_eval_hit 11 rfl hd.1 (by rw [HSZ]; rfl) (by kernel_rfl)
              clear hρ
              go_simp
            · rintro f a' W h13 hd ⟨A, c', hh, rfl, S⟩
              have q73 : (acts [(0, 61, .pointer (some ⟨p, 0, none⟩)), (1, 62, .pointer (some ⟨p, 0, none⟩)), (2, 63, .pointer (some ⟨p, 0, none⟩)), (3, 64, .pointer (some ⟨p, 0, none⟩)), (4, 65, .slice (some ⟨g, 0, none⟩) N cap), (5, 66, .pointer (some ⟨p, 0, none⟩)), (6, 67, .pointer (some ⟨p, 0, none⟩)), (7, 68, .pointer (some ⟨p, 1, none⟩)), (8, 69, .int .i64 yl), (9, 70, .slice (some ⟨g, oo, none⟩) xl (cap - yl)), (10, 71, .slice A xl c'), (11, 72, .pointer (some ⟨p, 0, none⟩)), (12, 73, .pointer (some ⟨p, 0, none⟩))] f a0).eval (.tmp 73) = .pointer (some ⟨p, 0, none⟩) := acts_eval_hit 12 rfl hd.1 (by rw [HSZ]; rfl) (by kernel_rfl)
              have q71 : (acts [(0, 61, .pointer (some ⟨p, 0, none⟩)), (1, 62, .pointer (some ⟨p, 0, none⟩)), (2, 63, .pointer (some ⟨p, 0, none⟩)), (3, 64, .pointer (some ⟨p, 0, none⟩)), (4, 65, .slice (some ⟨g, 0, none⟩) N cap), (5, 66, .pointer (some ⟨p, 0, none⟩)), (6, 67, .pointer (some ⟨p, 0, none⟩)), (7, 68, .pointer (some ⟨p, 1, none⟩)), (8, 69, .int .i64 yl), (9, 70, .slice (some ⟨g, oo, none⟩) xl (cap - yl)), (10, 71, .slice A xl c'), (11, 72, .pointer (some ⟨p, 0, none⟩)), (12, 73, .pointer (some ⟨p, 0, none⟩))] f a0).eval (.tmp 71) = .slice A xl c' := acts_eval_hit 10 rfl hd.2.1 (by rw [HSZ]; rfl) (by kernel_rfl)
              (rw [h13] at S; refine wpOp_list rfl ?_; refine st_set rfl _ _ _ rfl _ _ _ q73 q71 rfl _ _ S.swap (by kernel_rfl) (by simp) fun W' S' => ?_; refine ⟨A, c', ⟨fun _ => hd.2.1, hh.2.1, hh.2.2⟩, (acts_none 13 (by kernel_rfl)).symm, ?_⟩; show Sat G W' (opt (f 10) _ :: _); exact S'.swap)
          rintro a' W ⟨A, c', -, rfl, S6⟩
          subst ha0
          simp only [acts, if_true, Act.put, List.setIfInBounds_toArray, List.set_cons_succ, List.set_cons_zero]
          simp only [cond_true] at S6
          clear HSZ E0 S5
          have S7 := opt_iff.1 S6
          have c1 := S7.swap.cell 1
          have f1 := S7.swap.frozen 1
          have S8 := (S7.re [1, 0, 2]).setCell 1 (.int .i64 0)
          have HS := Lib.hid (show ∃ Z', Z'.length ≤ (F.drop k).length ∧ Sat G _ (tbA p Z' (F.drop k) lim :: l) from by
            rw [← HXK.out]
            refine ⟨[], Nat.zero_le _, tb_iff.2 ⟨.slice A xl c', ?_⟩⟩
            rw [List.nil_append, HX.out, ← HSS.out]
            exact (Sat.re S8 [2, 0, 1]).drop)
          clear S6 S7 S8
          go_wp2_with fail
          exact hK.out _ _ ⟨rfl, HS.out⟩
      · have z1 : most < (s : Int) := by omega
        have z3 : X = [] := by rcases hend with h | h; exact absurd h hc; exact h
        have hxl : xl = 0 := HXZ.out z3
        clear hc hend z3
        go_wp2_with fail
        (with_reducible refine hln.mono ?_)
        clear hln c2
        rintro e w1 ⟨rfl, S1⟩
        go_upto_region 7 with fail
        refine wp_world S1 fun w2 S2 => ?_
        clear S S1 z1 hxl
        refine wp_act fun a0 ha0 => ?_
        have HSZ : a0.tmps.size = 78 := by rw [ha0]; rfl
        have E0 : a0.eval (.tmp 0) = .pointer (some ⟨p, 0, none⟩) := by rw [ha0]; rfl
        refine wp_region_J (by kernel_rfl) 7 (by kernel_rfl) [[], [0], [1], [2], [], [4], [3, 5]] (by kernel_rfl) (by kernel_rfl) (fun f a' W => a' = acts [(0, 54, .pointer (some ⟨p, 0, none⟩)), (1, 55, .pointer (some ⟨p, 0, none⟩)), (2, 56, .pointer (some ⟨p, 1, none⟩)), (3, 57, .int .i64 yl), (4, 58, .pointer (some ⟨p, 0, none⟩)), (5, 59, .int .i64 xl), (6, 60, .bool b)] f a0 ∧ Sat G W (tbA p Y X lim :: l)) ?_ ?_ ?_
        · exact ⟨rfl, S2.drew⟩
        · refine ⟨?_, ?_, ?_, ?_, ?_, ?_, ?_, trivial⟩
          · rintro f a' W h0 hd ⟨rfl, S⟩
            refine wpOp_run (v := .pointer (some ⟨p, 0, none⟩)) rfl rfl (fun ρ hρ => ?_) ⟨(acts_some 0 rfl (by kernel_rfl) (by kernel_rfl)).symm, S⟩
            have e0 : ρ (.tmp 0) = .pointer (some ⟨p, 0, none⟩) := by rw [hρ]; exact (acts_eval_tmp 0 (by kernel_rfl)).trans E0
            clear hρ
            go_simp
          · rintro f a' W h1 hd ⟨rfl, S⟩
            refine wpOp_run (v := .pointer (some ⟨p, 0, none⟩)) rfl rfl (fun ρ hρ => ?_) ⟨(acts_some 1 rfl (by kernel_rfl) (by kernel_rfl)).symm, S⟩
            have e0 : ρ (.tmp 54) = .pointer (some ⟨p, 0, none⟩) := by rw [hρ]; exact acts_eval_hit 0 rfl hd.1 (by rw [HSZ]; rfl) (by kernel_rfl)
            clear hρ
            go_simp
          · rintro f a' W h2 hd ⟨rfl, S⟩
            refine wpOp_run (v := .pointer (some ⟨p, 1, none⟩)) rfl rfl (fun ρ hρ => ?_) ⟨(acts_some 2 rfl (by kernel_rfl) (by kernel_rfl)).symm, S⟩
            have e0 : ρ (.tmp 55) = .pointer (some ⟨p, 0, none⟩) := by rw [hρ]; exact acts_eval_hit 1 rfl hd.1 (by rw [HSZ]; rfl) (by kernel_rfl)
            clear hρ
            go_simp
          · rintro f a' W h3 hd ⟨rfl, S⟩
            refine wpOp_run (v := .int .i64 yl) rfl rfl (fun ρ hρ => ?_) ⟨(acts_some 3 rfl (by kernel_rfl) (by kernel_rfl)).symm, S⟩
            have e0 : ρ (.tmp 56) = .pointer (some ⟨p, 1, none⟩) := by rw [hρ]; exact acts_eval_hit 2 rfl hd.1 (by rw [HSZ]; rfl) (by kernel_rfl)
            clear hρ
            (obtain ⟨v9, T9⟩ := tb_iff.1 S; have hcl : W.cell? ⟨p, 1, none⟩ = some (.int .i64 yl) := (by rw [← HY.out]; exact T9.cell 1))
            go_simp
          · rintro f a' W h4 hd ⟨rfl, S⟩
            refine wpOp_run (v := .pointer (some ⟨p, 0, none⟩)) rfl rfl (fun ρ hρ => ?_) ⟨(acts_some 4 rfl (by kernel_rfl) (by kernel_rfl)).symm, S⟩
            have e0 : ρ (.tmp 0) = .pointer (some ⟨p, 0, none⟩) := by rw [hρ]; exact (acts_eval_tmp 0 (by kernel_rfl)).trans E0
            clear hρ
            go_simp
          · rintro f a' W h5 hd ⟨rfl, S⟩
            refine wpOp_call rfl rfl (fun ρ hρ => ?_) (tb_len S (by rw [HY.out]; exact Nat.le_trans HYL.out (by omega)) (by rw [HX.out]; exact Nat.le_trans HXL.out (by omega))) ?_
            · skip
              have e0 : ρ (.tmp 58) = .pointer (some ⟨p, 0, none⟩) := by rw [hρ]; exact acts_eval_hit 4 rfl hd.1 (by rw [HSZ]; rfl) (by kernel_rfl)
              have ef : ρ (.func 10) = .func (.func 10) #[] #[] := by rw [hρ]; rfl
              clear hρ
              go_simp
            · (rintro e W' ⟨rfl, S'⟩; rw [HX.out]; exact ⟨_, rfl, (acts_some 5 rfl (by kernel_rfl) (by kernel_rfl)).symm, S'⟩)
          · rintro f a' W h6 hd ⟨rfl, S⟩
            refine wpOp_run (v := .bool b) rfl rfl (fun ρ hρ => ?_) ⟨(acts_some 6 rfl (by kernel_rfl) (by kernel_rfl)).symm, S⟩
            have e0 : ρ (.tmp 57) = .int .i64 yl := by rw [hρ]; exact acts_eval_hit 3 rfl hd.1 (by rw [HSZ]; rfl) (by kernel_rfl)
            have e1 : ρ (.tmp 59) = .int .i64 xl := by rw [hρ]; exact acts_eval_hit 5 rfl hd.2.1 (by rw [HSZ]; rfl) (by kernel_rfl)
            clear hρ
            (have hh := HB.out)
            go_simp
            (first | done | (rw [hh]) | (rw [hh]; simp))
        rintro a' W ⟨rfl, S3⟩
        subst ha0
        simp only [acts, if_true, Act.put, List.setIfInBounds_toArray, List.set_cons_succ, List.set_cons_zero]
        clear HSZ E0 S2
        cases b with
        | false =>
          have hle : Y.length ≤ X.length := by
            have := of_decide_eq_false HB.out.symm
            rw [HX.out, HY.out]; omega
          have HS : Hid (∃ Z', Z'.length ≤ (F.drop k).length ∧ Sat G W (tbA p Z' (F.drop k) lim :: l)) := Lib.hid (by rw [← HXK.out]; exact ⟨Y, hle, S3⟩)
          clear S3 hle
          go_wp2_with fail
          exact hK.out _ _ ⟨rfl, HS.out⟩
        | true =>
          have hlt0 := of_decide_eq_true HB.out.symm
          go_upto_region 8 with fail
          refine wp_world S3 fun w3 S4 => ?_
          clear S3
          obtain ⟨v, S4⟩ := tb_iff.1 S4
          rw [HY.out, ← HSS.out] at S4
          have HYL2 := HYL.out
          have HXL2 := HXL.out
          obtain ⟨g, cap, cur, rfl, hcap, Li, S5⟩ := Sat.layOpen (S4.re [1, 0]) fd_len (by rw [List.length_append, HX.out, HY.out]; omega)
          obtain ⟨N, hN⟩ : ∃ N, N = (Y ++ X).length := ⟨_, rfl⟩
          have hN2 : N = yl + xl := by rw [hN, List.length_append, HX.out, HY.out]
          rw [← hN] at S5
          have hlc := Li.len
          rw [← hN] at hlc
          have hc3 : cap ≤ 9223372036854775807 := hcap
          have hm : xl = N - yl := by omega
          have HHC : Hid (∀ j u, (encs fenc X)[j]? = some u → cur[yl * 2 + j]? = some u) := Lib.hid fun j u hj => by
            have hjl := (List.getElem?_eq_some_iff.1 hj).1
            rw [encs_length fd_len, HX.out] at hjl
            have e1 := Li.at_
            have e2 : (encs fenc (Y ++ X))[yl * 2 + j]? = some u := by
              rw [encs_append, List.getElem?_append_right (by rw [encs_length fd_len, HY.out]; omega), encs_length fd_len, HY.out, show yl * 2 + j - yl * 2 = j by omega]
              exact hj
            rw [← e1, List.getElem?_take] at e2
            split at e2
            · simpa using e2
            · cases e2
          obtain ⟨oo, hoo⟩ : ∃ oo, (cap - yl = 0 ∧ oo = 0) ∨ (¬ (cap - yl = 0) ∧ oo = yl * 2) := by
            by_cases h : cap - yl = 0
            · exact ⟨_, .inl ⟨h, rfl⟩⟩
            · exact ⟨_, .inr ⟨h, rfl⟩⟩
          have HO := Lib.hid hoo
          have HHD : Hid (∀ j u, (encs fenc X)[j]? = some u → cur[oo + j]? = some u) := Lib.hid fun j u hj => by
            rcases HO.out with ⟨h1, h2⟩ | ⟨h1, h2⟩
            · have hjl := (List.getElem?_eq_some_iff.1 hj).1
              rw [encs_length fd_len, HX.out] at hjl
              omega
            · rw [h2]; exact HHC.out j u hj
          have HLE := Lib.hid (And.intro (show yl ≤ N by omega) (And.intro (show (yl : Int) ≤ (N : Int) by omega) (And.intro (show N ≤ cap by omega) (show (N : Int) ≤ (cap : Int) by omega))))
          have HM := Lib.hid hm
          have HS0 := HB
          clear hoo hm hN2 hN Li S4 hlt0 HHC
          refine wp_act fun a0 ha0 => ?_
          have HSZ : a0.tmps.size = 78 := by rw [ha0]; rfl
          have E0 : a0.eval (.tmp 0) = .pointer (some ⟨p, 0, none⟩) := by rw [ha0]; rfl
          refine wp_region_J (by kernel_rfl) 14 (by kernel_rfl) [[], [], [1], [2], [3], [], [5], [6], [7], [4, 8], [9], [0, 0, 1, 2, 3, 4, 5, 6, 7, 8, 9, 10], [11, 0, 1, 2, 3, 4, 5, 6, 7, 8, 9, 10], [12, 10, 10, 0, 1, 2, 3, 4, 5, 6, 7, 8, 9, 10]] (by kernel_rfl) (by kernel_rfl) (fun f a' W => ∃ A c', HSb f ∧ a' = acts [(0, 61, .pointer (some ⟨p, 0, none⟩)), (1, 62, .pointer (some ⟨p, 0, none⟩)), (2, 63, .pointer (some ⟨p, 0, none⟩)), (3, 64, .pointer (some ⟨p, 0, none⟩)), (4, 65, .slice (some ⟨g, 0, none⟩) N cap), (5, 66, .pointer (some ⟨p, 0, none⟩)), (6, 67, .pointer (some ⟨p, 0, none⟩)), (7, 68, .pointer (some ⟨p, 1, none⟩)), (8, 69, .int .i64 yl), (9, 70, .slice (some ⟨g, oo, none⟩) xl (cap - yl)), (10, 71, .slice A xl c'), (11, 72, .pointer (some ⟨p, 0, none⟩)), (12, 73, .pointer (some ⟨p, 0, none⟩))] f a0 ∧ Sat G W (opt (f 10) (ownS 23 2 (.slice A xl c') xl (encs fenc X)) :: blk p #[cond (f 13) (.slice A xl c') (.slice (some ⟨g, 0, none⟩) N cap), .int .i64 yl, .int .i64 s, .int .i64 lim] 60 :: blk g cur 23 :: l)) ?_ ?_ ?_
          · exact ⟨none, 0, (by unfold HSb; decide), rfl, (Sat.re S5 [1, 0]).drew.opt0⟩
          · refine ⟨?_, ?_, ?_, ?_, ?_, ?_, ?_, ?_, ?_, ?_, ?_, ?_, ?_, ?_, trivial⟩
            · rintro f a' W h0 hd ⟨A, c', hh, rfl, S⟩
              refine wpOp_run (v := .pointer (some ⟨p, 0, none⟩)) rfl rfl (fun ρ hρ => ?_) ⟨A, c', hh, (acts_some 0 rfl (by kernel_rfl) (by kernel_rfl)).symm, S⟩
              have e0 : ρ (.tmp 0) = .pointer (some ⟨p, 0, none⟩) := by rw [hρ]; exact (acts_eval_tmp 0 (by kernel_rfl)).trans E0
              clear hρ
              go_simp
            · rintro f a' W h1 hd ⟨A, c', hh, rfl, S⟩
              refine wpOp_run (v := .pointer (some ⟨p, 0, none⟩)) rfl rfl (fun ρ hρ => ?_) ⟨A, c', hh, (acts_some 1 rfl (by kernel_rfl) (by kernel_rfl)).symm, S⟩
              have e0 : ρ (.tmp 0) = .pointer (some ⟨p, 0, none⟩) := by rw [hρ]; exact (acts_eval_tmp 0 (by kernel_rfl)).trans E0
              clear hρ
              go_simp
            · rintro f a' W h2 hd ⟨A, c', hh, rfl, S⟩
              refine wpOp_run (v := .pointer (some ⟨p, 0, none⟩)) rfl rfl (fun ρ hρ => ?_) ⟨A, c', hh, (acts_some 2 rfl (by kernel_rfl) (by kernel_rfl)).symm, S⟩
              have e0 : ρ (.tmp 62) = .pointer (some ⟨p, 0, none⟩) := by rw [hρ]; exact acts_eval_hit 1 rfl hd.1 (by rw [HSZ]; rfl) (by kernel_rfl)
              clear hρ
              go_simp
            · rintro f a' W h3 hd ⟨A, c', hh, rfl, S⟩
              refine wpOp_run (v := .pointer (some ⟨p, 0, none⟩)) rfl rfl (fun ρ hρ => ?_) ⟨A, c', hh, (acts_some 3 rfl (by kernel_rfl) (by kernel_rfl)).symm, S⟩
              have e0 : ρ (.tmp 63) = .pointer (some ⟨p, 0, none⟩) := by rw [hρ]; exact acts_eval_hit 2 rfl hd.1 (by rw [HSZ]; rfl) (by kernel_rfl)
              clear hρ
              go_simp
            · rintro f a' W h4 hd ⟨A, c', hh, rfl, S⟩
              (have z10 := no_of hh.2.1 (no_of hh.2.2 h4); have z13 := no_of hh.1 z10)
              refine wpOp_run (v := .slice (some ⟨g, 0, none⟩) N cap) rfl rfl (fun ρ hρ => ?_) ⟨A, c', ⟨hh.1, hh.2.1, fun _ => rfl⟩, (acts_some 4 rfl (by kernel_rfl) (by kernel_rfl)).symm, S⟩
              have e0 : ρ (.tmp 64) = .pointer (some ⟨p, 0, none⟩) := by rw [hρ]; exact acts_eval_hit 3 rfl hd.1 (by rw [HSZ]; rfl) (by kernel_rfl)
              clear hρ
              (have hcl : W.cell? ⟨p, 0, none⟩ = some (.slice (some ⟨g, 0, none⟩) N cap) := (by have := S.swap.cell 0; rw [z13] at this; exact this))
              go_simp
            · rintro f a' W h5 hd ⟨A, c', hh, rfl, S⟩
              refine wpOp_run (v := .pointer (some ⟨p, 0, none⟩)) rfl rfl (fun ρ hρ => ?_) ⟨A, c', hh, (acts_some 5 rfl (by kernel_rfl) (by kernel_rfl)).symm, S⟩
              have e0 : ρ (.tmp 0) = .pointer (some ⟨p, 0, none⟩) := by rw [hρ]; exact (acts_eval_tmp 0 (by kernel_rfl)).trans E0
              clear hρ
              go_simp
            · rintro f a' W h6 hd ⟨A, c', hh, rfl, S⟩
              refine wpOp_run (v := .pointer (some ⟨p, 0, none⟩)) rfl rfl (fun ρ hρ => ?_) ⟨A, c', hh, (acts_some 6 rfl (by kernel_rfl) (by kernel_rfl)).symm, S⟩
              have e0 : ρ (.tmp 66) = .pointer (some ⟨p, 0, none⟩) := by rw [hρ]; exact acts_eval_hit 5 rfl hd.1 (by rw [HSZ]; rfl) (by kernel_rfl)
              clear hρ
              go_simp
            · rintro f a' W h7 hd ⟨A, c', hh, rfl, S⟩
              refine wpOp_run (v := .pointer (some ⟨p, 1, none⟩)) rfl rfl (fun ρ hρ => ?_) ⟨A, c', hh, (acts_some 7 rfl (by kernel_rfl) (by kernel_rfl)).symm, S⟩
              have e0 : ρ (.tmp 67) = .pointer (some ⟨p, 0, none⟩) := by rw [hρ]; exact acts_eval_hit 6 rfl hd.1 (by rw [HSZ]; rfl) (by kernel_rfl)
              clear hρ
              go_simp
            · rintro f a' W h8 hd ⟨A, c', hh, rfl, S⟩
              refine wpOp_run (v := .int .i64 yl) rfl rfl (fun ρ hρ => ?_) ⟨A, c', hh, (acts_some 8 rfl (by kernel_rfl) (by kernel_rfl)).symm, S⟩
              have e0 : ρ (.tmp 68) = .pointer (some ⟨p, 1, none⟩) := by rw [hρ]; exact acts_eval_hit 7 rfl hd.1 (by rw [HSZ]; rfl) (by kernel_rfl)
              clear hρ
              (have hcl : W.cell? ⟨p, 1, none⟩ = some (.int .i64 yl) := S.swap.cell 1)
              go_simp
            · rintro f a' W h9 hd ⟨A, c', hh, rfl, S⟩
              refine wpOp_run (v := .slice (some ⟨g, oo, none⟩) xl (cap - yl)) rfl rfl (fun ρ hρ => ?_) ⟨A, c', ⟨hh.1, fun _ => rfl, fun _ => hd.1⟩, (acts_some 9 rfl (by kernel_rfl) (by kernel_rfl)).symm, S⟩
              have e0 : ρ (.tmp 65) = .slice (some ⟨g, 0, none⟩) N cap := by rw [hρ]; exact acts_eval_hit 4 rfl hd.1 (by rw [HSZ]; rfl) (by kernel_rfl)
              have e1 : ρ (.tmp 69) = .int .i64 yl := by rw [hρ]; exact acts_eval_hit 8 rfl hd.2.1 (by rw [HSZ]; rfl) (by kernel_rfl)
              clear hρ
              (have hle1 := HLE.out.1; have hle2 := HLE.out.2.1; have hle3 := HLE.out.2.2.1; have hle4 := HLE.out.2.2.2; rw [HM.out]; rcases HO.out with ⟨b1, rfl⟩ | ⟨b1, rfl⟩; · go_simp; exact fun h ↦ absurd (show cap = yl by omega) h)
              go_simp
              exact fun h ↦ absurd (show cap - yl = 0 by omega) b1
            · rintro f a' W h10 hd ⟨A, c', hh, rfl, S⟩
              refine wpOp_call rfl rfl (fun ρ hρ => ?_) (fd_clone (c := cap - yl) S HX.out (Nat.le_trans HXL2 (by decide)) (fun j u hj ↦ (S.pull2.cell (oo + j)).trans (HHD.out j u hj))) ?_
              · skip
                have e0 : ρ (.tmp 70) = .slice (some ⟨g, oo, none⟩) xl (cap - yl) := by rw [hρ]; exact acts_eval_hit 9 rfl hd.1 (by rw [HSZ]; rfl) (by kernel_rfl)
                have ef : ρ (.func 30) = .func (.func 30) #[] #[] := by rw [hρ]; rfl
                clear hρ
                go_simp
              · (rintro e W' ⟨A2, c2, rfl, S'⟩; have z13 := no_of hh.1 h10; refine ⟨_, rfl, A2, c2, ⟨fun _ => rfl, fun _ => hd.1, hh.2.2⟩, acts_swap (by simp only [acts, h10, Bool.false_eq_true, if_false]) (k := 10) rfl (by kernel_rfl) (by kernel_rfl), ?_⟩; show Sat G W' (opt true _ :: blk p #[cond (f 13) _ _, _, _, _] _ :: _); have T := S'.drop2; rw [z13] at T ⊢; exact opt_iff.2 T)
            · rintro f a' W h11 hd ⟨A, c', hh, rfl, S⟩
              refine wpOp_run (v := .pointer (some ⟨p, 0, none⟩)) rfl rfl (fun ρ hρ => ?_) ⟨A, c', hh, (acts_some 11 rfl (by kernel_rfl) (by kernel_rfl)).symm, S⟩
              have e0 : ρ (.tmp 61) = .pointer (some ⟨p, 0, none⟩) := by rw [hρ]; exact acts_eval_hit 0 rfl hd.1 (by rw [HSZ]; rfl) (by kernel_rfl)
              clear hρ
              go_simp
            · rintro f a' W h12 hd ⟨A, c', hh, rfl, S⟩
              refine wpOp_run (v := .pointer (some ⟨p, 0, none⟩)) rfl rfl (fun ρ hρ => ?_) ⟨A, c', hh, (acts_some 12 rfl (by kernel_rfl) (by kernel_rfl)).symm, S⟩
              have e0 : ρ (.tmp 72) = .pointer (some ⟨p, 0, none⟩) := by rw [hρ]; exact acts_eval_hit 11 rfl hd.1 (by rw [HSZ]; rfl) (by kernel_rfl)
              clear hρ
              go_simp
            · rintro f a' W h13 hd ⟨A, c', hh, rfl, S⟩
              have q73 : (acts [(0, 61, .pointer (some ⟨p, 0, none⟩)), (1, 62, .pointer (some ⟨p, 0, none⟩)), (2, 63, .pointer (some ⟨p, 0, none⟩)), (3, 64, .pointer (some ⟨p, 0, none⟩)), (4, 65, .slice (some ⟨g, 0, none⟩) N cap), (5, 66, .pointer (some ⟨p, 0, none⟩)), (6, 67, .pointer (some ⟨p, 0, none⟩)), (7, 68, .pointer (some ⟨p, 1, none⟩)), (8, 69, .int .i64 yl), (9, 70, .slice (some ⟨g, oo, none⟩) xl (cap - yl)), (10, 71, .slice A xl c'), (11, 72, .pointer (some ⟨p, 0, none⟩)), (12, 73, .pointer (some ⟨p, 0, none⟩))] f a0).eval (.tmp 73) = .pointer (some ⟨p, 0, none⟩) := acts_eval_hit 12 rfl hd.1 (by rw [HSZ]; rfl) (by kernel_rfl)
              have q71 : (acts [(0, 61, .pointer (some ⟨p, 0, none⟩)), (1, 62, .pointer (some ⟨p, 0, none⟩)), (2, 63, .pointer (some ⟨p, 0, none⟩)), (3, 64, .pointer (some ⟨p, 0, none⟩)), (4, 65, .slice (some ⟨g, 0, none⟩) N cap), (5, 66, .pointer (some ⟨p, 0, none⟩)), (6, 67, .pointer (some ⟨p, 0, none⟩)), (7, 68, .pointer (some ⟨p, 1, none⟩)), (8, 69, .int .i64 yl), (9, 70, .slice (some ⟨g, oo, none⟩) xl (cap - yl)), (10, 71, .slice A xl c'), (11, 72, .pointer (some ⟨p, 0, none⟩)), (12, 73, .pointer (some ⟨p, 0, none⟩))] f a0).eval (.tmp 71) = .slice A xl c' := acts_eval_hit 10 rfl hd.2.1 (by rw [HSZ]; rfl) (by kernel_rfl)
              (rw [h13] at S; refine wpOp_list rfl ?_; refine st_set rfl _ _ _ rfl _ _ _ q73 q71 rfl _ _ S.swap (by kernel_rfl) (by simp) fun W' S' => ?_; refine ⟨A, c', ⟨fun _ => hd.2.1, hh.2.1, hh.2.2⟩, (acts_none 13 (by kernel_rfl)).symm, ?_⟩; show Sat G W' (opt (f 10) _ :: _); exact S'.swap)
          rintro a' W ⟨A, c', -, rfl, S6⟩
          subst ha0
          simp only [acts, if_true, Act.put, List.setIfInBounds_toArray, List.set_cons_succ, List.set_cons_zero]
          simp only [cond_true] at S6
          clear HSZ E0 S5
          have S7 := opt_iff.1 S6
          have c1 := S7.swap.cell 1
          have f1 := S7.swap.frozen 1
          have S8 := (S7.re [1, 0, 2]).setCell 1 (.int .i64 0)
          have HS := Lib.hid (show ∃ Z', Z'.length ≤ (F.drop k).length ∧ Sat G _ (tbA p Z' (F.drop k) lim :: l) from by
            rw [← HXK.out]
            refine ⟨[], Nat.zero_le _, tb_iff.2 ⟨.slice A xl c', ?_⟩⟩
            rw [List.nil_append, HX.out, ← HSS.out]
            exact (Sat.re S8 [2, 0, 1]).drop)
          clear S6 S7 S8
          go_wp2_with fail
          exact hK.out _ _ ⟨rfl, HS.out⟩
end
end Go.Proofs.Ytkjkekhhhbopcaa
