/- The walk over Add. -/
import Derived.Test.YtkjkekhhhbopcaaShl
set_option linter.unusedSimpArgs false
set_option linter.unusedVariables false
namespace Go.Proofs.Ytkjkekhhhbopcaa
open Go.RowKit

def addF (lim : Int) (F : List Fd) (x : Fd) : List Fd := (shrF (lim - fsz1 x) F).1 ++ (if (fsz1 x : Int) ≤ lim then [x] else [])
theorem shrF_all {most : Int} (h : most < 0) : ∀ F : List Fd, shrF most F = ([], F.length)
  | [] => rfl
  | f :: F => by rw [shrF_go (by omega), shrF_all h F]; rfl
def HAa (f : Nat → Bool) : Prop := (f 7 = true → f 6 = true) ∧ (f 7 = true → f 4 = true) ∧ (f 10 = true → f 7 = true)
def HAb (f : Nat → Bool) : Prop := f 9 = true → f 3 = true
section
variable {G : Gnd} {w : World} {l : List Asrt} {p : Nat} {Z F : List Fd} {lim : Int}
set_option maxHeartbeats 8000000 in
set_option maxRecDepth 100000 in
theorem tb_add (H : Sat G w (tbA p Z F lim :: l)) (wf : TWf Z F lim) (x : Fd) (h1 : x.1.length ≤ 1152921504606846976) (h2 : x.2.length ≤ 1152921504606846976) : Calls Try.prog 13 #[.pointer (some ⟨p, 0, none⟩), .agg #[.string (bstr x.1), .string (bstr x.2)]] w fun e w' => e = .returned (.int .i64 ((shrF (lim - fsz1 x) F).2 : Nat)) ∧ ∃ Z', TWf Z' (addF lim F x) lim ∧ Sat G w' (tbA p Z' (addF lim F x) lim :: l) := by
  refine calls_any fun K hK => ?_
  have S0 := H.newBlk #[.string (bstr x.1), .string (bstr x.2)] 23
  have hl0 := wf.l0
  have hl1 := wf.l1
  have hsz := wf.sz
  have hzl := wf.z
  have hfl := wf.len
  have hx1 : x.1.length + x.2.length + 32 = fsz1 x := rfl
  obtain ⟨sx, hsx⟩ : ∃ sx, sx = fsz1 x := ⟨_, rfl⟩
  obtain ⟨K0, hK0⟩ : ∃ K0, K0 = (shrF (lim - fsz1 x) F).2 := ⟨_, rfl⟩
  have hF1 : (shrF (lim - fsz1 x) F).1 = F.drop K0 := by rw [shrF_drop, ← hK0]
  have HFIT := Lib.hid fun (h : (0 : Int) ≤ lim - fsz1 x) => (hF1 ▸ shrF_fits h F : (fsz (F.drop K0) : Int) ≤ lim - fsz1 x)
  have HALL := Lib.hid fun (h : lim - (fsz1 x : Int) < 0) => (by rw [← hF1, shrF_all h] : F.drop K0 = [])
  rw [← hK0] at hK
  have HADD : Hid (addF lim F x = F.drop K0 ++ (if (sx : Int) ≤ lim then [x] else [])) := Lib.hid (by rw [hsx, ← hF1]; rfl)
  rw [← hsx] at HFIT HALL
  have HK0 : Hid (K0 = (shrF (lim - (sx : Int)) F).2) := Lib.hid (by rw [hsx]; exact hK0)
  have hfs : Hid (∀ {W : World} {l'}, Sat G W l' → Calls Try.prog 14 #[.agg #[.string (bstr x.1), .string (bstr x.2)]] W fun e w' => e = .returned (.int .i64 sx) ∧ Sat G w' l') := Lib.hid fun S => by
    rw [hsx]; exact fd_size S x.1 x.2 h1 h2
  have hwr : IntKind.i64.wrap (lim - (sx : Int)) = lim - (sx : Int) := by rw [IntWalk.i64_in _ (by omega)]
  have HWR := Lib.hid hwr
  have HSX := Lib.hid hsx
  have HB : Hid (fsz F ≤ 65536 ∧ F.length ≤ 4000 ∧ Z.length ≤ 4000) := Lib.hid (by omega)
  clear H hF1 hsx hK0 hwr hx1 wf h1 h2 hsz hzl hfl
  go_enter Try.func13, Try.ntmps13
  go_upto_region 1 with fail
  generalize w.heap.size = r at *
  refine wp_world S0 fun w1 S1 => ?_
  clear S0
  refine wp_act fun a0 ha0 => ?_
  have HSZ : a0.tmps.size = 42 := by rw [ha0]; rfl
  have E0 : a0.eval (.tmp 0) = .pointer (some ⟨p, 0, none⟩) := by rw [ha0]; rfl
  have E3 : a0.eval (.tmp 3) = .pointer (some ⟨r, 0, none⟩) := by rw [ha0]; rfl
  refine wp_region_J (by kernel_rfl) 10 (by kernel_rfl) [[], [], [1], [2], [3], [], [5], [4, 6], [0, 7, 6], [8, 8, 0, 1, 2, 3, 4, 5, 6, 7, 8]] (by kernel_rfl) (by kernel_rfl) (fun f a' W => ∃ Z' : List Fd, (f 8 = true → Z'.length ≤ (F.drop K0).length) ∧ a' = acts [(0, 6, .pointer (some ⟨p, 0, none⟩)), (1, 7, .pointer (some ⟨p, 0, none⟩)), (2, 8, .pointer (some ⟨p, 0, none⟩)), (3, 9, .pointer (some ⟨p, 3, none⟩)), (4, 10, .int .i64 lim), (5, 11, .agg #[.string (bstr x.1), .string (bstr x.2)]), (6, 12, .int .i64 sx), (7, 13, .int .i64 (lim - sx)), (8, 14, .int .i64 K0), (9, 5, .int .i64 K0)] f a0 ∧ Sat G W (blk r #[.string (bstr x.1), .string (bstr x.2)] 23 :: tbA p (cond (f 8) Z' Z) (cond (f 8) (F.drop K0) F) lim :: l)) ?_ ?_ ?_
  · exact ⟨[], (fun h => absurd h (by simp)), rfl, S1.drew⟩
  · refine ⟨?_, ?_, ?_, ?_, ?_, ?_, ?_, ?_, ?_, ?_, trivial⟩
    · rintro f a' W h0 hd ⟨Z', hh, rfl, S⟩
      refine wpOp_run (v := .pointer (some ⟨p, 0, none⟩)) rfl rfl (fun ρ hρ => ?_) ⟨Z', hh, (acts_some 0 rfl (by kernel_rfl) (by kernel_rfl)).symm, S⟩
      have e0 : ρ (.tmp 0) = .pointer (some ⟨p, 0, none⟩) := by rw [hρ]; exact (acts_eval_tmp 0 (by kernel_rfl)).trans E0
      clear hρ
      go_simp
    · rintro f a' W h1 hd ⟨Z', hh, rfl, S⟩
      refine wpOp_run (v := .pointer (some ⟨p, 0, none⟩)) rfl rfl (fun ρ hρ => ?_) ⟨Z', hh, (acts_some 1 rfl (by kernel_rfl) (by kernel_rfl)).symm, S⟩
      have e0 : ρ (.tmp 0) = .pointer (some ⟨p, 0, none⟩) := by rw [hρ]; exact (acts_eval_tmp 0 (by kernel_rfl)).trans E0
      clear hρ
      go_simp
    · rintro f a' W h2 hd ⟨Z', hh, rfl, S⟩
      refine wpOp_run (v := .pointer (some ⟨p, 0, none⟩)) rfl rfl (fun ρ hρ => ?_) ⟨Z', hh, (acts_some 2 rfl (by kernel_rfl) (by kernel_rfl)).symm, S⟩
      have e0 : ρ (.tmp 7) = .pointer (some ⟨p, 0, none⟩) := by rw [hρ]; exact acts_eval_hit 1 rfl hd.1 (by rw [HSZ]; rfl) (by kernel_rfl)
      clear hρ
      go_simp
    · rintro f a' W h3 hd ⟨Z', hh, rfl, S⟩
      refine wpOp_run (v := .pointer (some ⟨p, 3, none⟩)) rfl rfl (fun ρ hρ => ?_) ⟨Z', hh, (acts_some 3 rfl (by kernel_rfl) (by kernel_rfl)).symm, S⟩
      have e0 : ρ (.tmp 8) = .pointer (some ⟨p, 0, none⟩) := by rw [hρ]; exact acts_eval_hit 2 rfl hd.1 (by rw [HSZ]; rfl) (by kernel_rfl)
      clear hρ
      go_simp
    · rintro f a' W h4 hd ⟨Z', hh, rfl, S⟩
      refine wpOp_run (v := .int .i64 lim) rfl rfl (fun ρ hρ => ?_) ⟨Z', hh, (acts_some 4 rfl (by kernel_rfl) (by kernel_rfl)).symm, S⟩
      have e0 : ρ (.tmp 9) = .pointer (some ⟨p, 3, none⟩) := by rw [hρ]; exact acts_eval_hit 3 rfl hd.1 (by rw [HSZ]; rfl) (by kernel_rfl)
      clear hρ
      (obtain ⟨v9, T9⟩ := tb_iff.1 S.swap; have hcl : W.cell? ⟨p, 3, none⟩ = some (.int .i64 lim) := T9.cell 3)
      go_simp
    · rintro f a' W h5 hd ⟨Z', hh, rfl, S⟩
      refine wpOp_list rfl ?_
      refine st_load rfl _ _ rfl _ ((acts_eval_tmp 3 (by kernel_rfl)).trans E3) _ _ (S) _ rfl rfl rfl ?_
      exact ⟨Z', hh, (acts_some 5 rfl (by kernel_rfl) (by kernel_rfl)).symm, S⟩
    · rintro f a' W h6 hd ⟨Z', hh, rfl, S⟩
      refine wpOp_call rfl rfl (fun ρ hρ => ?_) (hfs.out S) ?_
      · skip
        have e0 : ρ (.tmp 11) = .agg #[.string (bstr x.1), .string (bstr x.2)] := by rw [hρ]; exact acts_eval_hit 5 rfl hd.1 (by rw [HSZ]; rfl) (by kernel_rfl)
        have ef : ρ (.func 14) = .func (.func 14) #[] #[] := by rw [hρ]; rfl
        clear hρ
        go_simp
      · (rintro e W' ⟨rfl, S'⟩; exact ⟨_, rfl, Z', hh, (acts_some 6 rfl (by kernel_rfl) (by kernel_rfl)).symm, S'⟩)
    · rintro f a' W h7 hd ⟨Z', hh, rfl, S⟩
      refine wpOp_run (v := .int .i64 (lim - sx)) rfl rfl (fun ρ hρ => ?_) ⟨Z', hh, (acts_some 7 rfl (by kernel_rfl) (by kernel_rfl)).symm, S⟩
      have e0 : ρ (.tmp 10) = .int .i64 lim := by rw [hρ]; exact acts_eval_hit 4 rfl hd.1 (by rw [HSZ]; rfl) (by kernel_rfl)
      have e1 : ρ (.tmp 12) = .int .i64 sx := by rw [hρ]; exact acts_eval_hit 6 rfl hd.2.1 (by rw [HSZ]; rfl) (by kernel_rfl)
      clear hρ
      (have hh1 := HWR.out)
      go_simp
    · rintro f a' W h8 hd ⟨Z', hh, rfl, S⟩
      (rw [h8] at S; simp only [cond_false] at S)
      refine wpOp_call rfl rfl (fun ρ hρ => ?_) (tb_shrink S.swap HB.out.1 HB.out.2.1 HB.out.2.2 (lim - sx) K0 HK0.out) ?_
      · skip
        have e0 : ρ (.tmp 6) = .pointer (some ⟨p, 0, none⟩) := by rw [hρ]; exact acts_eval_hit 0 rfl hd.1 (by rw [HSZ]; rfl) (by kernel_rfl)
        have e1 : ρ (.tmp 13) = .int .i64 (lim - sx) := by rw [hρ]; exact acts_eval_hit 7 rfl hd.2.1 (by rw [HSZ]; rfl) (by kernel_rfl)
        have ef : ρ (.func 25) = .func (.func 25) #[] #[] := by rw [hρ]; rfl
        clear hρ
        go_simp
      · (rintro e W' ⟨rfl, Z2, hZ2, S'⟩; exact ⟨_, rfl, Z2, fun _ ↦ hZ2, (acts_some 8 rfl (by kernel_rfl) (by kernel_rfl)).symm, S'.swap⟩)
    · rintro f a' W h9 hd ⟨Z', hh, rfl, S⟩
      refine wpOp_run (v := .int .i64 K0) rfl rfl (fun ρ hρ => ?_) ⟨Z', hh, (acts_some 9 rfl (by kernel_rfl) (by kernel_rfl)).symm, S⟩
      have e0 : ρ (.tmp 14) = .int .i64 K0 := by rw [hρ]; exact acts_eval_hit 8 rfl hd.1 (by rw [HSZ]; rfl) (by kernel_rfl)
      clear hρ
      go_simp
  rintro a' W ⟨Z1, hZ1, rfl, S2⟩
  subst ha0
  simp only [acts, if_true, Act.put, List.setIfInBounds_toArray, List.set_cons_succ, List.set_cons_zero]
  simp only [cond_true] at S2
  have hz1 := hZ1 rfl
  clear HSZ E0 E3 S1 hZ1 HK0 HWR
  obtain ⟨b, hb⟩ : ∃ b, b = decide ((sx : Int) ≤ lim) := ⟨_, rfl⟩
  have HBB := Lib.hid hb
  clear hb
  have HBD := HB.out
  obtain ⟨F1, hF1⟩ : ∃ F1, F1 = F.drop K0 := ⟨_, rfl⟩
  have hF1l : F1.length ≤ F.length := by rw [hF1, List.length_drop]; omega
  have hF1s : fsz F1 ≤ fsz F := by
    have : fsz F = fsz (F.take K0) + fsz (F.drop K0) := by rw [← fsz_append, List.take_append_drop]
    rw [hF1]; omega
  rw [← hF1] at S2 hz1 HADD HFIT HALL
  have HF1 : Hid (fsz F1 ≤ 65536 ∧ F1.length ≤ 4000 ∧ Z1.length ≤ F1.length) := Lib.hid (by omega)
  clear hF1 hF1l hF1s hz1 HBD HB
  go_upto_region 2 with fail
  refine wp_act fun a0 ha0 => ?_
  have HSZ : a0.tmps.size = 42 := by rw [ha0]; rfl
  have E0 : a0.eval (.tmp 0) = .pointer (some ⟨p, 0, none⟩) := by rw [ha0]; rfl
  have E3 : a0.eval (.tmp 3) = .pointer (some ⟨r, 0, none⟩) := by rw [ha0]; rfl
  refine wp_region_J (by kernel_rfl) 7 (by kernel_rfl) [[], [0], [], [2], [3], [4], [1, 5]] (by kernel_rfl) (by kernel_rfl) (fun f a' W => a' = acts [(0, 15, .agg #[.string (bstr x.1), .string (bstr x.2)]), (1, 16, .int .i64 sx), (2, 17, .pointer (some ⟨p, 0, none⟩)), (3, 18, .pointer (some ⟨p, 0, none⟩)), (4, 19, .pointer (some ⟨p, 3, none⟩)), (5, 20, .int .i64 lim), (6, 21, .bool b)] f a0 ∧ Sat G W (blk r #[.string (bstr x.1), .string (bstr x.2)] 23 :: tbA p Z1 F1 lim :: l)) ?_ ?_ ?_
  · exact ⟨rfl, S2.drew⟩
  · refine ⟨?_, ?_, ?_, ?_, ?_, ?_, ?_, trivial⟩
    · rintro f a' W h0 hd ⟨rfl, S⟩
      refine wpOp_list rfl ?_
      refine st_load rfl _ _ rfl _ ((acts_eval_tmp 3 (by kernel_rfl)).trans E3) _ _ (S) _ rfl rfl rfl ?_
      exact ⟨(acts_some 0 rfl (by kernel_rfl) (by kernel_rfl)).symm, S⟩
    · rintro f a' W h1 hd ⟨rfl, S⟩
      refine wpOp_call rfl rfl (fun ρ hρ => ?_) (hfs.out S) ?_
      · skip
        have e0 : ρ (.tmp 15) = .agg #[.string (bstr x.1), .string (bstr x.2)] := by rw [hρ]; exact acts_eval_hit 0 rfl hd.1 (by rw [HSZ]; rfl) (by kernel_rfl)
        have ef : ρ (.func 14) = .func (.func 14) #[] #[] := by rw [hρ]; rfl
        clear hρ
        go_simp
      · (rintro e W' ⟨rfl, S'⟩; exact ⟨_, rfl, (acts_some 1 rfl (by kernel_rfl) (by kernel_rfl)).symm, S'⟩)
    · rintro f a' W h2 hd ⟨rfl, S⟩
      refine wpOp_run (v := .pointer (some ⟨p, 0, none⟩)) rfl rfl (fun ρ hρ => ?_) ⟨(acts_some 2 rfl (by kernel_rfl) (by kernel_rfl)).symm, S⟩
      have e0 : ρ (.tmp 0) = .pointer (some ⟨p, 0, none⟩) := by rw [hρ]; exact (acts_eval_tmp 0 (by kernel_rfl)).trans E0
      clear hρ
      go_simp
    · rintro f a' W h3 hd ⟨rfl, S⟩
      refine wpOp_run (v := .pointer (some ⟨p, 0, none⟩)) rfl rfl (fun ρ hρ => ?_) ⟨(acts_some 3 rfl (by kernel_rfl) (by kernel_rfl)).symm, S⟩
      have e0 : ρ (.tmp 17) = .pointer (some ⟨p, 0, none⟩) := by rw [hρ]; exact acts_eval_hit 2 rfl hd.1 (by rw [HSZ]; rfl) (by kernel_rfl)
      clear hρ
      go_simp
    · rintro f a' W h4 hd ⟨rfl, S⟩
      refine wpOp_run (v := .pointer (some ⟨p, 3, none⟩)) rfl rfl (fun ρ hρ => ?_) ⟨(acts_some 4 rfl (by kernel_rfl) (by kernel_rfl)).symm, S⟩
      have e0 : ρ (.tmp 18) = .pointer (some ⟨p, 0, none⟩) := by rw [hρ]; exact acts_eval_hit 3 rfl hd.1 (by rw [HSZ]; rfl) (by kernel_rfl)
      clear hρ
      go_simp
    · rintro f a' W h5 hd ⟨rfl, S⟩
      refine wpOp_run (v := .int .i64 lim) rfl rfl (fun ρ hρ => ?_) ⟨(acts_some 5 rfl (by kernel_rfl) (by kernel_rfl)).symm, S⟩
      have e0 : ρ (.tmp 19) = .pointer (some ⟨p, 3, none⟩) := by rw [hρ]; exact acts_eval_hit 4 rfl hd.1 (by rw [HSZ]; rfl) (by kernel_rfl)
      clear hρ
      (obtain ⟨v9, T9⟩ := tb_iff.1 S.swap; have hcl : W.cell? ⟨p, 3, none⟩ = some (.int .i64 lim) := T9.cell 3)
      go_simp
    · rintro f a' W h6 hd ⟨rfl, S⟩
      refine wpOp_run (v := .bool b) rfl rfl (fun ρ hρ => ?_) ⟨(acts_some 6 rfl (by kernel_rfl) (by kernel_rfl)).symm, S⟩
      have e0 : ρ (.tmp 16) = .int .i64 sx := by rw [hρ]; exact acts_eval_hit 1 rfl hd.1 (by rw [HSZ]; rfl) (by kernel_rfl)
      have e1 : ρ (.tmp 20) = .int .i64 lim := by rw [hρ]; exact acts_eval_hit 5 rfl hd.2.1 (by rw [HSZ]; rfl) (by kernel_rfl)
      clear hρ
      (have hh := HBB.out)
      go_simp
      (first | done | (rw [hh]) | (rw [hh]; simp))
  rintro a' W2 ⟨rfl, S3⟩
  subst ha0
  simp only [acts, if_true, Act.put, List.setIfInBounds_toArray, List.set_cons_succ, List.set_cons_zero]
  clear HSZ E0 E3 S2
  cases b with
  | false =>
    have hgt : ¬ ((sx : Int) ≤ lim) := of_decide_eq_false HBB.out.symm
    have HS : Hid (∃ Z', TWf Z' (addF lim F x) lim ∧ Sat G W2 (tbA p Z' (addF lim F x) lim :: l)) := Lib.hid (by
      have e1 := HADD.out
      rw [if_neg hgt, List.append_nil] at e1
      have e2 := HALL.out (by omega)
      rw [e1]
      refine ⟨Z1, ⟨hl0, hl1, ?_, HF1.out.2.2⟩, S3.drop⟩
      rw [e2]; exact hl0)
    clear S3 hgt
    go_wp2_with fail
    exact hK.out _ _ ⟨rfl, HS.out⟩
  | true =>
    have hle : (sx : Int) ≤ lim := of_decide_eq_true HBB.out.symm
    obtain ⟨v, S4⟩ := tb_iff.1 S3.swap
    obtain ⟨n, hn⟩ : ∃ n, n = (Z1 ++ F1).length := ⟨_, rfl⟩
    obtain ⟨s, hs⟩ : ∃ s, s = fsz F1 := ⟨_, rfl⟩
    obtain ⟨zl, hzl⟩ : ∃ zl, zl = Z1.length := ⟨_, rfl⟩
    rw [← hn, ← hs, ← hzl] at S4
    have hfit := HFIT.out (by omega)
    have hb1 : n ≤ 8000 := by rw [hn, List.length_append]; have := HF1.out; omega
    have e1 := HADD.out
    rw [if_pos hle] at e1
    have HC : Hid (∀ (W : World) (u : Value), Sat G W (blk r #[.string (bstr x.1), .string (bstr x.2)] 23 :: blk p #[u, .int .i64 zl, .int .i64 ((s + sx : Nat) : Int), .int .i64 lim] 60 :: ownS 23 2 u (n + 1) (encs fenc (Z1 ++ F1) ++ [.string (bstr x.1), .string (bstr x.2)]) :: l) → ∃ Z', TWf Z' (addF lim F x) lim ∧ Sat G W (tbA p Z' (addF lim F x) lim :: l)) := Lib.hid fun W u T => by
      rw [e1]
      have e2 : fsz (F1 ++ [x]) = s + sx := by rw [fsz_append, fsz_cons, fsz_nil, hs, HSX.out]; rfl
      refine ⟨Z1, ⟨hl0, hl1, ?_, ?_⟩, tb_iff.2 ⟨u, ?_⟩⟩
      · rw [e2, hs]; omega
      · rw [List.length_append]; have := HF1.out; omega
      · rw [e2, ← hzl, ← List.append_assoc]
        have e3 : (Z1 ++ F1 ++ [x]).length = n + 1 := by rw [List.length_append, hn]; rfl
        have e4 : encs fenc (Z1 ++ F1 ++ [x]) = encs fenc (Z1 ++ F1) ++ [.string (bstr x.1), .string (bstr x.2)] := by rw [encs_append]; rfl
        rw [e3, e4]
        exact T.drop
    have S5 := S4.re [2, 0, 1]
    have S6 := S4.pull2
    have hsb : s ≤ 65536 := by rw [hs]; exact HF1.out.1
    have hwr : IntKind.i64.wrap ((s : Int) + (sx : Int)) = ((s + sx : Nat) : Int) := by rw [IntWalk.i64_in _ (by omega)]; omega
    have HWR := Lib.hid hwr
    obtain ⟨xs, hxs⟩ : ∃ xs, xs = encs fenc (Z1 ++ F1) := ⟨_, rfl⟩
    rw [← hxs] at HC S6
    clear hn hs hzl hfit e1 S4 S5 S3 hxs hwr hle HFIT HALL HADD HSX hl0 hl1
    go_upto_region 3 with fail
    refine wp_act fun a0 ha0 => ?_
    have HSZ : a0.tmps.size = 42 := by rw [ha0]; rfl
    have E0 : a0.eval (.tmp 0) = .pointer (some ⟨p, 0, none⟩) := by rw [ha0]; rfl
    have E3 : a0.eval (.tmp 3) = .pointer (some ⟨r, 0, none⟩) := by rw [ha0]; rfl
    refine wp_region_J (by kernel_rfl) 11 (by kernel_rfl) [[], [], [1], [2], [3], [], [5], [4, 6], [0, 0, 1, 2, 3, 4, 5, 6, 7], [8, 0, 1, 2, 3, 4, 5, 6, 7], [9, 7, 7, 0, 1, 2, 3, 4, 5, 6, 7]] (by kernel_rfl) (by kernel_rfl) (fun f a' W => ∃ q v', HAa f ∧ a' = acts [(0, 22, .pointer (some ⟨p, 0, none⟩)), (1, 23, .pointer (some ⟨p, 0, none⟩)), (2, 24, .pointer (some ⟨p, 0, none⟩)), (3, 25, .pointer (some ⟨p, 0, none⟩)), (4, 26, v), (5, 27, .agg #[.string (bstr x.1), .string (bstr x.2)]), (6, 28, .slice (some ⟨q, 0, none⟩) 1 1), (7, 29, v'), (8, 30, .pointer (some ⟨p, 0, none⟩)), (9, 31, .pointer (some ⟨p, 0, none⟩))] f a0 ∧ Sat G W (opt (f 6) (blk q #[.string (bstr x.1), .string (bstr x.2)] 23) :: blk r #[.string (bstr x.1), .string (bstr x.2)] 23 :: blk p #[cond (f 10) v' v, .int .i64 zl, .int .i64 s, .int .i64 lim] 60 :: ownS 23 2 (cond (f 7) v' v) (cond (f 7) (n + 1) n) (cond (f 7) (xs ++ [.string (bstr x.1), .string (bstr x.2)]) xs) :: l)) ?_ ?_ ?_
    · exact ⟨0, undef, (by unfold HAa; decide), rfl, S6.drew.opt0⟩
    · refine ⟨?_, ?_, ?_, ?_, ?_, ?_, ?_, ?_, ?_, ?_, ?_, trivial⟩
      · rintro f a' W h0 hd ⟨q, v', hh, rfl, S⟩
        refine wpOp_run (v := .pointer (some ⟨p, 0, none⟩)) rfl rfl (fun ρ hρ => ?_) ⟨q, v', hh, (acts_some 0 rfl (by kernel_rfl) (by kernel_rfl)).symm, S⟩
        have e0 : ρ (.tmp 0) = .pointer (some ⟨p, 0, none⟩) := by rw [hρ]; exact (acts_eval_tmp 0 (by kernel_rfl)).trans E0
        clear hρ
        go_simp
      · rintro f a' W h1 hd ⟨q, v', hh, rfl, S⟩
        refine wpOp_run (v := .pointer (some ⟨p, 0, none⟩)) rfl rfl (fun ρ hρ => ?_) ⟨q, v', hh, (acts_some 1 rfl (by kernel_rfl) (by kernel_rfl)).symm, S⟩
        have e0 : ρ (.tmp 0) = .pointer (some ⟨p, 0, none⟩) := by rw [hρ]; exact (acts_eval_tmp 0 (by kernel_rfl)).trans E0
        clear hρ
        go_simp
      · rintro f a' W h2 hd ⟨q, v', hh, rfl, S⟩
        refine wpOp_run (v := .pointer (some ⟨p, 0, none⟩)) rfl rfl (fun ρ hρ => ?_) ⟨q, v', hh, (acts_some 2 rfl (by kernel_rfl) (by kernel_rfl)).symm, S⟩
        have e0 : ρ (.tmp 23) = .pointer (some ⟨p, 0, none⟩) := by rw [hρ]; exact acts_eval_hit 1 rfl hd.1 (by rw [HSZ]; rfl) (by kernel_rfl)
        clear hρ
        go_simp
      · rintro f a' W h3 hd ⟨q, v', hh, rfl, S⟩
        refine wpOp_run (v := .pointer (some ⟨p, 0, none⟩)) rfl rfl (fun ρ hρ => ?_) ⟨q, v', hh, (acts_some 3 rfl (by kernel_rfl) (by kernel_rfl)).symm, S⟩
        have e0 : ρ (.tmp 24) = .pointer (some ⟨p, 0, none⟩) := by rw [hρ]; exact acts_eval_hit 2 rfl hd.1 (by rw [HSZ]; rfl) (by kernel_rfl)
        clear hρ
        go_simp
      · rintro f a' W h4 hd ⟨q, v', hh, rfl, S⟩
        (have z7 := no_of hh.2.1 h4; have z10 := no_of hh.2.2 z7)
        refine wpOp_run (v := v) rfl rfl (fun ρ hρ => ?_) ⟨q, v', ⟨hh.1, fun _ => rfl, hh.2.2⟩, (acts_some 4 rfl (by kernel_rfl) (by kernel_rfl)).symm, S⟩
        have e0 : ρ (.tmp 25) = .pointer (some ⟨p, 0, none⟩) := by rw [hρ]; exact acts_eval_hit 3 rfl hd.1 (by rw [HSZ]; rfl) (by kernel_rfl)
        clear hρ
        (have hcl : W.cell? ⟨p, 0, none⟩ = some v := (by have := S.pull2.cell 0; rw [z10] at this; exact this))
        go_simp
      · rintro f a' W h5 hd ⟨q, v', hh, rfl, S⟩
        refine wpOp_list rfl ?_
        refine st_load rfl _ _ rfl _ ((acts_eval_tmp 3 (by kernel_rfl)).trans E3) _ _ (S.swap) _ rfl rfl rfl ?_
        exact ⟨q, v', hh, (acts_some 5 rfl (by kernel_rfl) (by kernel_rfl)).symm, S⟩
      · rintro f a' W h6 hd ⟨q, v', hh, rfl, S⟩
        (have z7 := no_of hh.1 h6)
        refine wpOp_mem (v := .slice (some ⟨W.heap.size, 0, none⟩) 1 1) (w' := W.alloc (.cells #[.string (bstr x.1), .string (bstr x.2)] 23)) rfl rfl (fun ρ hρ => ?_) (⟨W.heap.size, v', ⟨fun _ => rfl, hh.2⟩, acts_swap (by simp only [acts, h6, Bool.false_eq_true, if_false]) (k := 6) rfl (by kernel_rfl) (by kernel_rfl), Sat.optI rfl (S.newBlk _ _).drop2⟩)
        have e0 : ρ (.tmp 27) = .agg #[.string (bstr x.1), .string (bstr x.2)] := by rw [hρ]; exact acts_eval_hit 5 rfl hd.1 (by rw [HSZ]; rfl) (by kernel_rfl)
        clear hρ
        go_simp
      · rintro f a' W h7 hd ⟨q, v', hh, rfl, S⟩
        have q26 : (acts [(0, 22, .pointer (some ⟨p, 0, none⟩)), (1, 23, .pointer (some ⟨p, 0, none⟩)), (2, 24, .pointer (some ⟨p, 0, none⟩)), (3, 25, .pointer (some ⟨p, 0, none⟩)), (4, 26, v), (5, 27, .agg #[.string (bstr x.1), .string (bstr x.2)]), (6, 28, .slice (some ⟨q, 0, none⟩) 1 1), (7, 29, v'), (8, 30, .pointer (some ⟨p, 0, none⟩)), (9, 31, .pointer (some ⟨p, 0, none⟩))] f a0).eval (.tmp 26) = v := acts_eval_hit 4 rfl hd.1 (by rw [HSZ]; rfl) (by kernel_rfl)
        have q28 : (acts [(0, 22, .pointer (some ⟨p, 0, none⟩)), (1, 23, .pointer (some ⟨p, 0, none⟩)), (2, 24, .pointer (some ⟨p, 0, none⟩)), (3, 25, .pointer (some ⟨p, 0, none⟩)), (4, 26, v), (5, 27, .agg #[.string (bstr x.1), .string (bstr x.2)]), (6, 28, .slice (some ⟨q, 0, none⟩) 1 1), (7, 29, v'), (8, 30, .pointer (some ⟨p, 0, none⟩)), (9, 31, .pointer (some ⟨p, 0, none⟩))] f a0).eval (.tmp 28) = .slice (some ⟨q, 0, none⟩) 1 1 := acts_eval_hit 6 rfl hd.2.1 (by rw [HSZ]; rfl) (by kernel_rfl)
        (have z10 := no_of hh.2.2 h7; simp only [hd.2.1, h7, z10, cond_false] at S; have S2 := (opt_iff.1 S).pull3; refine wpOp_list rfl ?_; refine st_append rfl _ _ 58 rfl 23 (.agg #[.string { data := #[] }, .string { data := #[] }]) 2 32 Try.underlying58 info_fd rfl (by omega) v n xs q26 S2 ⟨q, 0, none⟩ 1 1 [.string (bstr x.1), .string (bstr x.2)] q28 rfl (fun j u hj => blk_cells (opt_iff.1 S) j u hj) rfl (Nat.le_trans (show n + 1 ≤ 8001 by omega) (by decide)) (by omega) ?_; intro v2 w2 S3; refine ⟨q, v2, ⟨fun _ => hd.2.1, fun _ => hd.1, fun _ => rfl⟩, acts_swap (by simp only [acts, h7, Bool.false_eq_true, if_false]) (k := 7) rfl (by kernel_rfl) (by kernel_rfl), ?_⟩; show Sat G w2 (opt (f 6) _ :: _ :: blk p #[cond (f 10) v2 v, _, _, _] _ :: _); rw [hd.2.1, z10]; exact opt_iff.2 S3.push3)
      · rintro f a' W h8 hd ⟨q, v', hh, rfl, S⟩
        refine wpOp_run (v := .pointer (some ⟨p, 0, none⟩)) rfl rfl (fun ρ hρ => ?_) ⟨q, v', hh, (acts_some 8 rfl (by kernel_rfl) (by kernel_rfl)).symm, S⟩
        have e0 : ρ (.tmp 22) = .pointer (some ⟨p, 0, none⟩) := by rw [hρ]; exact acts_eval_hit 0 rfl hd.1 (by rw [HSZ]; rfl) (by kernel_rfl)
        clear hρ
        go_simp
      · rintro f a' W h9 hd ⟨q, v', hh, rfl, S⟩
        refine wpOp_run (v := .pointer (some ⟨p, 0, none⟩)) rfl rfl (fun ρ hρ => ?_) ⟨q, v', hh, (acts_some 9 rfl (by kernel_rfl) (by kernel_rfl)).symm, S⟩
        have e0 : ρ (.tmp 30) = .pointer (some ⟨p, 0, none⟩) := by rw [hρ]; exact acts_eval_hit 8 rfl hd.1 (by rw [HSZ]; rfl) (by kernel_rfl)
        clear hρ
        go_simp
      · rintro f a' W h10 hd ⟨q, v', hh, rfl, S⟩
        have q31 : (acts [(0, 22, .pointer (some ⟨p, 0, none⟩)), (1, 23, .pointer (some ⟨p, 0, none⟩)), (2, 24, .pointer (some ⟨p, 0, none⟩)), (3, 25, .pointer (some ⟨p, 0, none⟩)), (4, 26, v), (5, 27, .agg #[.string (bstr x.1), .string (bstr x.2)]), (6, 28, .slice (some ⟨q, 0, none⟩) 1 1), (7, 29, v'), (8, 30, .pointer (some ⟨p, 0, none⟩)), (9, 31, .pointer (some ⟨p, 0, none⟩))] f a0).eval (.tmp 31) = .pointer (some ⟨p, 0, none⟩) := acts_eval_hit 9 rfl hd.1 (by rw [HSZ]; rfl) (by kernel_rfl)
        have q29 : (acts [(0, 22, .pointer (some ⟨p, 0, none⟩)), (1, 23, .pointer (some ⟨p, 0, none⟩)), (2, 24, .pointer (some ⟨p, 0, none⟩)), (3, 25, .pointer (some ⟨p, 0, none⟩)), (4, 26, v), (5, 27, .agg #[.string (bstr x.1), .string (bstr x.2)]), (6, 28, .slice (some ⟨q, 0, none⟩) 1 1), (7, 29, v'), (8, 30, .pointer (some ⟨p, 0, none⟩)), (9, 31, .pointer (some ⟨p, 0, none⟩))] f a0).eval (.tmp 29) = v' := acts_eval_hit 7 rfl hd.2.1 (by rw [HSZ]; rfl) (by kernel_rfl)
        (simp only [hd.2.1, h10, cond_true, cond_false] at S; obtain ⟨A', c', rfl, -⟩ := (S.pull3).ownSlice; refine wpOp_list rfl ?_; refine st_set rfl _ _ _ rfl _ _ _ q31 q29 rfl _ _ S.pull2 (by kernel_rfl) (by simp) fun W' S' => ?_; refine ⟨q, _, ⟨hh.1, hh.2.1, fun _ => hd.2.1⟩, (acts_none 10 (by kernel_rfl)).symm, ?_⟩; show Sat G W' (_ :: _ :: _ :: ownS _ _ (cond (f 7) _ _) (cond (f 7) _ _) (cond (f 7) _ _) :: _); rw [hd.2.1]; exact S'.push2)
    rintro a' W3 ⟨q, v', -, rfl, S7⟩
    subst ha0
    simp only [acts, if_true, Act.put, List.setIfInBounds_toArray, List.set_cons_succ, List.set_cons_zero]
    simp only [cond_true] at S7
    have S8 := S7.drop
    clear S7 S6 HSZ E0 E3
    go_upto_region 4 with fail
    refine wp_act fun a0 ha0 => ?_
    have HSZ : a0.tmps.size = 42 := by rw [ha0]; rfl
    have E0 : a0.eval (.tmp 0) = .pointer (some ⟨p, 0, none⟩) := by rw [ha0]; rfl
    have E3 : a0.eval (.tmp 3) = .pointer (some ⟨r, 0, none⟩) := by rw [ha0]; rfl
    refine wp_region_J (by kernel_rfl) 10 (by kernel_rfl) [[], [0], [1], [2], [], [4], [3, 5], [0, 0, 1, 2, 3, 4, 5, 6], [7, 0, 1, 2, 3, 4, 5, 6], [8, 6, 5, 0, 1, 2, 3, 4, 5, 6]] (by kernel_rfl) (by kernel_rfl) (fun f a' W => HAb f ∧ a' = acts [(0, 32, .pointer (some ⟨p, 0, none⟩)), (1, 33, .pointer (some ⟨p, 0, none⟩)), (2, 34, .pointer (some ⟨p, 2, none⟩)), (3, 35, .int .i64 s), (4, 36, .agg #[.string (bstr x.1), .string (bstr x.2)]), (5, 37, .int .i64 sx), (6, 38, .int .i64 ((s + sx : Nat) : Int)), (7, 39, .pointer (some ⟨p, 0, none⟩)), (8, 40, .pointer (some ⟨p, 2, none⟩))] f a0 ∧ Sat G W (blk r #[.string (bstr x.1), .string (bstr x.2)] 23 :: blk p #[v', .int .i64 zl, .int .i64 (cond (f 9) ((s + sx : Nat) : Int) (s : Int)), .int .i64 lim] 60 :: ownS 23 2 v' (n + 1) (xs ++ [.string (bstr x.1), .string (bstr x.2)]) :: l)) ?_ ?_ ?_
    · exact ⟨(by unfold HAb; decide), rfl, S8.drew⟩
    · refine ⟨?_, ?_, ?_, ?_, ?_, ?_, ?_, ?_, ?_, ?_, trivial⟩
      · rintro f a' W h0 hd ⟨hh, rfl, S⟩
        refine wpOp_run (v := .pointer (some ⟨p, 0, none⟩)) rfl rfl (fun ρ hρ => ?_) ⟨hh, (acts_some 0 rfl (by kernel_rfl) (by kernel_rfl)).symm, S⟩
        have e0 : ρ (.tmp 0) = .pointer (some ⟨p, 0, none⟩) := by rw [hρ]; exact (acts_eval_tmp 0 (by kernel_rfl)).trans E0
        clear hρ
        go_simp
      · rintro f a' W h1 hd ⟨hh, rfl, S⟩
        refine wpOp_run (v := .pointer (some ⟨p, 0, none⟩)) rfl rfl (fun ρ hρ => ?_) ⟨hh, (acts_some 1 rfl (by kernel_rfl) (by kernel_rfl)).symm, S⟩
        have e0 : ρ (.tmp 32) = .pointer (some ⟨p, 0, none⟩) := by rw [hρ]; exact acts_eval_hit 0 rfl hd.1 (by rw [HSZ]; rfl) (by kernel_rfl)
        clear hρ
        go_simp
      · rintro f a' W h2 hd ⟨hh, rfl, S⟩
        refine wpOp_run (v := .pointer (some ⟨p, 2, none⟩)) rfl rfl (fun ρ hρ => ?_) ⟨hh, (acts_some 2 rfl (by kernel_rfl) (by kernel_rfl)).symm, S⟩
        have e0 : ρ (.tmp 33) = .pointer (some ⟨p, 0, none⟩) := by rw [hρ]; exact acts_eval_hit 1 rfl hd.1 (by rw [HSZ]; rfl) (by kernel_rfl)
        clear hρ
        go_simp
      · rintro f a' W h3 hd ⟨hh, rfl, S⟩
        (have z9 := no_of hh h3)
        refine wpOp_run (v := .int .i64 s) rfl rfl (fun ρ hρ => ?_) ⟨fun _ => rfl, (acts_some 3 rfl (by kernel_rfl) (by kernel_rfl)).symm, S⟩
        have e0 : ρ (.tmp 34) = .pointer (some ⟨p, 2, none⟩) := by rw [hρ]; exact acts_eval_hit 2 rfl hd.1 (by rw [HSZ]; rfl) (by kernel_rfl)
        clear hρ
        (have hcl : W.cell? ⟨p, 2, none⟩ = some (.int .i64 s) := (by have := S.swap.cell 2; rw [z9] at this; exact this))
        go_simp
      · rintro f a' W h4 hd ⟨hh, rfl, S⟩
        refine wpOp_list rfl ?_
        refine st_load rfl _ _ rfl _ ((acts_eval_tmp 3 (by kernel_rfl)).trans E3) _ _ (S) _ rfl rfl rfl ?_
        exact ⟨hh, (acts_some 4 rfl (by kernel_rfl) (by kernel_rfl)).symm, S⟩
      · rintro f a' W h5 hd ⟨hh, rfl, S⟩
        refine wpOp_call rfl rfl (fun ρ hρ => ?_) (hfs.out S) ?_
        · skip
          have e0 : ρ (.tmp 36) = .agg #[.string (bstr x.1), .string (bstr x.2)] := by rw [hρ]; exact acts_eval_hit 4 rfl hd.1 (by rw [HSZ]; rfl) (by kernel_rfl)
          have ef : ρ (.func 14) = .func (.func 14) #[] #[] := by rw [hρ]; rfl
          clear hρ
          go_simp
        · (rintro e W' ⟨rfl, S'⟩; exact ⟨_, rfl, hh, (acts_some 5 rfl (by kernel_rfl) (by kernel_rfl)).symm, S'⟩)
      · rintro f a' W h6 hd ⟨hh, rfl, S⟩
        refine wpOp_run (v := .int .i64 ((s + sx : Nat) : Int)) rfl rfl (fun ρ hρ => ?_) ⟨hh, (acts_some 6 rfl (by kernel_rfl) (by kernel_rfl)).symm, S⟩
        have e0 : ρ (.tmp 35) = .int .i64 s := by rw [hρ]; exact acts_eval_hit 3 rfl hd.1 (by rw [HSZ]; rfl) (by kernel_rfl)
        have e1 : ρ (.tmp 37) = .int .i64 sx := by rw [hρ]; exact acts_eval_hit 5 rfl hd.2.1 (by rw [HSZ]; rfl) (by kernel_rfl)
        clear hρ
        (have hh1 := HWR.out)
        go_simp
        (first | done | (rw [hh1]) | simp)
      · rintro f a' W h7 hd ⟨hh, rfl, S⟩
        refine wpOp_run (v := .pointer (some ⟨p, 0, none⟩)) rfl rfl (fun ρ hρ => ?_) ⟨hh, (acts_some 7 rfl (by kernel_rfl) (by kernel_rfl)).symm, S⟩
        have e0 : ρ (.tmp 32) = .pointer (some ⟨p, 0, none⟩) := by rw [hρ]; exact acts_eval_hit 0 rfl hd.1 (by rw [HSZ]; rfl) (by kernel_rfl)
        clear hρ
        go_simp
      · rintro f a' W h8 hd ⟨hh, rfl, S⟩
        refine wpOp_run (v := .pointer (some ⟨p, 2, none⟩)) rfl rfl (fun ρ hρ => ?_) ⟨hh, (acts_some 8 rfl (by kernel_rfl) (by kernel_rfl)).symm, S⟩
        have e0 : ρ (.tmp 39) = .pointer (some ⟨p, 0, none⟩) := by rw [hρ]; exact acts_eval_hit 7 rfl hd.1 (by rw [HSZ]; rfl) (by kernel_rfl)
        clear hρ
        go_simp
      · rintro f a' W h9 hd ⟨hh, rfl, S⟩
        have q40 : (acts [(0, 32, .pointer (some ⟨p, 0, none⟩)), (1, 33, .pointer (some ⟨p, 0, none⟩)), (2, 34, .pointer (some ⟨p, 2, none⟩)), (3, 35, .int .i64 s), (4, 36, .agg #[.string (bstr x.1), .string (bstr x.2)]), (5, 37, .int .i64 sx), (6, 38, .int .i64 ((s + sx : Nat) : Int)), (7, 39, .pointer (some ⟨p, 0, none⟩)), (8, 40, .pointer (some ⟨p, 2, none⟩))] f a0).eval (.tmp 40) = .pointer (some ⟨p, 2, none⟩) := acts_eval_hit 8 rfl hd.1 (by rw [HSZ]; rfl) (by kernel_rfl)
        have q38 : (acts [(0, 32, .pointer (some ⟨p, 0, none⟩)), (1, 33, .pointer (some ⟨p, 0, none⟩)), (2, 34, .pointer (some ⟨p, 2, none⟩)), (3, 35, .int .i64 s), (4, 36, .agg #[.string (bstr x.1), .string (bstr x.2)]), (5, 37, .int .i64 sx), (6, 38, .int .i64 ((s + sx : Nat) : Int)), (7, 39, .pointer (some ⟨p, 0, none⟩)), (8, 40, .pointer (some ⟨p, 2, none⟩))] f a0).eval (.tmp 38) = .int .i64 ((s + sx : Nat) : Int) := acts_eval_hit 6 rfl hd.2.1 (by rw [HSZ]; rfl) (by kernel_rfl)
        (rw [h9] at S; refine wpOp_list rfl ?_; refine st_set rfl _ _ _ rfl _ _ _ q40 q38 rfl _ _ S.swap (by kernel_rfl) (by simp) fun W' S' => ?_; exact ⟨fun _ => hd.2.2.2.2.2.2.1, (acts_none 9 (by kernel_rfl)).symm, S'.swap⟩)
    rintro a' W4 ⟨-, rfl, S9⟩
    subst ha0
    simp only [acts, if_true, Act.put, List.setIfInBounds_toArray, List.set_cons_succ, List.set_cons_zero]
    simp only [cond_true] at S9
    have HS := Lib.hid (HC.out _ _ S9)
    clear S9 S8 HSZ E0 E3 HC
    go_wp2_with fail
    exact hK.out _ _ ⟨rfl, HS.out⟩
theorem tb_resize_not (H : Sat G w (tbA p Z F lim :: l)) (n : Int) (hn : lRight n = false) : Calls Try.prog 27 #[.pointer (some ⟨p, 0, none⟩), .int .i64 n] w fun e w' => e = .returned (.tuple #[.int .i64 0, .int .i64 11]) ∧ Sat G w' (tbA p Z F lim :: l) := by
  refine calls_any fun K hK => ?_
  have hr := dyn_right_not n hn
  have HS := Lib.hid H
  clear hn H
  go_enter Try.func27, Try.ntmps27
  go_wp2_with fail
  (with_reducible refine (hr _).mono ?_)
  clear hr
  rintro e w1 ⟨rfl, rfl⟩
  go_wp2_with fail
  exact hK.out _ _ ⟨rfl, HS.out⟩
set_option maxHeartbeats 1000000 in
theorem tb_resize (H : Sat G w (tbA p Z F lim :: l)) (wf : TWf Z F lim) (n : Int) (hn : lRight n = true) : Calls Try.prog 27 #[.pointer (some ⟨p, 0, none⟩), .int .i64 n] w fun e w' => e = .returned (.tuple #[.int .i64 ((shrF n F).2 : Nat), .int .i64 0]) ∧ ∃ Z', TWf Z' (shrF n F).1 n ∧ Sat G w' (tbA p Z' (shrF n F).1 n :: l) := by
  refine calls_any fun K hK => ?_
  have hr := dyn_right n hn
  obtain ⟨a1, a2⟩ := of_decide_eq_true hn
  obtain ⟨v, S0⟩ := tb_iff.1 H
  have c3 := S0.cell 3
  have f3 := S0.frozen 3
  have S1 : Sat G _ (tbA p Z F n :: l) := tb_iff.2 ⟨v, S0.setCell 3 (.int .i64 n)⟩
  have hl1 := wf.l1
  have hsz := wf.sz
  have hzl := wf.z
  have hfl := wf.len
  have hsh := tb_shrink S1 (by omega) (by omega) (by omega) n _ rfl
  have HT : Hid (∀ Z' : List Fd, Z'.length ≤ (F.drop (shrF n F).2).length → TWf Z' (shrF n F).1 n) := Lib.hid fun Z' hz => by
    refine ⟨a1, a2, shrF_fits a1 F, ?_⟩
    rw [shrF_drop]; exact hz
  have HD : Hid (F.drop (shrF n F).2 = (shrF n F).1) := Lib.hid (shrF_drop n F).symm
  generalize shrF n F = q at *
  clear hn H S0 S1 wf hl1 hsz hzl hfl
  go_enter Try.func27, Try.ntmps27
  go_wp2_with fail
  (with_reducible refine (hr _).mono ?_)
  clear hr
  rintro e w1 ⟨rfl, rfl⟩
  go_wp2_with fail
  (with_reducible refine hsh.mono ?_)
  clear hsh c3 f3
  rintro e w1 ⟨rfl, Z', hz, S2⟩
  rw [HD.out] at S2
  have HS := Lib.hid S2
  have HZ := Lib.hid (HT.out Z' hz)
  clear S2 hz
  go_wp2_with fail
  exact hK.out _ _ ⟨rfl, Z', HZ.out, HS.out⟩
end
end Go.Proofs.Ytkjkekhhhbopcaa
