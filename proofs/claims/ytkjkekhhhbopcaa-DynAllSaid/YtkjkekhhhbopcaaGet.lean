/- Field.Size; Get. -/
import Derived.Test.YtkjkekhhhbopcaaTab
set_option linter.unusedSimpArgs false
set_option linter.unusedVariables false
namespace Go.Proofs.Ytkjkekhhhbopcaa
open Go.RowKit

section
variable {G : Gnd} {w : World} {l : List Asrt} {p : Nat} {Z F : List Fd} {lim : Int}
theorem fd_size (H : Sat G w l) (a b : List UInt8) (h1 : a.length ≤ 1152921504606846976) (h2 : b.length ≤ 1152921504606846976) : Calls Try.prog 14 #[.agg #[.string (bstr a), .string (bstr b)]] w fun e w' => e = .returned (.int .i64 (fsz1 (a, b))) ∧ Sat G w' l := by
  refine calls_any fun K hK => ?_
  have S := H.newBlk #[.string (bstr a), .string (bstr b)] 23
  have z1 := bstr_size a
  have z2 := bstr_size b
  have HS := Lib.hid S
  clear H S
  go_enter Try.func14, Try.ntmps14
  go_wp2_with fail
  have e : ((a.length : Int) + (b.length : Int) + 32) = ((fsz1 (a, b) : Nat) : Int) := by simp [fsz1]
  first
    | exact hK.out _ _ ⟨rfl, HS.out.drop⟩
    | (rw [e]; exact hK.out _ _ ⟨rfl, HS.out.drop⟩)
set_option maxHeartbeats 1000000 in
theorem tb_get_not (H : Sat G w (tbA p Z F lim :: l)) (hz : Z.length ≤ 100000) (hf : F.length ≤ 100000) (i : Int) (h : i < 1 ∨ (F.length : Int) < i) : Calls Try.prog 23 #[.pointer (some ⟨p, 0, none⟩), .int .i64 i] w fun e w' => e = .returned (.tuple #[.agg #[.string { data := #[] }, .string { data := #[] }], .int .i64 23]) ∧ Sat G w' (tbA p Z F lim :: l) := by
  refine calls_any fun K hK => ?_
  have S0 := H.newBlk #[.string { data := #[] }, .string { data := #[] }] 23
  clear H
  by_cases h1 : i < 1
  · have HS := Lib.hid S0
    clear S0 h
    go_enter Try.func23, Try.ntmps23
    go_wp2_with fail
    refine bodyPost_ret (results_cell_t rfl _ _ _ _ _ _ rfl (HS.out).blk_at Try.underlying23 rfl (by kernel_rfl)) rfl ?_
    exact hK.out _ _ ⟨rfl, HS.out.drop⟩
  · have h2 : (F.length : Int) < i := by omega
    have hln := tb_len S0.swap hz hf
    clear S0 h
    go_enter Try.func23, Try.ntmps23
    go_wp2_with fail
    (with_reducible refine hln.mono ?_)
    clear hln
    rintro e w1 ⟨rfl, S1⟩
    have S0 := S1.swap
    have c0 := S0.cell 0
    have c1 := S0.cell 1
    have f0 := S0.frozen 0
    have f1 := S0.frozen 1
    have S2 := (S0.setCell 0 (.string { data := #[] })).setCell 1 (.string { data := #[] })
    have HS := Lib.hid S2
    clear S0 S1 S2
    go_wp2_with fail
    refine bodyPost_ret (results_cell_t rfl _ _ _ _ _ _ rfl (HS.out).blk_at Try.underlying23 rfl (by kernel_rfl)) rfl ?_
    exact hK.out _ _ ⟨rfl, HS.out.drop⟩
set_option maxHeartbeats 4000000 in
set_option maxRecDepth 100000 in
theorem tb_get (H : Sat G w (tbA p Z F lim :: l)) (hz : Z.length ≤ 100000) (hf : F.length ≤ 100000) (i : Nat) (h1 : 1 ≤ i) (h2 : i ≤ F.length) (x : Fd) (hfi : F[F.length - i]? = some x) : Calls Try.prog 23 #[.pointer (some ⟨p, 0, none⟩), .int .i64 i] w fun e w' => e = .returned (.tuple #[.agg #[.string (bstr x.1), .string (bstr x.2)], .int .i64 0]) ∧ Sat G w' (tbA p Z F lim :: l) := by
  refine calls_any fun K hK => ?_
  have S0 := H.newBlk #[.string { data := #[] }, .string { data := #[] }] 23
  clear H
  have hln := tb_len S0.swap hz hf
  clear S0
  have q1 : ¬ ((i : Int) < 1) := by omega
  have q2 : ¬ ((F.length : Int) < (i : Int)) := by omega
  go_enter Try.func23, Try.ntmps23
  go_wp2_with fail
  (with_reducible refine hln.mono ?_)
  clear hln
  rintro e w1 ⟨rfl, S1⟩
  go_upto_region 3 with fail
  generalize w.heap.size = r at *
  obtain ⟨v, S2⟩ := tb_iff.1 S1
  obtain ⟨g, cap, cur, rfl, hcap, Li, S3⟩ := Sat.layOpen (S2.re [1, 0]) fd_len (by simp; omega)
  obtain ⟨N, hN⟩ : ∃ N, N = (Z ++ F).length := ⟨_, rfl⟩
  have hN2 : N = Z.length + F.length := by rw [hN]; simp
  rw [← hN] at S3
  have hx : (Z ++ F)[N - i]? = some x := by
    rw [List.getElem?_append_right (by omega), ← hfi]
    congr 1
    omega
  have HX0 := Lib.hid (Li.get hx (j := 0) (by decide))
  have HX1 := Lib.hid (Li.get hx (j := 1) (by decide))
  have HLI := Lib.hid Li
  have HN := Lib.hid hN
  have hlc := Li.len
  rw [← hN] at hlc
  have hc3 : cap ≤ 9223372036854775807 := hcap
  have hwr : IntKind.i64.wrap ((N : Int) - (i : Int)) = ((N - i : Nat) : Int) := by rw [IntWalk.i64_in _ (by omega)]; omega
  have HWR := Lib.hid hwr
  have HLT : Hid (N - i < N) := Lib.hid (by omega)
  clear S1 S2 hwr hN hN2 Li hx hfi q2
  refine wp_act fun a0 ha0 => ?_
  have HSZ : a0.tmps.size = 28 := by rw [ha0]; rfl
  have E0 : a0.eval (.tmp 0) = .pointer (some ⟨p, 0, none⟩) := by rw [ha0]; rfl
  have E1 : a0.eval (.tmp 1) = .int .i64 i := by rw [ha0]; rfl
  have E4 : a0.eval (.tmp 4) = .pointer (some ⟨r, 0, none⟩) := by rw [ha0]; rfl
  refine wp_region_J (by kernel_rfl) 15 (by kernel_rfl) [[], [0], [1], [2], [], [4], [5], [6], [7], [], [8, 9], [3, 10], [11], [12, 0, 1, 2, 3, 4, 5, 6, 7, 8, 9, 10, 11, 12], [13, 0, 1, 2, 3, 4, 5, 6, 7, 8, 9, 10, 11, 12, 13]] (by kernel_rfl) (by kernel_rfl) (fun f a' W => a' = acts [(0, 15, .pointer (some ⟨p, 0, none⟩)), (1, 16, .pointer (some ⟨p, 0, none⟩)), (2, 17, .pointer (some ⟨p, 0, none⟩)), (3, 18, .slice (some ⟨g, 0, none⟩) N cap), (4, 19, .pointer (some ⟨p, 0, none⟩)), (5, 20, .pointer (some ⟨p, 0, none⟩)), (6, 21, .pointer (some ⟨p, 0, none⟩)), (7, 22, .slice (some ⟨g, 0, none⟩) N cap), (8, 23, .int .i64 N), (9, 24, .int .i64 i), (10, 25, .int .i64 (N - i : Nat)), (11, 26, .pointer (some ⟨g, (N - i) * 2, none⟩)), (12, 27, .agg #[.string (bstr x.1), .string (bstr x.2)]), (14, 5, .int .i64 0)] f a0 ∧ Sat G W (blk r (cond (f 13) #[.string (bstr x.1), .string (bstr x.2)] #[.string { data := #[] }, .string { data := #[] }]) 23 :: blk p #[.slice (some ⟨g, 0, none⟩) N cap, .int .i64 Z.length, .int .i64 (fsz F), .int .i64 lim] 60 :: blk g cur 23 :: l)) ?_ ?_ ?_
  · exact ⟨rfl, (S3.re [2, 1, 0]).drew⟩
  · refine ⟨?_, ?_, ?_, ?_, ?_, ?_, ?_, ?_, ?_, ?_, ?_, ?_, ?_, ?_, ?_, trivial⟩
    · rintro f a' W h0 hd ⟨rfl, S⟩
      refine wpOp_run (v := .pointer (some ⟨p, 0, none⟩)) rfl rfl (fun ρ hρ => ?_) ⟨(acts_some 0 rfl (by kernel_rfl) (by kernel_rfl)).symm, S⟩
      have e0 : ρ (.tmp 0) = .pointer (some ⟨p, 0, none⟩) := by rw [hρ]; exact (acts_eval_tmp 0 (by kernel_rfl)).trans E0
      clear hρ
      go_simp
    · rintro f a' W h1 hd ⟨rfl, S⟩
      refine wpOp_run (v := .pointer (some ⟨p, 0, none⟩)) rfl rfl (fun ρ hρ => ?_) ⟨(acts_some 1 rfl (by kernel_rfl) (by kernel_rfl)).symm, S⟩
      have e0 : ρ (.tmp 15) = .pointer (some ⟨p, 0, none⟩) := by rw [hρ]; exact acts_eval_hit 0 rfl hd.1 (by rw [HSZ]; rfl) (by kernel_rfl)
      clear hρ
      go_simp
    · rintro f a' W h2 hd ⟨rfl, S⟩
      refine wpOp_run (v := .pointer (some ⟨p, 0, none⟩)) rfl rfl (fun ρ hρ => ?_) ⟨(acts_some 2 rfl (by kernel_rfl) (by kernel_rfl)).symm, S⟩
      have e0 : ρ (.tmp 16) = .pointer (some ⟨p, 0, none⟩) := by rw [hρ]; exact acts_eval_hit 1 rfl hd.1 (by rw [HSZ]; rfl) (by kernel_rfl)
      clear hρ
      go_simp
    · rintro f a' W h3 hd ⟨rfl, S⟩
      refine wpOp_run (v := .slice (some ⟨g, 0, none⟩) N cap) rfl rfl (fun ρ hρ => ?_) ⟨(acts_some 3 rfl (by kernel_rfl) (by kernel_rfl)).symm, S⟩
      have e0 : ρ (.tmp 17) = .pointer (some ⟨p, 0, none⟩) := by rw [hρ]; exact acts_eval_hit 2 rfl hd.1 (by rw [HSZ]; rfl) (by kernel_rfl)
      clear hρ
      (have hz := S.swap.cell 0)
      go_simp
    · rintro f a' W h4 hd ⟨rfl, S⟩
      refine wpOp_run (v := .pointer (some ⟨p, 0, none⟩)) rfl rfl (fun ρ hρ => ?_) ⟨(acts_some 4 rfl (by kernel_rfl) (by kernel_rfl)).symm, S⟩
      have e0 : ρ (.tmp 0) = .pointer (some ⟨p, 0, none⟩) := by rw [hρ]; exact (acts_eval_tmp 0 (by kernel_rfl)).trans E0
      clear hρ
      go_simp
    · rintro f a' W h5 hd ⟨rfl, S⟩
      refine wpOp_run (v := .pointer (some ⟨p, 0, none⟩)) rfl rfl (fun ρ hρ => ?_) ⟨(acts_some 5 rfl (by kernel_rfl) (by kernel_rfl)).symm, S⟩
      have e0 : ρ (.tmp 19) = .pointer (some ⟨p, 0, none⟩) := by rw [hρ]; exact acts_eval_hit 4 rfl hd.1 (by rw [HSZ]; rfl) (by kernel_rfl)
      clear hρ
      go_simp
    · rintro f a' W h6 hd ⟨rfl, S⟩
      refine wpOp_run (v := .pointer (some ⟨p, 0, none⟩)) rfl rfl (fun ρ hρ => ?_) ⟨(acts_some 6 rfl (by kernel_rfl) (by kernel_rfl)).symm, S⟩
      have e0 : ρ (.tmp 20) = .pointer (some ⟨p, 0, none⟩) := by rw [hρ]; exact acts_eval_hit 5 rfl hd.1 (by rw [HSZ]; rfl) (by kernel_rfl)
      clear hρ
      go_simp
    · rintro f a' W h7 hd ⟨rfl, S⟩
      refine wpOp_run (v := .slice (some ⟨g, 0, none⟩) N cap) rfl rfl (fun ρ hρ => ?_) ⟨(acts_some 7 rfl (by kernel_rfl) (by kernel_rfl)).symm, S⟩
      have e0 : ρ (.tmp 21) = .pointer (some ⟨p, 0, none⟩) := by rw [hρ]; exact acts_eval_hit 6 rfl hd.1 (by rw [HSZ]; rfl) (by kernel_rfl)
      clear hρ
      (have hz := S.swap.cell 0)
      go_simp
    · rintro f a' W h8 hd ⟨rfl, S⟩
      refine wpOp_run (v := .int .i64 N) rfl rfl (fun ρ hρ => ?_) ⟨(acts_some 8 rfl (by kernel_rfl) (by kernel_rfl)).symm, S⟩
      have e0 : ρ (.tmp 22) = .slice (some ⟨g, 0, none⟩) N cap := by rw [hρ]; exact acts_eval_hit 7 rfl hd.1 (by rw [HSZ]; rfl) (by kernel_rfl)
      clear hρ
      go_simp
    · rintro f a' W h9 hd ⟨rfl, S⟩
      refine wpOp_run (v := .int .i64 i) rfl rfl (fun ρ hρ => ?_) ⟨(acts_some 9 rfl (by kernel_rfl) (by kernel_rfl)).symm, S⟩
      have e0 : ρ (.tmp 1) = .int .i64 i := by rw [hρ]; exact (acts_eval_tmp 1 (by kernel_rfl)).trans E1
      clear hρ
      go_simp
    · rintro f a' W h10 hd ⟨rfl, S⟩
      refine wpOp_run (v := .int .i64 (N - i : Nat)) rfl rfl (fun ρ hρ => ?_) ⟨(acts_some 10 rfl (by kernel_rfl) (by kernel_rfl)).symm, S⟩
      have e0 : ρ (.tmp 23) = .int .i64 N := by rw [hρ]; exact acts_eval_hit 8 rfl hd.1 (by rw [HSZ]; rfl) (by kernel_rfl)
      have e1 : ρ (.tmp 24) = .int .i64 i := by rw [hρ]; exact acts_eval_hit 9 rfl hd.2.1 (by rw [HSZ]; rfl) (by kernel_rfl)
      clear hρ
      (have hz := HWR.out)
      go_simp
    · rintro f a' W h11 hd ⟨rfl, S⟩
      refine wpOp_run (v := .pointer (some ⟨g, (N - i) * 2, none⟩)) rfl rfl (fun ρ hρ => ?_) ⟨(acts_some 11 rfl (by kernel_rfl) (by kernel_rfl)).symm, S⟩
      have e0 : ρ (.tmp 18) = .slice (some ⟨g, 0, none⟩) N cap := by rw [hρ]; exact acts_eval_hit 3 rfl hd.1 (by rw [HSZ]; rfl) (by kernel_rfl)
      have e1 : ρ (.tmp 25) = .int .i64 (N - i : Nat) := by rw [hρ]; exact acts_eval_hit 10 rfl hd.2.1 (by rw [HSZ]; rfl) (by kernel_rfl)
      clear hρ
      (have hz := HLT.out; generalize N - i = j at *; have hz2 : (j : Int) < N := (by omega))
      go_simp
    · rintro f a' W h12 hd ⟨rfl, S⟩
      refine wpOp_run (v := .agg #[.string (bstr x.1), .string (bstr x.2)]) rfl rfl (fun ρ hρ => ?_) ⟨(acts_some 12 rfl (by kernel_rfl) (by kernel_rfl)).symm, S⟩
      have e0 : ρ (.tmp 26) = .pointer (some ⟨g, (N - i) * 2, none⟩) := by rw [hρ]; exact acts_eval_hit 11 rfl hd.1 (by rw [HSZ]; rfl) (by kernel_rfl)
      clear hρ
      (have hz0 := (S.pull2.cell ((N - i) * 2)).trans HX0.out; have hz1 := (S.pull2.cell ((N - i) * 2 + 1)).trans HX1.out; generalize (N - i) * 2 = jj at *; simp only [fenc, List.getElem?_cons_zero, List.getElem?_cons_succ] at hz0 hz1)
      go_simp
    · rintro f a' W h13 hd ⟨rfl, S⟩
      rw [h13] at S
      refine wpOp_list rfl ?_
      refine st_store rfl _ _ _ rfl _ _ ((acts_eval_tmp 4 (by kernel_rfl)).trans E4) (acts_eval_hit 12 rfl hd.1 (by rw [HSZ]; rfl) (by kernel_rfl)) _ _ (S) rfl rfl (by simp [Value.oneCell']) fun W' S' => ?_
      exact ⟨(acts_none 13 (by kernel_rfl)).symm, S'⟩
    · rintro f a' W h14 hd ⟨rfl, S⟩
      refine wpOp_run (v := .int .i64 0) rfl rfl (fun ρ hρ => ?_) ⟨(acts_some 13 rfl (by kernel_rfl) (by kernel_rfl)).symm, S⟩
      have ec : ∀ v, ρ (.const v) = v := by rw [hρ]; exact fun _ => rfl
      clear hρ
      go_simp
  rintro a' W ⟨rfl, S5⟩
  subst ha0
  simp only [acts, if_true, Act.put, List.setIfInBounds_toArray, List.set_cons_succ, List.set_cons_zero]
  have S6 := (S5.re [2, 1, 0]).layClose HLI.out hcap N HN.out
  have HS : Hid (Sat G W (blk r #[.string (bstr x.1), .string (bstr x.2)] 23 :: tbA p Z F lim :: l)) := Lib.hid (Sat.swap (tb_iff.2 ⟨_, (S6.re [1, 0, 2]).re [0, 1, 2]⟩))
  clear S5 S6 S3 HSZ E0 E1 E4
  go_wp2_with fail
  refine bodyPost_ret (results_cell_t rfl _ _ _ _ _ _ rfl (HS.out).blk_at Try.underlying23 rfl (by kernel_rfl)) rfl ?_
  exact hK.out _ _ ⟨rfl, HS.out.drop⟩
end
end Go.Proofs.Ytkjkekhhhbopcaa
