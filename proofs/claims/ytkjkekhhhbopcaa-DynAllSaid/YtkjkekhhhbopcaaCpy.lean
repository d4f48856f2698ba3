/- Copy: the walk. -/
import Derived.Test.YtkjkekhhhbopcaaRfd
set_option linter.unusedSimpArgs false
set_option linter.unusedVariables false
namespace Go.Proofs.Ytkjkekhhhbopcaa
open Go.RowKit

section
variable {G : Gnd} {w : World} {l : List Asrt} {p : Nat} {Z F : List Fd} {lim : Int}
theorem fd_clone_nil (H : Sat G w l) : Calls Try.prog 30 #[.slice none 0 0] w fun e w' => e = .returned (.slice none 0 0) ∧ Sat G w' l := by
  refine calls_any fun K hK => ?_
  have hnil := fslice_is_nil none 0 0 w
  have HS := Lib.hid H
  clear H
  go_enter Try.func30, Try.ntmps30
  go_wp2_with fail
  exact hK.out _ _ ⟨rfl, HS.out⟩
/-- slices.Clone of a slice of fields. -/
theorem fd_cloneX {X : Option Addr} {n c : Nat} (H : Sat G w l) (hX : X = none ∨ ∃ g o, X = some ⟨g, o, none⟩) (hv : RF w.cell? (.slice X n c) F) (h1 : n ≤ 100000) :
    Calls Try.prog 30 #[.slice X n c] w fun e w' => ∃ A c', e = .returned (.slice A n c') ∧ Sat G w' (ownS 23 2 (.slice A n c') n (encs fenc F) :: l) := by
  obtain ⟨A', c', e, h2, h3, h4, hel⟩ := hv
  obtain ⟨rfl, rfl, rfl⟩ := Value.slice.inj e
  rcases hX with rfl | ⟨g, o, rfl⟩
  · obtain rfl := h4 rfl
    have hF : F = [] := List.eq_nil_of_length_eq_zero (by omega)
    subst hF
    refine (fd_clone_nil H).mono ?_
    rintro e w1 ⟨rfl, S⟩
    exact ⟨none, 0, rfl, S.ownNil _ _⟩
  · refine fd_clone (c := c) H rfl h1 fun k u hk => ?_
    have hjl := (List.getElem?_eq_some_iff.1 hk).1
    rw [encs_length fd_len] at hjl
    have hq : k / 2 < F.length := by omega
    have hx := List.getElem?_eq_getElem hq
    obtain ⟨g', o', e, hc⟩ := hel (k / 2) _ hx
    cases e
    have h0 := encs_get fd_len F (k / 2) _ hx (k % 2) (Nat.mod_lt _ (by decide))
    have ej : k / 2 * 2 + k % 2 = k := by omega
    rw [ej] at h0
    have := hc (k % 2) u (h0.symm.trans hk)
    rw [← this, show o + k / 2 * 2 + k % 2 = o + k by omega]
def HC3 (f : Nat → Bool) : Prop := (f 18 = true → f 9 = true) ∧ (f 19 = true → f 18 = true) ∧ (f 20 = true → f 19 = true)
set_option maxHeartbeats 8000000 in
set_option maxRecDepth 100000 in
theorem tb_copy (H : Sat G w (tbA p Z F lim :: l)) (hz : Z.length ≤ 10000) (hf : F.length ≤ 10000) : Calls Try.prog 18 #[.pointer (some ⟨p, 0, none⟩)] w fun e w' => ∃ q, e = .returned (.pointer (some ⟨q, 0, none⟩)) ∧ Sat G w' (tbA q [] F lim :: tbA p Z F lim :: l) := by
  refine calls_any fun K hK => ?_
  obtain ⟨v, S1⟩ := tb_iff.1 H
  clear H
  have hnn : v = .slice none 0 0 ∨ ∃ g n c, v = .slice (some ⟨g, 0, none⟩) n c := by
    obtain ⟨_, ⟨h, _⟩ | ⟨g, cap, cur, h, _⟩⟩ := own_iff.1 S1.swap
    · exact .inl h
    · exact .inr ⟨g, _, cap, h⟩
  obtain ⟨A, c, rfl, hnc, hcm, -⟩ := S1.swap.ownSlice
  have hA : A = none ∨ ∃ g, A = some ⟨g, 0, none⟩ := by
    rcases hnn with h | ⟨g, n, c', h⟩
    · exact .inl (Value.slice.inj h).1
    · exact .inr ⟨g, (Value.slice.inj h).1⟩
  obtain ⟨N, hN⟩ : ∃ N, N = (Z ++ F).length := ⟨_, rfl⟩
  have hN2 : N = Z.length + F.length := by rw [hN]; simp
  rw [← hN] at S1 hnc
  obtain ⟨z, hz0⟩ : ∃ z, z = Z.length := ⟨_, rfl⟩
  rw [← hz0] at S1 hz hN2
  obtain ⟨X, hX⟩ : ∃ X, X = (if c = z then A else A.map (·.add (z * 2))) := ⟨_, rfl⟩
  have hXX : X = none ∨ ∃ g o, X = some ⟨g, o, none⟩ := by
    rw [hX]
    rcases hA with rfl | ⟨g, rfl⟩
    · left; split <;> rfl
    · right; split
      · exact ⟨g, 0, rfl⟩
      · exact ⟨g, 0 + z * 2, by simp [Addr.add]; intro h; omega⟩
  obtain ⟨nl, hnl⟩ : ∃ nl, nl = N - z := ⟨_, rfl⟩
  have hnf : nl = F.length := by omega
  have HRF : Hid (∀ W l, Sat G W (blk p #[.slice A N c, .int .i64 z, .int .i64 (fsz F), .int .i64 lim] 60 :: ownS 23 2 (.slice A N c) N (encs fenc (Z ++ F)) :: l) → RF W.cell? (.slice X nl (c - z)) F) := Lib.hid fun W l S => by
    have h1 : RF W.cell? (.slice A N c) (Z ++ F) := own_rf hN (Sat.swap S)
    have h2 := h1.from (k := z) (by omega)
    rw [hz0, List.drop_left' rfl, ← hz0, ← hX, ← hnl] at h2
    exact h2
  have HCL : Hid (∀ (W : World) (q : Nat) (A2 : Option Addr) (c2 : Nat), Sat G W (blk q #[.slice A2 nl c2, .int .i64 0, .int .i64 (fsz F), .int .i64 lim] 60 :: ownS 23 2 (.slice A2 nl c2) nl (encs fenc F) :: blk p #[.slice A N c, .int .i64 z, .int .i64 (fsz F), .int .i64 lim] 60 :: ownS 23 2 (.slice A N c) N (encs fenc (Z ++ F)) :: l) → Sat G W (tbA q [] F lim :: tbA p Z F lim :: l)) := Lib.hid fun W q A2 c2 S => by
    rw [hnf] at S
    have S2 : Sat G W (tbA q [] F lim :: blk p #[.slice A N c, .int .i64 z, .int .i64 (fsz F), .int .i64 lim] 60 :: ownS 23 2 (.slice A N c) N (encs fenc (Z ++ F)) :: l) := tb_iff.2 ⟨_, S⟩
    have S3 := S2.re [1, 2, 0]
    rw [hz0, hN] at S3
    exact Sat.swap (tb_iff.2 ⟨_, S3⟩)
  have HX := Lib.hid hX
  have HXX := Lib.hid hXX
  have HNL := Lib.hid hnl
  have HNB : Hid (nl ≤ 100000) := Lib.hid (by omega)
  have HLE := Lib.hid (And.intro (show z ≤ N by omega) (And.intro (show (z : Int) ≤ (N : Int) by omega) (And.intro hnc (show (N : Int) ≤ (c : Int) by omega))))
  obtain ⟨E2, hE2⟩ : ∃ E2, E2 = encs fenc F := ⟨_, rfl⟩
  rw [← hE2] at HCL
  have HE2 := Lib.hid hE2
  generalize fsz F = s at *
  generalize encs fenc (Z ++ F) = E at *
  clear hN hN2 hz0 hX hnl hnc hXX hnf hA hnn hE2
  have hcm2 : c ≤ 9223372036854775807 := hcm
  go_enter Try.func18, Try.ntmps18
  go_upto_region 1 with fail
  refine wp_act fun a0 ha0 => ?_
  have HSZ : a0.tmps.size = 23 := by rw [ha0]; rfl
  have E0 : a0.eval (.tmp 0) = .pointer (some ⟨p, 0, none⟩) := by rw [ha0]; rfl
  refine wp_region_J (by kernel_rfl) 21 (by kernel_rfl) [[], [0], [1], [2], [], [4], [5], [6], [3, 7], [8], [], [10], [11], [12], [], [14], [15], [16], [9, 13, 17], [18], [19, 9, 0, 1, 2, 3, 4, 5, 6, 7, 8, 9, 10, 11, 12, 13, 14, 15, 16, 17, 18, 19]] (by kernel_rfl) (by kernel_rfl) (fun f a' W => ∃ q X2 cu, HC3 f ∧ a' = acts [(0, 3, .pointer (some ⟨p, 0, none⟩)), (1, 4, .pointer (some ⟨p, 0, none⟩)), (2, 5, .pointer (some ⟨p, 0, none⟩)), (3, 6, .slice A N c), (4, 7, .pointer (some ⟨p, 0, none⟩)), (5, 8, .pointer (some ⟨p, 0, none⟩)), (6, 9, .pointer (some ⟨p, 1, none⟩)), (7, 10, .int .i64 z), (8, 11, .slice X nl (c - z)), (9, 12, .slice X2 nl cu), (10, 13, .pointer (some ⟨p, 0, none⟩)), (11, 14, .pointer (some ⟨p, 0, none⟩)), (12, 15, .pointer (some ⟨p, 2, none⟩)), (13, 16, .int .i64 s), (14, 17, .pointer (some ⟨p, 0, none⟩)), (15, 18, .pointer (some ⟨p, 0, none⟩)), (16, 19, .pointer (some ⟨p, 3, none⟩)), (17, 20, .int .i64 lim), (18, 21, .agg #[.slice X2 nl cu, .int .i64 0, .int .i64 s, .int .i64 lim]), (19, 22, .pointer (some ⟨q, 0, none⟩)), (20, 2, .pointer (some ⟨q, 0, none⟩))] f a0 ∧ Sat G W (opt (f 19) (blk q #[.slice X2 nl cu, .int .i64 0, .int .i64 s, .int .i64 lim] 60) :: opt (f 9) (ownS 23 2 (.slice X2 nl cu) nl E2) :: blk p #[.slice A N c, .int .i64 z, .int .i64 s, .int .i64 lim] 60 :: ownS 23 2 (.slice A N c) N E :: l)) ?_ ?_ ?_
  · exact ⟨0, none, 0, (by unfold HC3; decide), rfl, S1.drew.opt0.opt0⟩
  · refine ⟨?_, ?_, ?_, ?_, ?_, ?_, ?_, ?_, ?_, ?_, ?_, ?_, ?_, ?_, ?_, ?_, ?_, ?_, ?_, ?_, ?_, trivial⟩
    · rintro f a' W h0 hd ⟨q, X2, cu, hh, rfl, S⟩
      refine wpOp_run (v := .pointer (some ⟨p, 0, none⟩)) rfl rfl (fun ρ hρ => ?_) ⟨q, X2, cu, hh, (acts_some 0 rfl (by kernel_rfl) (by kernel_rfl)).symm, S⟩
      have e0 : ρ (.tmp 0) = .pointer (some ⟨p, 0, none⟩) := by rw [hρ]; exact (acts_eval_tmp 0 (by kernel_rfl)).trans E0
      clear hρ
      go_simp
    · rintro f a' W h1 hd ⟨q, X2, cu, hh, rfl, S⟩
      refine wpOp_run (v := .pointer (some ⟨p, 0, none⟩)) rfl rfl (fun ρ hρ => ?_) ⟨q, X2, cu, hh, (acts_some 1 rfl (by kernel_rfl) (by kernel_rfl)).symm, S⟩
      have e0 : ρ (.tmp 3) = .pointer (some ⟨p, 0, none⟩) := by rw [hρ]; exact acts_eval_hit 0 rfl hd.1 (by rw [HSZ]; rfl) (by kernel_rfl)
      clear hρ
      go_simp
    · rintro f a' W h2 hd ⟨q, X2, cu, hh, rfl, S⟩
      refine wpOp_run (v := .pointer (some ⟨p, 0, none⟩)) rfl rfl (fun ρ hρ => ?_) ⟨q, X2, cu, hh, (acts_some 2 rfl (by kernel_rfl) (by kernel_rfl)).symm, S⟩
      have e0 : ρ (.tmp 4) = .pointer (some ⟨p, 0, none⟩) := by rw [hρ]; exact acts_eval_hit 1 rfl hd.1 (by rw [HSZ]; rfl) (by kernel_rfl)
      clear hρ
      go_simp
    · rintro f a' W h3 hd ⟨q, X2, cu, hh, rfl, S⟩
      refine wpOp_run (v := .slice A N c) rfl rfl (fun ρ hρ => ?_) ⟨q, X2, cu, hh, (acts_some 3 rfl (by kernel_rfl) (by kernel_rfl)).symm, S⟩
      have e0 : ρ (.tmp 5) = .pointer (some ⟨p, 0, none⟩) := by rw [hρ]; exact acts_eval_hit 2 rfl hd.1 (by rw [HSZ]; rfl) (by kernel_rfl)
      clear hρ
      (have hcl : W.cell? ⟨p, 0, none⟩ = some (.slice A N c) := S.pull2.cell 0)
      go_simp
    · rintro f a' W h4 hd ⟨q, X2, cu, hh, rfl, S⟩
      refine wpOp_run (v := .pointer (some ⟨p, 0, none⟩)) rfl rfl (fun ρ hρ => ?_) ⟨q, X2, cu, hh, (acts_some 4 rfl (by kernel_rfl) (by kernel_rfl)).symm, S⟩
      have e0 : ρ (.tmp 0) = .pointer (some ⟨p, 0, none⟩) := by rw [hρ]; exact (acts_eval_tmp 0 (by kernel_rfl)).trans E0
      clear hρ
      go_simp
    · rintro f a' W h5 hd ⟨q, X2, cu, hh, rfl, S⟩
      refine wpOp_run (v := .pointer (some ⟨p, 0, none⟩)) rfl rfl (fun ρ hρ => ?_) ⟨q, X2, cu, hh, (acts_some 5 rfl (by kernel_rfl) (by kernel_rfl)).symm, S⟩
      have e0 : ρ (.tmp 7) = .pointer (some ⟨p, 0, none⟩) := by rw [hρ]; exact acts_eval_hit 4 rfl hd.1 (by rw [HSZ]; rfl) (by kernel_rfl)
      clear hρ
      go_simp
    · rintro f a' W h6 hd ⟨q, X2, cu, hh, rfl, S⟩
      refine wpOp_run (v := .pointer (some ⟨p, 1, none⟩)) rfl rfl (fun ρ hρ => ?_) ⟨q, X2, cu, hh, (acts_some 6 rfl (by kernel_rfl) (by kernel_rfl)).symm, S⟩
      have e0 : ρ (.tmp 8) = .pointer (some ⟨p, 0, none⟩) := by rw [hρ]; exact acts_eval_hit 5 rfl hd.1 (by rw [HSZ]; rfl) (by kernel_rfl)
      clear hρ
      go_simp
    · rintro f a' W h7 hd ⟨q, X2, cu, hh, rfl, S⟩
      refine wpOp_run (v := .int .i64 z) rfl rfl (fun ρ hρ => ?_) ⟨q, X2, cu, hh, (acts_some 7 rfl (by kernel_rfl) (by kernel_rfl)).symm, S⟩
      have e0 : ρ (.tmp 9) = .pointer (some ⟨p, 1, none⟩) := by rw [hρ]; exact acts_eval_hit 6 rfl hd.1 (by rw [HSZ]; rfl) (by kernel_rfl)
      clear hρ
      (have hcl : W.cell? ⟨p, 1, none⟩ = some (.int .i64 z) := S.pull2.cell 1)
      go_simp
    · rintro f a' W h8 hd ⟨q, X2, cu, hh, rfl, S⟩
      refine wpOp_run (v := .slice X nl (c - z)) rfl rfl (fun ρ hρ => ?_) ⟨q, X2, cu, hh, (acts_some 8 rfl (by kernel_rfl) (by kernel_rfl)).symm, S⟩
      have e0 : ρ (.tmp 6) = .slice A N c := by rw [hρ]; exact acts_eval_hit 3 rfl hd.1 (by rw [HSZ]; rfl) (by kernel_rfl)
      have e1 : ρ (.tmp 10) = .int .i64 z := by rw [hρ]; exact acts_eval_hit 7 rfl hd.2.1 (by rw [HSZ]; rfl) (by kernel_rfl)
      clear hρ
      (have hle1 := HLE.out.1; have hle2 := HLE.out.2.1; have hle3 := HLE.out.2.2.1; have hle4 := HLE.out.2.2.2; rw [HNL.out, HX.out])
      go_simp
    · rintro f a' W h9 hd ⟨q, X2, cu, hh, rfl, S⟩
      refine wpOp_call rfl rfl (fun ρ hρ => ?_) (fd_cloneX S HXX.out (HRF.out W _ (S.re [2, 3, 0, 1])) HNB.out) ?_
      · skip
        have e0 : ρ (.tmp 11) = .slice X nl (c - z) := by rw [hρ]; exact acts_eval_hit 8 rfl hd.1 (by rw [HSZ]; rfl) (by kernel_rfl)
        have ef : ρ (.func 30) = .func (.func 30) #[] #[] := by rw [hρ]; rfl
        clear hρ
        go_simp
      · (rintro e W' ⟨A3, c3, rfl, S'⟩; rw [← HE2.out] at S'; have z18 := no_of hh.1 h9; have z19 := no_of hh.2.1 z18; refine ⟨_, rfl, q, A3, c3, ⟨fun _ => rfl, hh.2⟩, acts_swap (by simp only [acts, h9, z18, Bool.false_eq_true, if_false]) (k := 9) rfl (by kernel_rfl) (by kernel_rfl), ?_⟩; show Sat G W' (opt (f 19) _ :: _); rw [z19]; exact (opt_iff.2 S'.drop2.drop2).opt0)
    · rintro f a' W h10 hd ⟨q, X2, cu, hh, rfl, S⟩
      refine wpOp_run (v := .pointer (some ⟨p, 0, none⟩)) rfl rfl (fun ρ hρ => ?_) ⟨q, X2, cu, hh, (acts_some 10 rfl (by kernel_rfl) (by kernel_rfl)).symm, S⟩
      have e0 : ρ (.tmp 0) = .pointer (some ⟨p, 0, none⟩) := by rw [hρ]; exact (acts_eval_tmp 0 (by kernel_rfl)).trans E0
      clear hρ
      go_simp
    · rintro f a' W h11 hd ⟨q, X2, cu, hh, rfl, S⟩
      refine wpOp_run (v := .pointer (some ⟨p, 0, none⟩)) rfl rfl (fun ρ hρ => ?_) ⟨q, X2, cu, hh, (acts_some 11 rfl (by kernel_rfl) (by kernel_rfl)).symm, S⟩
      have e0 : ρ (.tmp 13) = .pointer (some ⟨p, 0, none⟩) := by rw [hρ]; exact acts_eval_hit 10 rfl hd.1 (by rw [HSZ]; rfl) (by kernel_rfl)
      clear hρ
      go_simp
    · rintro f a' W h12 hd ⟨q, X2, cu, hh, rfl, S⟩
      refine wpOp_run (v := .pointer (some ⟨p, 2, none⟩)) rfl rfl (fun ρ hρ => ?_) ⟨q, X2, cu, hh, (acts_some 12 rfl (by kernel_rfl) (by kernel_rfl)).symm, S⟩
      have e0 : ρ (.tmp 14) = .pointer (some ⟨p, 0, none⟩) := by rw [hρ]; exact acts_eval_hit 11 rfl hd.1 (by rw [HSZ]; rfl) (by kernel_rfl)
      clear hρ
      go_simp
    · rintro f a' W h13 hd ⟨q, X2, cu, hh, rfl, S⟩
      refine wpOp_run (v := .int .i64 s) rfl rfl (fun ρ hρ => ?_) ⟨q, X2, cu, hh, (acts_some 13 rfl (by kernel_rfl) (by kernel_rfl)).symm, S⟩
      have e0 : ρ (.tmp 15) = .pointer (some ⟨p, 2, none⟩) := by rw [hρ]; exact acts_eval_hit 12 rfl hd.1 (by rw [HSZ]; rfl) (by kernel_rfl)
      clear hρ
      (have hcl : W.cell? ⟨p, 2, none⟩ = some (.int .i64 s) := S.pull2.cell 2)
      go_simp
    · rintro f a' W h14 hd ⟨q, X2, cu, hh, rfl, S⟩
      refine wpOp_run (v := .pointer (some ⟨p, 0, none⟩)) rfl rfl (fun ρ hρ => ?_) ⟨q, X2, cu, hh, (acts_some 14 rfl (by kernel_rfl) (by kernel_rfl)).symm, S⟩
      have e0 : ρ (.tmp 0) = .pointer (some ⟨p, 0, none⟩) := by rw [hρ]; exact (acts_eval_tmp 0 (by kernel_rfl)).trans E0
      clear hρ
      go_simp
    · rintro f a' W h15 hd ⟨q, X2, cu, hh, rfl, S⟩
      refine wpOp_run (v := .pointer (some ⟨p, 0, none⟩)) rfl rfl (fun ρ hρ => ?_) ⟨q, X2, cu, hh, (acts_some 15 rfl (by kernel_rfl) (by kernel_rfl)).symm, S⟩
      have e0 : ρ (.tmp 17) = .pointer (some ⟨p, 0, none⟩) := by rw [hρ]; exact acts_eval_hit 14 rfl hd.1 (by rw [HSZ]; rfl) (by kernel_rfl)
      clear hρ
      go_simp
    · rintro f a' W h16 hd ⟨q, X2, cu, hh, rfl, S⟩
      refine wpOp_run (v := .pointer (some ⟨p, 3, none⟩)) rfl rfl (fun ρ hρ => ?_) ⟨q, X2, cu, hh, (acts_some 16 rfl (by kernel_rfl) (by kernel_rfl)).symm, S⟩
      have e0 : ρ (.tmp 18) = .pointer (some ⟨p, 0, none⟩) := by rw [hρ]; exact acts_eval_hit 15 rfl hd.1 (by rw [HSZ]; rfl) (by kernel_rfl)
      clear hρ
      go_simp
    · rintro f a' W h17 hd ⟨q, X2, cu, hh, rfl, S⟩
      refine wpOp_run (v := .int .i64 lim) rfl rfl (fun ρ hρ => ?_) ⟨q, X2, cu, hh, (acts_some 17 rfl (by kernel_rfl) (by kernel_rfl)).symm, S⟩
      have e0 : ρ (.tmp 19) = .pointer (some ⟨p, 3, none⟩) := by rw [hρ]; exact acts_eval_hit 16 rfl hd.1 (by rw [HSZ]; rfl) (by kernel_rfl)
      clear hρ
      (have hcl : W.cell? ⟨p, 3, none⟩ = some (.int .i64 lim) := S.pull2.cell 3)
      go_simp
    · rintro f a' W h18 hd ⟨q, X2, cu, hh, rfl, S⟩
      refine wpOp_run (v := .agg #[.slice X2 nl cu, .int .i64 0, .int .i64 s, .int .i64 lim]) rfl rfl (fun ρ hρ => ?_) ⟨q, X2, cu, ⟨fun _ => hd.1, fun _ => rfl, hh.2.2⟩, (acts_some 18 rfl (by kernel_rfl) (by kernel_rfl)).symm, S⟩
      have e0 : ρ (.tmp 12) = .slice X2 nl cu := by rw [hρ]; exact acts_eval_hit 9 rfl hd.1 (by rw [HSZ]; rfl) (by kernel_rfl)
      have e1 : ρ (.tmp 16) = .int .i64 s := by rw [hρ]; exact acts_eval_hit 13 rfl hd.2.1 (by rw [HSZ]; rfl) (by kernel_rfl)
      have e2 : ρ (.tmp 20) = .int .i64 lim := by rw [hρ]; exact acts_eval_hit 17 rfl hd.2.2.1 (by rw [HSZ]; rfl) (by kernel_rfl)
      have ec : ∀ v, ρ (.const v) = v := by rw [hρ]; exact fun _ => rfl
      clear hρ
      go_simp
    · rintro f a' W h19 hd ⟨q, X2, cu, hh, rfl, S⟩
      refine wpOp_mem (v := .pointer (some ⟨W.heap.size, 0, none⟩)) (w' := W.alloc (.cells #[.slice X2 nl cu, .int .i64 0, .int .i64 s, .int .i64 lim] 60)) rfl rfl (fun ρ hρ => ?_) (⟨W.heap.size, X2, cu, ⟨hh.1, fun _ => hd.1, fun _ => rfl⟩, acts_swap (by have z20 := no_of hh.2.2 h19; simp only [acts, h19, z20, Bool.false_eq_true, if_false]) (k := 19) rfl (by kernel_rfl) (by kernel_rfl), Sat.optI rfl (S.newBlk _ _).drop2⟩)
      have e0 : ρ (.tmp 21) = .agg #[.slice X2 nl cu, .int .i64 0, .int .i64 s, .int .i64 lim] := by rw [hρ]; exact acts_eval_hit 18 rfl hd.1 (by rw [HSZ]; rfl) (by kernel_rfl)
      clear hρ
      go_simp
    · rintro f a' W h20 hd ⟨q, X2, cu, hh, rfl, S⟩
      refine wpOp_run (v := .pointer (some ⟨q, 0, none⟩)) rfl rfl (fun ρ hρ => ?_) ⟨q, X2, cu, ⟨hh.1, hh.2.1, fun _ => hd.1⟩, (acts_some 20 rfl (by kernel_rfl) (by kernel_rfl)).symm, S⟩
      have e0 : ρ (.tmp 22) = .pointer (some ⟨q, 0, none⟩) := by rw [hρ]; exact acts_eval_hit 19 rfl hd.1 (by rw [HSZ]; rfl) (by kernel_rfl)
      clear hρ
      go_simp
  · rintro a' W ⟨q, X2, cu, -, rfl, S2⟩
    subst ha0
    simp only [acts, if_true, Act.put, List.setIfInBounds_toArray, List.set_cons_succ, List.set_cons_zero]
    have S3 := HCL.out W q X2 cu ((opt_iff.1 (opt_iff.1 S2).swap).swap)
    have HS := Lib.hid S3
    clear S1 S2 S3
    go_wp2_with fail
    exact hK.out _ _ ⟨q, rfl, HS.out⟩
end
end Go.Proofs.Ytkjkekhhhbopcaa
