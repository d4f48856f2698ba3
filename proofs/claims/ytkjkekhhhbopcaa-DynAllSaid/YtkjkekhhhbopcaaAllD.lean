/- All: its closure gives the fields, the newest first. -/
import Derived.Test.YtkjkekhhhbopcaaBwd
import Derived.Deep.Cut
set_option linter.unusedSimpArgs false
set_option linter.unusedVariables false
namespace Go.Proofs.Ytkjkekhhhbopcaa
open Go.RowKit Go.Shelf
attribute [local go_sem] Oper.semAt_some

def fencs (x : Fd) : Array Value := #[.agg #[.string (bstr x.1), .string (bstr x.2)]]
section
variable {G : Gnd} {w : World} {l : List Asrt} {p : Nat} {Z F : List Fd} {lim : Int}
theorem fd_back (H : Sat G w l) (A : Option Addr) (n c : Nat) : Calls Try.prog 32 #[.slice A n c] w fun e w' => ∃ b, e = .returned (.func (.func 33) #[] #[.pointer (some ⟨b, 0, none⟩)]) ∧ Sat G w' (blk b #[.slice A n c] 58 :: l) := by
  refine calls_any fun K hK => ?_
  have HS := Lib.hid (H.newBlk #[.slice A n c] 58)
  clear H
  go_enter Try.func32, Try.ntmps32
  go_wp2_with fail
  exact hK.out _ _ ⟨_, rfl, HS.out⟩
theorem tb_all (H : Sat G w l) (v : Value) (hv : v.oneCell' = true) : Calls Try.prog 19 #[v] w fun e w' => ∃ b, e = .returned (.func (.func 31) #[] #[.pointer (some ⟨b, 0, none⟩)]) ∧ Sat G w' (blk b #[v] 24 :: l) := by
  refine calls_any fun K hK => ?_
  have HS := Lib.hid (H.newBlk #[v] 24)
  clear H
  have hc := cells_one hv
  go_enter Try.func19, Try.ntmps19
  go_wp2_with fail
  exact hK.out _ _ ⟨_, rfl, HS.out⟩
theorem own_rf {v : Value} {L : List Fd} {n : Nat} (hn : n = L.length) (H : Sat G w (ownS 23 2 v n (encs fenc L) :: l)) : RF w.cell? v L := by
  subst hn
  obtain ⟨A, c, rfl, h1, h2, h3⟩ := H.ownSlice
  refine ⟨A, c, rfl, h1, h2, h3, fun i x hx => ?_⟩
  have hlt := (List.getElem?_eq_some_iff.1 hx).1
  obtain ⟨g, cap, cur, e, hc, Li, S⟩ := H.layOpen fd_len (by omega)
  obtain ⟨e1, -, -⟩ := Value.slice.inj e
  refine ⟨g, 0, e1, fun j u hj => ?_⟩
  have hj2 : j < 2 := (List.getElem?_eq_some_iff.1 hj).1
  rw [Nat.zero_add, S.cell, Li.get hx hj2]
  exact hj
/-- Its end part. -/
theorem RF.from {get : Addr → Option Value} {A : Option Addr} {n c : Nat} {L : List Fd} (h : RF get (.slice A n c) L) {k : Nat} (hk : k ≤ n) : RF get (.slice (if c = k then A else A.map (·.add (k * 2))) (n - k) (c - k)) (L.drop k) := by
  obtain ⟨A', c', e, h1, h2, h3, h4⟩ := h
  obtain ⟨rfl, e2, rfl⟩ := Value.slice.inj e
  have hl : (L.drop k).length = n - k := by rw [List.length_drop, e2]
  refine ⟨_, _, by rw [hl], by omega, by omega, fun e => ?_, fun i y hy => ?_⟩
  · split at e
    · omega
    · simp at e
      have := h3 e
      omega
  · have hlt := (List.getElem?_eq_some_iff.1 hy).1
    rw [List.getElem?_drop] at hy
    obtain ⟨g, o, rfl, hc⟩ := h4 (k + i) y hy
    rw [if_neg (by omega)]
    refine ⟨g, o + k * 2, by simp [Addr.add], fun j u hj => ?_⟩
    have := hc j u hj
    rw [show o + k * 2 + i * 2 + j = o + (k + i) * 2 + j by omega]
    exact this
def HDa (f : Nat → Bool) : Prop := True
set_option maxHeartbeats 8000000 in
set_option maxRecDepth 100000 in
theorem all_gives (b : Nat) (hz : Z.length ≤ 10000) (hf : F.length ≤ 10000) : Gives Try.prog 31 #[.pointer (some ⟨b, 0, none⟩)] fencs F.reverse [blk b #[.pointer (some ⟨p, 0, none⟩)] 24, tbA p Z F lim] := by
  intro l G B Bx W hY S
  have S0 : Sat G W (tbA p Z F lim :: blk b #[.pointer (some ⟨p, 0, none⟩)] 24 :: B []) := Sat.swap S
  obtain ⟨v, S1⟩ := tb_iff.1 S0
  clear S S0
  have hrf := own_rf rfl S1.swap
  obtain ⟨A, c, rfl, hnc, hcm, -⟩ := S1.swap.ownSlice
  obtain ⟨N, hN⟩ : ∃ N, N = (Z ++ F).length := ⟨_, rfl⟩
  have hN2 : N = Z.length + F.length := by rw [hN]; simp
  rw [← hN] at S1 hrf hnc
  obtain ⟨z, hz0⟩ : ∃ z, z = Z.length := ⟨_, rfl⟩
  rw [← hz0] at S1 hz hN2
  obtain ⟨X, hX⟩ : ∃ X, X = (if c = z then A else A.map (·.add (z * 2))) := ⟨_, rfl⟩
  obtain ⟨nl, hnl⟩ : ∃ nl, nl = N - z := ⟨_, rfl⟩
  have HRF : Hid (∀ G W l, Sat G W ([blk p #[.slice A N c, .int .i64 z, .int .i64 (fsz F), .int .i64 lim] 60, ownS 23 2 (.slice A N c) N (encs fenc (Z ++ F))] ++ l) → RF W.cell? (.slice X nl (c - z)) F) := Lib.hid fun G W l S => by
    have h1 : RF W.cell? (.slice A N c) (Z ++ F) := by
      exact own_rf hN (Sat.swap S)
    have h2 := h1.from (k := z) (by omega)
    rw [hz0, List.drop_left' rfl, ← hz0, ← hX, ← hnl] at h2
    exact h2
  have HCL : Hid (∀ (G : Gnd) (W : World) (b2 y : Nat) (E : List Asrt), Sat G W (blk b2 #[.slice X nl (c - z)] 58 :: blk p #[.slice A N c, .int .i64 z, .int .i64 (fsz F), .int .i64 lim] 60 :: ownS 23 2 (.slice A N c) N (encs fenc (Z ++ F)) :: blk y #[.func (.yield l) #[] #[]] 68 :: blk b #[.pointer (some ⟨p, 0, none⟩)] 24 :: E) → Sat G W (blk b #[.pointer (some ⟨p, 0, none⟩)] 24 :: tbA p Z F lim :: E)) := Lib.hid fun G W b2 y E S => by
    have S2 := S.re [1, 2, 4, 0, 3]
    rw [hz0, hN] at S2
    have S3 : Sat G W (tbA p Z F lim :: blk b #[.pointer (some ⟨p, 0, none⟩)] 24 :: blk b2 #[.slice X nl (c - Z.length)] 58 :: blk y #[.func (.yield l) #[] #[]] 68 :: E) := tb_iff.2 ⟨_, S2⟩
    exact (S3.re [2, 3, 1, 0]).drop.drop
  have HX := Lib.hid hX
  have HNL := Lib.hid hnl
  have HLE := Lib.hid (And.intro (show z ≤ N by omega) (And.intro (show (z : Int) ≤ (N : Int) by omega) (And.intro hnc (show (N : Int) ≤ (c : Int) by omega))))
  have S2 := S1.newBlk #[.func (.yield l) #[] #[]] 68
  generalize fsz F = s at *
  generalize encs fenc (Z ++ F) = E at *
  clear hN hN2 hz0 hX hnl hrf hnc S1
  have hcm2 : c ≤ 9223372036854775807 := hcm
  change Calls _ _ #[.func (.yield l) #[] #[], .pointer (some ⟨b, 0, none⟩)] W _
  refine calls_marks Try.func31 rfl ?_
  simp only [Try.ntmps31, List.size_toArray, List.length_cons, List.length_nil, Nat.reduceAdd, Nat.reduceSub, Array.replicate_succ, Array.replicate_zero, List.push_toArray, List.append_toArray, List.nil_append, List.cons_append]
  go_upto_region 1 with fail
  generalize W.heap.size = y at *
  refine wp_world S2 fun W2 S3 => ?_
  clear S2
  refine wp_act fun a0 ha0 => ?_
  have HSZ : a0.tmps.size = 21 := by rw [ha0]; rfl
  have E1 : a0.eval (.tmp 1) = .pointer (some ⟨b, 0, none⟩) := by rw [ha0]; rfl
  refine wp_region_J (by kernel_rfl) 10 (by kernel_rfl) [[], [0], [1], [2], [], [4], [5], [6], [3, 7], [8]] (by kernel_rfl) (by kernel_rfl) (fun f a' W => ∃ b2 : Nat, a' = acts [(0, 5, .pointer (some ⟨p, 0, none⟩)), (1, 6, .pointer (some ⟨p, 0, none⟩)), (2, 7, .pointer (some ⟨p, 0, none⟩)), (3, 8, .slice A N c), (4, 9, .pointer (some ⟨p, 0, none⟩)), (5, 10, .pointer (some ⟨p, 0, none⟩)), (6, 11, .pointer (some ⟨p, 1, none⟩)), (7, 12, .int .i64 z), (8, 13, .slice X nl (c - z)), (9, 14, .func (.func 33) #[] #[.pointer (some ⟨b2, 0, none⟩)])] f a0 ∧ Sat G W (opt (f 9) (blk b2 #[.slice X nl (c - z)] 58) :: blk y #[.func (.yield l) #[] #[]] 68 :: blk p #[.slice A N c, .int .i64 z, .int .i64 s, .int .i64 lim] 60 :: ownS 23 2 (.slice A N c) N E :: blk b #[.pointer (some ⟨p, 0, none⟩)] 24 :: B [])) ?_ ?_ ?_
  · exact ⟨0, rfl, S3.drew.opt0⟩
  · refine ⟨?_, ?_, ?_, ?_, ?_, ?_, ?_, ?_, ?_, ?_, trivial⟩
    · rintro f a' W h0 hd ⟨b2, rfl, S⟩
      refine wpOp_run (v := .pointer (some ⟨p, 0, none⟩)) rfl rfl (fun ρ hρ => ?_) ⟨b2, (acts_some 0 rfl (by kernel_rfl) (by kernel_rfl)).symm, S⟩
      have e0 : ρ (.tmp 1) = .pointer (some ⟨b, 0, none⟩) := by rw [hρ]; exact (acts_eval_tmp 1 (by kernel_rfl)).trans E1
      clear hρ
      (have hcl : W.cell? ⟨b, 0, none⟩ = some (.pointer (some ⟨p, 0, none⟩)) := (S.re [4, 0, 1, 2, 3]).cell 0)
      go_simp
    · rintro f a' W h1 hd ⟨b2, rfl, S⟩
      refine wpOp_run (v := .pointer (some ⟨p, 0, none⟩)) rfl rfl (fun ρ hρ => ?_) ⟨b2, (acts_some 1 rfl (by kernel_rfl) (by kernel_rfl)).symm, S⟩
      have e0 : ρ (.tmp 5) = .pointer (some ⟨p, 0, none⟩) := by rw [hρ]; exact acts_eval_hit 0 rfl hd.1 (by rw [HSZ]; rfl) (by kernel_rfl)
      clear hρ
      go_simp
    · rintro f a' W h2 hd ⟨b2, rfl, S⟩
      refine wpOp_run (v := .pointer (some ⟨p, 0, none⟩)) rfl rfl (fun ρ hρ => ?_) ⟨b2, (acts_some 2 rfl (by kernel_rfl) (by kernel_rfl)).symm, S⟩
      have e0 : ρ (.tmp 6) = .pointer (some ⟨p, 0, none⟩) := by rw [hρ]; exact acts_eval_hit 1 rfl hd.1 (by rw [HSZ]; rfl) (by kernel_rfl)
      clear hρ
      go_simp
    · rintro f a' W h3 hd ⟨b2, rfl, S⟩
      refine wpOp_run (v := .slice A N c) rfl rfl (fun ρ hρ => ?_) ⟨b2, (acts_some 3 rfl (by kernel_rfl) (by kernel_rfl)).symm, S⟩
      have e0 : ρ (.tmp 7) = .pointer (some ⟨p, 0, none⟩) := by rw [hρ]; exact acts_eval_hit 2 rfl hd.1 (by rw [HSZ]; rfl) (by kernel_rfl)
      clear hρ
      (have hcl : W.cell? ⟨p, 0, none⟩ = some (.slice A N c) := S.pull2.cell 0)
      go_simp
    · rintro f a' W h4 hd ⟨b2, rfl, S⟩
      refine wpOp_run (v := .pointer (some ⟨p, 0, none⟩)) rfl rfl (fun ρ hρ => ?_) ⟨b2, (acts_some 4 rfl (by kernel_rfl) (by kernel_rfl)).symm, S⟩
      have e0 : ρ (.tmp 1) = .pointer (some ⟨b, 0, none⟩) := by rw [hρ]; exact (acts_eval_tmp 1 (by kernel_rfl)).trans E1
      clear hρ
      (have hcl : W.cell? ⟨b, 0, none⟩ = some (.pointer (some ⟨p, 0, none⟩)) := (S.re [4, 0, 1, 2, 3]).cell 0)
      go_simp
    · rintro f a' W h5 hd ⟨b2, rfl, S⟩
      refine wpOp_run (v := .pointer (some ⟨p, 0, none⟩)) rfl rfl (fun ρ hρ => ?_) ⟨b2, (acts_some 5 rfl (by kernel_rfl) (by kernel_rfl)).symm, S⟩
      have e0 : ρ (.tmp 9) = .pointer (some ⟨p, 0, none⟩) := by rw [hρ]; exact acts_eval_hit 4 rfl hd.1 (by rw [HSZ]; rfl) (by kernel_rfl)
      clear hρ
      go_simp
    · rintro f a' W h6 hd ⟨b2, rfl, S⟩
      refine wpOp_run (v := .pointer (some ⟨p, 1, none⟩)) rfl rfl (fun ρ hρ => ?_) ⟨b2, (acts_some 6 rfl (by kernel_rfl) (by kernel_rfl)).symm, S⟩
      have e0 : ρ (.tmp 10) = .pointer (some ⟨p, 0, none⟩) := by rw [hρ]; exact acts_eval_hit 5 rfl hd.1 (by rw [HSZ]; rfl) (by kernel_rfl)
      clear hρ
      go_simp
    · rintro f a' W h7 hd ⟨b2, rfl, S⟩
      refine wpOp_run (v := .int .i64 z) rfl rfl (fun ρ hρ => ?_) ⟨b2, (acts_some 7 rfl (by kernel_rfl) (by kernel_rfl)).symm, S⟩
      have e0 : ρ (.tmp 11) = .pointer (some ⟨p, 1, none⟩) := by rw [hρ]; exact acts_eval_hit 6 rfl hd.1 (by rw [HSZ]; rfl) (by kernel_rfl)
      clear hρ
      (have hcl : W.cell? ⟨p, 1, none⟩ = some (.int .i64 z) := S.pull2.cell 1)
      go_simp
    · rintro f a' W h8 hd ⟨b2, rfl, S⟩
      refine wpOp_run (v := .slice X nl (c - z)) rfl rfl (fun ρ hρ => ?_) ⟨b2, (acts_some 8 rfl (by kernel_rfl) (by kernel_rfl)).symm, S⟩
      have e0 : ρ (.tmp 8) = .slice A N c := by rw [hρ]; exact acts_eval_hit 3 rfl hd.1 (by rw [HSZ]; rfl) (by kernel_rfl)
      have e1 : ρ (.tmp 12) = .int .i64 z := by rw [hρ]; exact acts_eval_hit 7 rfl hd.2.1 (by rw [HSZ]; rfl) (by kernel_rfl)
      clear hρ
      (have hle1 := HLE.out.1; have hle2 := HLE.out.2.1; have hle3 := HLE.out.2.2.1; have hle4 := HLE.out.2.2.2; rw [HNL.out, HX.out])
      go_simp
    · rintro f a' W h9 hd ⟨b2, rfl, S⟩
      refine wpOp_call rfl rfl (fun ρ hρ => ?_) (fd_back S X nl (c - z)) ?_
      · skip
        have e0 : ρ (.tmp 13) = .slice X nl (c - z) := by rw [hρ]; exact acts_eval_hit 8 rfl hd.1 (by rw [HSZ]; rfl) (by kernel_rfl)
        have ef : ρ (.func 32) = .func (.func 32) #[] #[] := by rw [hρ]; rfl
        clear hρ
        go_simp
      · (rintro e W' ⟨b3, rfl, S'⟩; exact ⟨_, rfl, b3, acts_swap (by simp only [acts, h9, Bool.false_eq_true, if_false]) (k := 9) rfl (by kernel_rfl) (by kernel_rfl), Sat.optI rfl S'.drop2⟩)
  · rintro a' W5 ⟨b2, rfl, S4⟩
    subst ha0
    simp only [acts, if_true, Act.put, List.setIfInBounds_toArray, List.set_cons_succ, List.set_cons_zero]
    have S5 := opt_iff.1 S4
    clear HSZ E1 S4 S3
    go_wp2_with fail
    have hseq := back_gives (b := b2) (v := .slice X nl (c - z)) (F := F) (R := [blk p #[.slice A N c, .int .i64 z, .int .i64 s, .int .i64 lim] 60, ownS 23 2 (.slice A N c) N E]) HRF.out (by omega)
    have S6 := S5.re [0, 2, 3, 1, 4]
    refine wp_range rfl (enters_of Try.func33 (by kernel_rfl) rfl) hseq (fun _ => rfl)
      (fun pre' => blk y #[.func (.yield l) #[] #[]] 68 :: blk b #[.pointer (some ⟨p, 0, none⟩)] 24 :: B (pre'.map (·.2)))
      (fun c pre' => pur (c = .ret) :: blk y #[.func (.yield l) #[] #[]] 68 :: blk b #[.pointer (some ⟨p, 0, none⟩)] 24 :: Bx (pre'.map (·.2))) S6 ?round ?done ?stop
    case round =>
      intro l2 pre x W A' G1 K hpre hG1 S7 hK
      obtain ⟨xi, x⟩ := x
      have S8 := (S7.newBlk #[.string (bstr x.1), .string (bstr x.2)] 23).perm List.perm_middle.symm
      unfold bencs
      gi_wp2
      refine hK _ _ _ S8 ?_
      intro A'' W2 S9
      generalize W.heap.size = q at *
      have S10 := S9.perm List.perm_append_comm
      have c0 : W2.cell? ⟨q, 0, none⟩ = _ := Sat.cell S10 0
      have c1 : W2.cell? ⟨q, 1, none⟩ = _ := Sat.cell S10 1
      have cy : W2.cell? ⟨y, 0, none⟩ = _ := Sat.cell (Sat.swap S10) 0
      have hmp : (pre.map (·.2) ++ [x]) <+: F.reverse := by
        have := hpre.map (·.2)
        rw [bwd_snd] at this
        simpa using this
      obtain ⟨fn, tmps, assign, body, hy, hR⟩ := hY (pre.map (·.2)) x W2 (A'' ++ [blk q #[.string (bstr x.1), .string (bstr x.2)] 23, blk y #[.func (.yield l) #[] #[]] 68, blk b #[.pointer (some ⟨p, 0, none⟩)] 24]) G1 0 hmp hG1 (by rw [List.append_assoc]; exact S9)
      unfold fencs at hy
      have hfin : ∀ (G2 : Gnd) (W3 : World) (E : List Asrt), Sat G2 W3 ((A'' ++ [blk q #[.string (bstr x.1), .string (bstr x.2)] 23, blk y #[.func (.yield l) #[] #[]] 68, blk b #[.pointer (some ⟨p, 0, none⟩)] 24]) ++ E) → Sat G2 W3 (A'' ++ (blk y #[.func (.yield l) #[] #[]] 68 :: blk b #[.pointer (some ⟨p, 0, none⟩)] 24 :: E)) := fun G2 W3 E S => by
        rw [List.append_assoc] at S
        exact (S.perm List.perm_middle).drop
      have HF := Lib.hid hfin
      have hmm : (pre ++ [(xi, x)]).map (·.2) = pre.map (·.2) ++ [x] := by simp
      have hR2 := Lib.hid (RoundIn.inR l2 hR)
      clear S7 S8 S9 S10 hK hmp hR hfin
      gi_wp2
      refine ⟨rfl, hR2.out.mono ?_⟩
      rintro e W3 ⟨G2, hG2, ⟨rfl, S3⟩ | ⟨rfl, S3⟩⟩
      · gi_wp2
        refine ⟨G2, hG2, ?_⟩
        dsimp only
        rw [hmm]
        exact HF.out _ _ _ S3
      · gi_wp2
        refine ⟨G2, hG2, ?_⟩
        dsimp only
        rw [hmm]
        exact (Sat.pur_iff.2 ⟨rfl, (HF.out _ _ _ S3).perm List.perm_append_comm⟩).perm (List.perm_append_comm (l₁ := [_] ++ _) (l₂ := A''))
    case done =>
      intro D W6 G1 hG1 S7
      rw [bwd_snd] at S7
      go_wp2_with fail
      refine marks_end S7 rfl fun W7 S8 => ⟨_, results_none rfl _ _ _, ⟨_, rfl⟩, G1, hG1, .inl ?_⟩
      exact HCL.out _ _ _ _ _ S8
    case stop =>
      intro D c pre W6 G1 hpre hG1 S7
      have S8 := S7.perm (List.Perm.cons _ List.perm_append_comm)
      have S9 := Sat.pur_iff.1 S8.swap
      obtain ⟨rfl, S10⟩ := S9
      have S11 := S10.perm (List.Perm.cons _ (List.perm_append_comm (l₁ := [_, _] ++ _)))
      have hmp : pre.map (·.2) <+: F.reverse := by
        have := hpre.map (·.2)
        rw [bwd_snd] at this
        exact this
      go_wp2_with fail
      refine marks_end S11 rfl fun W7 S12 => ⟨_, results_none rfl _ _ _, ⟨_, rfl⟩, G1, hG1, .inr ⟨_, hmp, ?_⟩⟩
      exact HCL.out _ _ _ _ _ S12
end
end Go.Proofs.Ytkjkekhhhbopcaa
