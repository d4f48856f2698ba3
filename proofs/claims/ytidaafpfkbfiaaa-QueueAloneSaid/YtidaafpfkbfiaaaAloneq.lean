/- The walk of the law QueueAlone. -/
import Derived.Test.YtidaafpfkbfiaaaStepq
import Derived.Test.YtidaafpfkbfiaaaNewL
import Derived.Test.YtidaafpfkbfiaaaPlaysq
set_option linter.unusedSimpArgs false
set_option linter.unusedVariables false
namespace Go.Proofs.Ytidaafpfkbfiaaa
open Go.RowKit

def HA16 (f : Nat → Bool) : Prop := (f 8 = true → f 7 = true) ∧ (f 9 = true → f 8 = true) ∧ (f 11 = true → f 9 = true)
def HA (f : Nat → Bool) : Prop := (f 8 = true → f 7 = true) ∧ (f 9 = true → f 8 = true) ∧ (f 11 = true → f 9 = true)
set_option maxHeartbeats 16000000 in
set_option maxRecDepth 100000 in
theorem queueAlone_walk (w : World) (v0 v1 : Value) (h0 : ∃ d, ArgV w (Ty.agg [.int .i64, .int .i64, .int .i64, .sl 80 (Ty.agg [.int .i64, .int .i64, .int .i64, (Ty.agg [.int .i64, .sl 1 (.int .u8), .sl 1 (.int .u8)])])]) v0 d) (h1 : ∃ d, ArgV w (.int .i64) v1 d) :
    Calls Try.prog 6 #[v0, v1] w fun e w' => e = .returned (.bool true) ∧ Below w.heap.size w w' := by
  refine calls_any fun K hK => ?_
  obtain ⟨_, h0⟩ := h0
  obtain ⟨T, B, I, x, ops, rfl, hops⟩ := arg_case h0
  obtain ⟨_, h1⟩ := h1
  obtain ⟨t, rfl, -⟩ := arg_int h1
  clear h0 h1
  have hops1 := hops
  obtain ⟨X, xc, rfl, hlc, hc, hel⟩ := hops
  have S0 := (Sat.start w).newBlk #[.int .i64 T, .int .i64 B, .int .i64 I, .slice X ops.length xc] 41
  have hG0 := Gnd.le.rfl' (G := Gnd.of w)
  have HEL := Lib.hid hel
  have hr := law_right S0 T B I _ ops hops1
  clear hel hops1
  by_cases hq : (decide (osum ops ≤ 200) && qRight T B I) = true
  · rw [hq] at hr
    rw [Bool.and_eq_true] at hq
    have hq2 := hq.2
    have hq3 := of_decide_eq_true hq2
    obtain ⟨a1, a2, a3, a4, a5, a6⟩ := hq3
    obtain ⟨N, rfl⟩ : ∃ N : Nat, T = N := ⟨T.toNat, by omega⟩
    have hw0 := wf_new hq2
    have hmk := run_make_any (P := Try.prog) 44 48 (.slice none 0 0) 1 24 Try.underlying44 (by kernel_rfl) N (by omega) (by omega)
    have hmn := made_nil N
    have HB := Lib.hid hmn
    have HQ2 := Lib.hid hq2
    clear hq a1 a3 a5 hmn hq2
    by_cases ht : t < 0
    · go_enter Try.func6, Try.ntmps6
      go_wp2_with fail
      (with_reducible refine hr.mono ?_)
      clear hr
      rintro e w2 ⟨rfl, S2⟩
      clear S0
      go_wp2_with fail
      (with_reducible refine (law_awake (S2)).mono ?_); rintro e w9 ⟨rfl, G9, hG9, S9⟩; go_wp2_with fail; exact hK.out _ _ ⟨rfl, S9.above (Gnd.le.trans (hG0) hG9)⟩
    by_cases ht2 : t ≥ (N : Int)
    · go_enter Try.func6, Try.ntmps6
      go_wp2_with fail
      (with_reducible refine hr.mono ?_)
      clear hr
      obtain ⟨p1, hp1⟩ : ∃ p, p = w.heap.size := ⟨_, rfl⟩
      rw [← hp1] at S0 ⊢
      clear hp1
      rintro e w2 ⟨rfl, S2⟩
      have o0 := S2.cell 0
      clear S0
      go_wp2_with fail
      (with_reducible refine (law_awake (S2)).mono ?_); rintro e w9 ⟨rfl, G9, hG9, S9⟩; go_wp2_with fail; exact hK.out _ _ ⟨rfl, S9.above (Gnd.le.trans (hG0) hG9)⟩
    obtain ⟨t, rfl⟩ : ∃ k : Nat, t = k := ⟨t.toNat, by omega⟩
    have htN : t < N := by omega
    clear ht
    go_enter Try.func6, Try.ntmps6
    go_wp2_with fail
    (with_reducible refine hr.mono ?_)
    clear hr
    obtain ⟨p1, hp1⟩ : ∃ p, p = w.heap.size := ⟨_, rfl⟩
    rw [← hp1] at S0 ⊢
    clear hp1
    rintro e w2 ⟨rfl, S2⟩
    have o0 := S2.cell 0
    have o1 := S2.cell 1
    have o2 := S2.cell 2
    have hnw := qu_new S2 N B I HQ2.out
    clear S2 S0
    go_wp2_with fail
    (with_reducible refine hnw.mono ?_)
    clear hnw o0 o1 o2
    rintro e w3 ⟨p, rfl, S3⟩
    have o0 := S3.swap.cell 0
    have o1 := S3.swap.cell 1
    have o2 := S3.swap.cell 2
    have hnw := qu_new S3 N B I HQ2.out
    clear S3
    go_wp2_with fail
    (with_reducible refine hnw.mono ?_)
    clear hnw o0 o1 o2
    rintro e w4 ⟨q, rfl, S3⟩
    have o0 := S3.pull2.cell 0
    have o3 := S3.pull2.cell 3
    have S4 := S3.newBlk (madeCells #[Value.slice none 0 0] N) 48
    clear S3
    go_upto_region 8 with fail
    generalize w4.heap.size = g at *
    refine wp_world S4 fun w5 S5 => ?_
    rw [HB.out] at S5
    clear S4 hmk o0 o3
    have o3 := S5.pull3.cell 3
    go_wp2_with fail
    go_loopw [69] (fun i wr => ∃ (k : Nat) (U : List Value) (P Q : List (List It)) (G' : Gnd), k ≤ ops.length ∧ i = .int .i64 k ∧ (Gnd.of w).le G' ∧ QWf P B I ∧ QWf Q B I ∧ P.length = N ∧ Q.length = N ∧ MR (cellR G'.ro) U P ∧ Q.getD t [] = P.getD t [] ∧ Sat G' wr [blk g U.toArray 48, quA p P B I, quA q Q B I, blk p1 #[.int .i64 N, .int .i64 B, .int .i64 I, .slice X ops.length xc] 41]) (fun i _ => ops.length - (intOf i).toNat)
    case atStart => exact ⟨0, List.replicate N (Value.slice none 0 0), List.replicate N [], List.replicate N [], Gnd.of w, Nat.zero_le _, rfl, hG0, hw0, hw0, by simp, by simp, MR.nil _ N, rfl, S5.re [0, 2, 1]⟩
    case round =>
      obtain ⟨k, U, P, Q, G1, hk, rfl, hG1, hw, hwq, hN, hNq, hm, hpq, S⟩ := hrel
      clear S5 o3
      by_cases hlt : k < ops.length
      · have hok := List.getElem?_eq_getElem hlt
        obtain ⟨ad, bo, off, rfl, had, hcl, ho⟩ := HEL.out k _ hok
        generalize ops[k] = o at hcl ho
        clear hok
        obtain ⟨ok, ot, on, ⟨n, hv1, bv1, h, b⟩⟩ := o
        obtain ⟨A, a, D, d, e1, e2⟩ := qe_slices ho.x
        simp only at e1 e2
        subst e1
        subst e2
        simp only [OpD.cells, Qe.enc] at hcl
        have m0 := S.cellR (cellR_mono hG1.ro (hcl 0 _ rfl))
        rw [Nat.add_zero] at m0
        have m1 := S.cellR (cellR_mono hG1.ro (hcl 1 _ rfl))
        have m2 := S.cellR (cellR_mono hG1.ro (hcl 2 _ rfl))
        have m3 := S.cellR (cellR_mono hG1.ro (hcl 3 _ rfl))
        have m4 := S.cellR (cellR_mono hG1.ro (hcl 4 _ rfl))
        have m5 := S.cellR (cellR_mono hG1.ro (hcl 5 _ rfl))
        have S6 := S.newBlk #[.int .i64 ok, .int .i64 ot, .int .i64 on, .int .i64 n, .slice A h.length a, .slice D b.length d] 46
        have HS6 := Lib.hid S6
        have HO := Lib.hid ho
        have HM := Lib.hid hm
        have HN := Lib.hid hN
        have HNq := Lib.hid hNq
        have HPQ := Lib.hid hpq
        clear S S6 hcl ho hm hN hNq hpq
        go_upto_region 11 with fail
        generalize wr.heap.size = z at *
        refine wp_world HS6.out fun w6 S7 => ?_
        clear HS6 m0 m1 m2 m3 m4 m5
        have m0 := S7.cell 0
        have m1 := S7.cell 1
        by_cases h6 : ok = 6
        · have hk6 : (ok == 6) = true := beq_iff_eq.2 h6
          have HS := Lib.hid S7.drop
          clear S7 h6
          go_wp2_with fail
          go_roundw
          case rel => exact ⟨k + 1, U, P, Q, G1, by omega, by go_num, hG1, hw, hwq, HN.out, HNq.out, HM.out, HPQ.out, HS.out⟩
          case measure => simp [intOf]; omega
        have hk6 : (ok == 6) = false := beq_eq_false_iff_ne.2 h6
        have H6 := Lib.hid h6
        clear h6
        by_cases hot : ot ≠ (t : Int)
        · have htq : (ot != (t : Int)) = true := bne_iff_ne.2 hot
          have m2 := S7.cell 2
          have m3 := S7.cell 3
          have m4 := S7.cell 4
          have m5 := S7.cell 5
          have S8 := S7.re [4, 0, 1, 2, 3]
          have n0 := S8.cell 0
          have n1 := S8.cell 1
          have n2 := S8.cell 2
          have n3 := S8.cell 3
          have hstep := law_step (T := N) (X := some ad) (xn := ops.length) (xc := xc) (S7.re [1, 2, 3, 0, 4]) hw HM.out (by rw [HN.out]) (HO.out.mono hG1)
          simp only [HN.out, OpD.cells, Qe.enc] at hstep
          have HOT := Lib.hid hot
          clear S7 S8 hot
          go_wp2_with fail
          (with_reducible refine hstep.mono ?_)
          clear hstep m0 m1 m2 m3 m4 m5 n0 n1 n2 n3
          rintro e w7 ⟨U2, P2, G2, hG2, rfl, hw2, hl2, hm2, S9, hsame⟩
          have hs := (hsame H6.out t HOT.out).1
          have HS := Lib.hid (S9.re [0, 1, 2, 4, 3])
          have HS3 := Lib.hid hs
          clear S9 hsame hs
          go_wp2_with fail
          go_roundw
          case rel => exact ⟨k + 1, U2, P2, Q, G2, by omega, by go_num, hG1.trans hG2, hw2, hwq, hl2, HNq.out, hm2, by rw [HPQ.out, HS3.out], (HS.out.re [4, 0, 1, 2, 3]).drop⟩
          case measure => simp [intOf]; omega
        obtain rfl : ot = (t : Int) := Classical.not_not.1 hot
        have htq : ((t : Int) != (t : Int)) = false := by simp
        have htP : t < P.length := by rw [HN.out]; exact htN
        have htQ : t < Q.length := by rw [HNq.out]; exact htN
        have htU : t < U.length := by rw [HM.out.len]; exact htP
        obtain ⟨L', hL'⟩ : ∃ L', L' = oneL B I (P.getD t []) ⟨ok, t, on, n, .slice A h.length a, .slice D b.length d, h, b⟩ := ⟨_, rfl⟩
        have HONp : Hid (∀ {G' : Gnd} {W : World} {l' : List Asrt}, G1.le G' → Sat G' W (quA p P B I :: l') → Calls Try.prog 20 #[.pointer (some ⟨p, 0, none⟩), U.getD t undef, .agg #[.int .i64 N, .int .i64 B, .int .i64 I, .slice (some ad) ops.length xc], .agg #[.int .i64 ok, .int .i64 t, .int .i64 on, .int .i64 n, .slice A h.length a, .slice D b.length d]] W fun e w' => ∃ u G2, G'.le G2 ∧ e = .returned (.tuple #[u, .bool true]) ∧ RL (cellR G2.ro) u L' ∧ Sat G2 w' (quA p (P.set t L') B I :: l')) := Lib.hid fun hG S => by
          rw [hL']
          exact law_one S hw htP ((HM.out.el t htP).mono hG) ((HO.out.mono hG1).mono hG) rfl
        have HONq : Hid (∀ {G' : Gnd} {W : World} {l' : List Asrt}, G1.le G' → Sat G' W (quA q Q B I :: l') → Calls Try.prog 20 #[.pointer (some ⟨q, 0, none⟩), U.getD t undef, .agg #[.int .i64 N, .int .i64 B, .int .i64 I, .slice (some ad) ops.length xc], .agg #[.int .i64 ok, .int .i64 t, .int .i64 on, .int .i64 n, .slice A h.length a, .slice D b.length d]] W fun e w' => ∃ u G2, G'.le G2 ∧ e = .returned (.tuple #[u, .bool true]) ∧ RL (cellR G2.ro) u L' ∧ Sat G2 w' (quA q (Q.set t L') B I :: l')) := Lib.hid fun hG S => by
          rw [hL', ← HPQ.out]
          exact law_one S hwq htQ (by rw [HPQ.out]; exact (HM.out.el t htP).mono hG) ((HO.out.mono hG1).mono hG) rfl
        have hwf : QWf (P.set t L') B I := by rw [hL']; exact oneL_wf hw
        have hwfq : QWf (Q.set t L') B I := by rw [hL', ← HPQ.out]; exact oneL_wf hwq
        have HGU : Hid (U.toArray[t]? = some (U.getD t undef)) := Lib.hid (by simp [List.getD_eq_getElem?_getD, List.getElem?_eq_getElem htU])
        have HTU : Hid (t < U.toArray.size) := Lib.hid (by simpa using htU)
        have HSP : Hid ((P.set t L').getD t [] = L') := Lib.hid (by rw [getD_set _ _ _ _ _ htP, if_pos rfl])
        have HSQ : Hid ((Q.set t L').getD t [] = L') := Lib.hid (by rw [getD_set _ _ _ _ _ htQ, if_pos rfl])
        have HMS : Hid (∀ {G' : Gnd} {u : Value}, G1.le G' → RL (cellR G'.ro) u L' → MR (cellR G'.ro) (U.set t u) (P.set t L')) := Lib.hid fun hG hu => (HM.out.mono hG).set t hu
        obtain ⟨v, hv⟩ : ∃ v, v = U.getD t undef := ⟨_, rfl⟩
        rw [← hv] at HONp HONq HGU
        clear hv hL' htP htQ htU hot
        have HS7 := Lib.hid S7
        clear S7
        go_upto_region 15 with fail
        have S7 := HS7.out
        clear HS7 m0 m1
        refine wp_act fun a0 ha0 => ?_
        have HSZ : a0.tmps.size = 133 := by rw [ha0]; rfl
        have E1 : a0.eval (.tmp 1) = .int .i64 t := by rw [ha0]; rfl
        have E2 : a0.eval (.tmp 2) = .pointer (some ⟨p1, 0, none⟩) := by rw [ha0]; rfl
        have E5 : a0.eval (.tmp 5) = .pointer (some ⟨p, 0, none⟩) := by rw [ha0]; rfl
        have E9 : a0.eval (.tmp 9) = .slice (some ⟨g, 0, none⟩) N N := by rw [ha0]; rfl
        have E11 : a0.eval (.tmp 11) = .pointer (some ⟨z, 0, none⟩) := by rw [ha0]; rfl
        refine wp_region_J (by kernel_rfl) 12 (by kernel_rfl) [[], [], [], [1, 2], [3], [], [], [0, 4, 5, 6], [7], [8], [8], [9, 7, 0, 1, 2, 3, 4, 5, 6, 7, 8, 9]] (by kernel_rfl) (by kernel_rfl) (fun f a' W => ∃ u G', HA f ∧ G1.le G' ∧ (f 7 = true → RL (cellR G'.ro) u L') ∧ a' = acts [(0, 86, .pointer (some ⟨p, 0, none⟩)), (1, 87, .slice (some ⟨g, 0, none⟩) N N), (2, 88, .int .i64 t), (3, 89, .pointer (some ⟨g, t, none⟩)), (4, 90, v), (5, 91, .agg #[.int .i64 N, .int .i64 B, .int .i64 I, .slice (some ad) ops.length xc]), (6, 92, .agg #[.int .i64 ok, .int .i64 t, .int .i64 on, .int .i64 n, .slice A h.length a, .slice D b.length d]), (7, 93, .tuple #[u, .bool true]), (8, 85, .tuple #[u, .bool true]), (9, 94, u), (10, 95, .bool true), (11, 12, u)] f a0 ∧ Sat G' W (quA p (cond (f 7) (P.set t L') P) B I :: blk z #[.int .i64 ok, .int .i64 t, .int .i64 on, .int .i64 n, .slice A h.length a, .slice D b.length d] 46 :: blk g U.toArray 48 :: quA q Q B I :: [blk p1 #[.int .i64 N, .int .i64 B, .int .i64 I, .slice (some ad) ops.length xc] 41])) ?_ ?_ ?_
        · exact ⟨undef, G1, (by unfold HA; decide), Gnd.le.rfl', (by intro h; cases h), rfl, (S7.re [2, 0, 1, 3, 4]).drew⟩
        · refine ⟨?_, ?_, ?_, ?_, ?_, ?_, ?_, ?_, ?_, ?_, ?_, ?_, trivial⟩
          · rintro f a' W h0 hd ⟨u, G', hh, hG, hu, rfl, S⟩
            refine wpOp_run (v := .pointer (some ⟨p, 0, none⟩)) rfl rfl (fun ρ hρ => ?_) ⟨u, G', hh, hG, hu, (acts_some 0 rfl (by kernel_rfl) (by kernel_rfl)).symm, S⟩
            have e0 : ρ (.tmp 5) = .pointer (some ⟨p, 0, none⟩) := by rw [hρ]; exact (acts_eval_tmp 5 (by kernel_rfl)).trans E5
            clear hρ
            go_simp
          · rintro f a' W h1 hd ⟨u, G', hh, hG, hu, rfl, S⟩
            refine wpOp_run (v := .slice (some ⟨g, 0, none⟩) N N) rfl rfl (fun ρ hρ => ?_) ⟨u, G', hh, hG, hu, (acts_some 1 rfl (by kernel_rfl) (by kernel_rfl)).symm, S⟩
            have e0 : ρ (.tmp 9) = .slice (some ⟨g, 0, none⟩) N N := by rw [hρ]; exact (acts_eval_tmp 9 (by kernel_rfl)).trans E9
            clear hρ
            go_simp
          · rintro f a' W h2 hd ⟨u, G', hh, hG, hu, rfl, S⟩
            refine wpOp_run (v := .int .i64 t) rfl rfl (fun ρ hρ => ?_) ⟨u, G', hh, hG, hu, (acts_some 2 rfl (by kernel_rfl) (by kernel_rfl)).symm, S⟩
            have e0 : ρ (.tmp 1) = .int .i64 t := by rw [hρ]; exact (acts_eval_tmp 1 (by kernel_rfl)).trans E1
            clear hρ
            go_simp
          · rintro f a' W h3 hd ⟨u, G', hh, hG, hu, rfl, S⟩
            refine wpOp_run (v := .pointer (some ⟨g, t, none⟩)) rfl rfl (fun ρ hρ => ?_) ⟨u, G', hh, hG, hu, (acts_some 3 rfl (by kernel_rfl) (by kernel_rfl)).symm, S⟩
            have e0 : ρ (.tmp 87) = .slice (some ⟨g, 0, none⟩) N N := by rw [hρ]; exact acts_eval_hit 1 rfl hd.1 (by rw [HSZ]; rfl) (by kernel_rfl)
            have e1 : ρ (.tmp 88) = .int .i64 t := by rw [hρ]; exact acts_eval_hit 2 rfl hd.2.1 (by rw [HSZ]; rfl) (by kernel_rfl)
            clear hρ
            go_simp
          · rintro f a' W h4 hd ⟨u, G', hh, hG, hu, rfl, S⟩
            refine wpOp_run (v := v) rfl rfl (fun ρ hρ => ?_) ⟨u, G', hh, hG, hu, (acts_some 4 rfl (by kernel_rfl) (by kernel_rfl)).symm, S⟩
            have e0 : ρ (.tmp 89) = .pointer (some ⟨g, t, none⟩) := by rw [hρ]; exact acts_eval_hit 3 rfl hd.1 (by rw [HSZ]; rfl) (by kernel_rfl)
            clear hρ
            (have hz := (S.pull2.cell t).trans HGU.out)
            go_simp
          · rintro f a' W h5 hd ⟨u, G', hh, hG, hu, rfl, S⟩
            refine wpOp_run (v := .agg #[.int .i64 N, .int .i64 B, .int .i64 I, .slice (some ad) ops.length xc]) rfl rfl (fun ρ hρ => ?_) ⟨u, G', hh, hG, hu, (acts_some 5 rfl (by kernel_rfl) (by kernel_rfl)).symm, S⟩
            have e0 : ρ (.tmp 2) = .pointer (some ⟨p1, 0, none⟩) := by rw [hρ]; exact (acts_eval_tmp 2 (by kernel_rfl)).trans E2
            clear hρ
            (have S9 := S.re [4, 0, 1, 2, 3]; have hz0 := S9.cell 0; have hz1 := S9.cell 1; have hz2 := S9.cell 2; have hz3 := S9.cell 3)
            go_simp
          · rintro f a' W h6 hd ⟨u, G', hh, hG, hu, rfl, S⟩
            refine wpOp_run (v := .agg #[.int .i64 ok, .int .i64 t, .int .i64 on, .int .i64 n, .slice A h.length a, .slice D b.length d]) rfl rfl (fun ρ hρ => ?_) ⟨u, G', hh, hG, hu, (acts_some 6 rfl (by kernel_rfl) (by kernel_rfl)).symm, S⟩
            have e0 : ρ (.tmp 11) = .pointer (some ⟨z, 0, none⟩) := by rw [hρ]; exact (acts_eval_tmp 11 (by kernel_rfl)).trans E11
            clear hρ
            (have hz0 := S.swap.cell 0; have hz1 := S.swap.cell 1; have hz2 := S.swap.cell 2; have hz3 := S.swap.cell 3; have hz4 := S.swap.cell 4; have hz5 := S.swap.cell 5)
            go_simp
          · rintro f a' W h7 hd ⟨u, G', hh, hG, hu, rfl, S⟩
            (have z8 := no_of hh.1 h7; have z9 := no_of hh.2.1 z8; have z11 := no_of hh.2.2 z9; rw [h7] at S)
            refine wpOp_call rfl rfl (fun ρ hρ => ?_) (HONp.out hG S) ?_
            · skip
              have e0 : ρ (.tmp 86) = .pointer (some ⟨p, 0, none⟩) := by rw [hρ]; exact acts_eval_hit 0 rfl hd.1 (by rw [HSZ]; rfl) (by kernel_rfl)
              have e1 : ρ (.tmp 90) = v := by rw [hρ]; exact acts_eval_hit 4 rfl hd.2.1 (by rw [HSZ]; rfl) (by kernel_rfl)
              have e2 : ρ (.tmp 91) = .agg #[.int .i64 N, .int .i64 B, .int .i64 I, .slice (some ad) ops.length xc] := by rw [hρ]; exact acts_eval_hit 5 rfl hd.2.2.1 (by rw [HSZ]; rfl) (by kernel_rfl)
              have e3 : ρ (.tmp 92) = .agg #[.int .i64 ok, .int .i64 t, .int .i64 on, .int .i64 n, .slice A h.length a, .slice D b.length d] := by rw [hρ]; exact acts_eval_hit 6 rfl hd.2.2.2.1 (by rw [HSZ]; rfl) (by kernel_rfl)
              have ef : ρ (.func 20) = .func (.func 20) #[] #[] := by rw [hρ]; rfl
              clear hρ
              go_simp
            · (rintro x W' ⟨u2, G2, hG2, rfl, hr3, S'⟩; exact ⟨_, rfl, u2, G2, ⟨fun _ => rfl, hh.2⟩, hG.trans hG2, fun _ => hr3, acts_swap (by simp only [acts, h7, z8, z9, z11, Bool.false_eq_true, if_false]) (k := 7) rfl (by kernel_rfl) (by kernel_rfl), S'⟩)
          · rintro f a' W h8 hd ⟨u, G', hh, hG, hu, rfl, S⟩
            refine wpOp_run (v := .tuple #[u, .bool true]) rfl rfl (fun ρ hρ => ?_) ⟨u, G', ⟨fun _ => hd.1, fun h => rfl, hh.2.2⟩, hG, hu, (acts_some 8 rfl (by kernel_rfl) (by kernel_rfl)).symm, S⟩
            have e0 : ρ (.tmp 93) = .tuple #[u, .bool true] := by rw [hρ]; exact acts_eval_hit 7 rfl hd.1 (by rw [HSZ]; rfl) (by kernel_rfl)
            clear hρ
            skip
            go_simp
          · rintro f a' W h9 hd ⟨u, G', hh, hG, hu, rfl, S⟩
            refine wpOp_run (v := u) rfl rfl (fun ρ hρ => ?_) ⟨u, G', ⟨hh.1, fun _ => hd.1, fun h => rfl⟩, hG, hu, (acts_some 9 rfl (by kernel_rfl) (by kernel_rfl)).symm, S⟩
            have e0 : ρ (.tmp 85) = .tuple #[u, .bool true] := by rw [hρ]; exact acts_eval_hit 8 rfl hd.1 (by rw [HSZ]; rfl) (by kernel_rfl)
            clear hρ
            skip
            go_simp
          · rintro f a' W h10 hd ⟨u, G', hh, hG, hu, rfl, S⟩
            refine wpOp_run (v := .bool true) rfl rfl (fun ρ hρ => ?_) ⟨u, G', hh, hG, hu, (acts_some 10 rfl (by kernel_rfl) (by kernel_rfl)).symm, S⟩
            have e0 : ρ (.tmp 85) = .tuple #[u, .bool true] := by rw [hρ]; exact acts_eval_hit 8 rfl hd.1 (by rw [HSZ]; rfl) (by kernel_rfl)
            clear hρ
            go_simp
          · rintro f a' W h11 hd ⟨u, G', hh, hG, hu, rfl, S⟩
            refine wpOp_run (v := u) rfl rfl (fun ρ hρ => ?_) ⟨u, G', ⟨hh.1, hh.2.1, fun _ => hd.1⟩, hG, hu, (acts_some 11 rfl (by kernel_rfl) (by kernel_rfl)).symm, S⟩
            have e0 : ρ (.tmp 94) = u := by rw [hρ]; exact acts_eval_hit 9 rfl hd.1 (by rw [HSZ]; rfl) (by kernel_rfl)
            clear hρ
            skip
            go_simp
        rintro a' W ⟨u, G2, -, hG2, hu, rfl, S8⟩
        replace hu := hu rfl
        subst ha0
        simp only [acts, if_true, Act.put, List.setIfInBounds_toArray, List.set_cons_succ, List.set_cons_zero]
        have HU := Lib.hid hu
        clear S7 HSZ E1 E2 E5 E9 E11 hu
        have HS8 := Lib.hid S8
        clear S8
        go_upto_region 16 with fail
        have S7 := HS8.out
        clear HS8
        refine wp_act fun a0 ha0 => ?_
        have HSZ : a0.tmps.size = 133 := by rw [ha0]; rfl
        have E1 : a0.eval (.tmp 1) = .int .i64 t := by rw [ha0]; rfl
        have E2 : a0.eval (.tmp 2) = .pointer (some ⟨p1, 0, none⟩) := by rw [ha0]; rfl
        have E7 : a0.eval (.tmp 7) = .pointer (some ⟨q, 0, none⟩) := by rw [ha0]; rfl
        have E9 : a0.eval (.tmp 9) = .slice (some ⟨g, 0, none⟩) N N := by rw [ha0]; rfl
        have E11 : a0.eval (.tmp 11) = .pointer (some ⟨z, 0, none⟩) := by rw [ha0]; rfl
        refine wp_region_J (by kernel_rfl) 13 (by kernel_rfl) [[], [], [], [1, 2], [3], [], [], [0, 4, 5, 6], [7], [8], [8], [9, 7, 0, 1, 2, 3, 4, 5, 6, 7, 8, 9], [10, 11, 0, 1, 2, 3, 4, 5, 6, 7, 8, 9, 10, 11]] (by kernel_rfl) (by kernel_rfl) (fun f a' W => ∃ u2 G', HA16 f ∧ G2.le G' ∧ a' = acts [(0, 97, .pointer (some ⟨q, 0, none⟩)), (1, 98, .slice (some ⟨g, 0, none⟩) N N), (2, 99, .int .i64 t), (3, 100, .pointer (some ⟨g, t, none⟩)), (4, 101, v), (5, 102, .agg #[.int .i64 N, .int .i64 B, .int .i64 I, .slice (some ad) ops.length xc]), (6, 103, .agg #[.int .i64 ok, .int .i64 t, .int .i64 on, .int .i64 n, .slice A h.length a, .slice D b.length d]), (7, 104, .tuple #[u2, .bool true]), (8, 96, .tuple #[u2, .bool true]), (9, 105, u2), (10, 106, .bool true), (11, 13, u2), (12, 14, .bool true)] f a0 ∧ Sat G' W (quA q (cond (f 7) (Q.set t L') Q) B I :: blk z #[.int .i64 ok, .int .i64 t, .int .i64 on, .int .i64 n, .slice A h.length a, .slice D b.length d] 46 :: blk g U.toArray 48 :: quA p (P.set t L') B I :: [blk p1 #[.int .i64 N, .int .i64 B, .int .i64 I, .slice (some ad) ops.length xc] 41])) ?_ ?_ ?_
        · exact ⟨undef, G2, (by unfold HA16; decide), Gnd.le.rfl', rfl, (S7.re [3, 1, 2, 0, 4]).drew⟩
        · refine ⟨?_, ?_, ?_, ?_, ?_, ?_, ?_, ?_, ?_, ?_, ?_, ?_, ?_, trivial⟩
          · rintro f a' W h0 hd ⟨u2, G', hh, hG, rfl, S⟩
            refine wpOp_run (v := .pointer (some ⟨q, 0, none⟩)) rfl rfl (fun ρ hρ => ?_) ⟨u2, G', hh, hG, (acts_some 0 rfl (by kernel_rfl) (by kernel_rfl)).symm, S⟩
            have e0 : ρ (.tmp 7) = .pointer (some ⟨q, 0, none⟩) := by rw [hρ]; exact (acts_eval_tmp 7 (by kernel_rfl)).trans E7
            clear hρ
            go_simp
          · rintro f a' W h1 hd ⟨u2, G', hh, hG, rfl, S⟩
            refine wpOp_run (v := .slice (some ⟨g, 0, none⟩) N N) rfl rfl (fun ρ hρ => ?_) ⟨u2, G', hh, hG, (acts_some 1 rfl (by kernel_rfl) (by kernel_rfl)).symm, S⟩
            have e0 : ρ (.tmp 9) = .slice (some ⟨g, 0, none⟩) N N := by rw [hρ]; exact (acts_eval_tmp 9 (by kernel_rfl)).trans E9
            clear hρ
            go_simp
          · rintro f a' W h2 hd ⟨u2, G', hh, hG, rfl, S⟩
            refine wpOp_run (v := .int .i64 t) rfl rfl (fun ρ hρ => ?_) ⟨u2, G', hh, hG, (acts_some 2 rfl (by kernel_rfl) (by kernel_rfl)).symm, S⟩
            have e0 : ρ (.tmp 1) = .int .i64 t := by rw [hρ]; exact (acts_eval_tmp 1 (by kernel_rfl)).trans E1
            clear hρ
            go_simp
          · rintro f a' W h3 hd ⟨u2, G', hh, hG, rfl, S⟩
            refine wpOp_run (v := .pointer (some ⟨g, t, none⟩)) rfl rfl (fun ρ hρ => ?_) ⟨u2, G', hh, hG, (acts_some 3 rfl (by kernel_rfl) (by kernel_rfl)).symm, S⟩
            have e0 : ρ (.tmp 98) = .slice (some ⟨g, 0, none⟩) N N := by rw [hρ]; exact acts_eval_hit 1 rfl hd.1 (by rw [HSZ]; rfl) (by kernel_rfl)
            have e1 : ρ (.tmp 99) = .int .i64 t := by rw [hρ]; exact acts_eval_hit 2 rfl hd.2.1 (by rw [HSZ]; rfl) (by kernel_rfl)
            clear hρ
            go_simp
          · rintro f a' W h4 hd ⟨u2, G', hh, hG, rfl, S⟩
            refine wpOp_run (v := v) rfl rfl (fun ρ hρ => ?_) ⟨u2, G', hh, hG, (acts_some 4 rfl (by kernel_rfl) (by kernel_rfl)).symm, S⟩
            have e0 : ρ (.tmp 100) = .pointer (some ⟨g, t, none⟩) := by rw [hρ]; exact acts_eval_hit 3 rfl hd.1 (by rw [HSZ]; rfl) (by kernel_rfl)
            clear hρ
            (have hz := (S.pull2.cell t).trans HGU.out)
            go_simp
          · rintro f a' W h5 hd ⟨u2, G', hh, hG, rfl, S⟩
            refine wpOp_run (v := .agg #[.int .i64 N, .int .i64 B, .int .i64 I, .slice (some ad) ops.length xc]) rfl rfl (fun ρ hρ => ?_) ⟨u2, G', hh, hG, (acts_some 5 rfl (by kernel_rfl) (by kernel_rfl)).symm, S⟩
            have e0 : ρ (.tmp 2) = .pointer (some ⟨p1, 0, none⟩) := by rw [hρ]; exact (acts_eval_tmp 2 (by kernel_rfl)).trans E2
            clear hρ
            (have S9 := S.re [4, 0, 1, 2, 3]; have hz0 := S9.cell 0; have hz1 := S9.cell 1; have hz2 := S9.cell 2; have hz3 := S9.cell 3)
            go_simp
          · rintro f a' W h6 hd ⟨u2, G', hh, hG, rfl, S⟩
            refine wpOp_run (v := .agg #[.int .i64 ok, .int .i64 t, .int .i64 on, .int .i64 n, .slice A h.length a, .slice D b.length d]) rfl rfl (fun ρ hρ => ?_) ⟨u2, G', hh, hG, (acts_some 6 rfl (by kernel_rfl) (by kernel_rfl)).symm, S⟩
            have e0 : ρ (.tmp 11) = .pointer (some ⟨z, 0, none⟩) := by rw [hρ]; exact (acts_eval_tmp 11 (by kernel_rfl)).trans E11
            clear hρ
            (have hz0 := S.swap.cell 0; have hz1 := S.swap.cell 1; have hz2 := S.swap.cell 2; have hz3 := S.swap.cell 3; have hz4 := S.swap.cell 4; have hz5 := S.swap.cell 5)
            go_simp
          · rintro f a' W h7 hd ⟨u2, G', hh, hG, rfl, S⟩
            (have z8 := no_of hh.1 h7; have z9 := no_of hh.2.1 z8; have z11 := no_of hh.2.2 z9; rw [h7] at S)
            refine wpOp_call rfl rfl (fun ρ hρ => ?_) (HONq.out (hG2.trans hG) S) ?_
            · skip
              have e0 : ρ (.tmp 97) = .pointer (some ⟨q, 0, none⟩) := by rw [hρ]; exact acts_eval_hit 0 rfl hd.1 (by rw [HSZ]; rfl) (by kernel_rfl)
              have e1 : ρ (.tmp 101) = v := by rw [hρ]; exact acts_eval_hit 4 rfl hd.2.1 (by rw [HSZ]; rfl) (by kernel_rfl)
              have e2 : ρ (.tmp 102) = .agg #[.int .i64 N, .int .i64 B, .int .i64 I, .slice (some ad) ops.length xc] := by rw [hρ]; exact acts_eval_hit 5 rfl hd.2.2.1 (by rw [HSZ]; rfl) (by kernel_rfl)
              have e3 : ρ (.tmp 103) = .agg #[.int .i64 ok, .int .i64 t, .int .i64 on, .int .i64 n, .slice A h.length a, .slice D b.length d] := by rw [hρ]; exact acts_eval_hit 6 rfl hd.2.2.2.1 (by rw [HSZ]; rfl) (by kernel_rfl)
              have ef : ρ (.func 20) = .func (.func 20) #[] #[] := by rw [hρ]; rfl
              clear hρ
              go_simp
            · (rintro x W' ⟨u3, G3, hG3, rfl, hr3, S'⟩; exact ⟨_, rfl, u3, G3, ⟨fun _ => rfl, hh.2⟩, hG.trans hG3, acts_swap (by simp only [acts, h7, z8, z9, z11, Bool.false_eq_true, if_false]) (k := 7) rfl (by kernel_rfl) (by kernel_rfl), S'⟩)
          · rintro f a' W h8 hd ⟨u2, G', hh, hG, rfl, S⟩
            refine wpOp_run (v := .tuple #[u2, .bool true]) rfl rfl (fun ρ hρ => ?_) ⟨u2, G', ⟨fun _ => hd.1, fun h => rfl, hh.2.2⟩, hG, (acts_some 8 rfl (by kernel_rfl) (by kernel_rfl)).symm, S⟩
            have e0 : ρ (.tmp 104) = .tuple #[u2, .bool true] := by rw [hρ]; exact acts_eval_hit 7 rfl hd.1 (by rw [HSZ]; rfl) (by kernel_rfl)
            clear hρ
            skip
            go_simp
          · rintro f a' W h9 hd ⟨u2, G', hh, hG, rfl, S⟩
            refine wpOp_run (v := u2) rfl rfl (fun ρ hρ => ?_) ⟨u2, G', ⟨hh.1, fun _ => hd.1, fun h => rfl⟩, hG, (acts_some 9 rfl (by kernel_rfl) (by kernel_rfl)).symm, S⟩
            have e0 : ρ (.tmp 96) = .tuple #[u2, .bool true] := by rw [hρ]; exact acts_eval_hit 8 rfl hd.1 (by rw [HSZ]; rfl) (by kernel_rfl)
            clear hρ
            skip
            go_simp
          · rintro f a' W h10 hd ⟨u2, G', hh, hG, rfl, S⟩
            refine wpOp_run (v := .bool true) rfl rfl (fun ρ hρ => ?_) ⟨u2, G', hh, hG, (acts_some 10 rfl (by kernel_rfl) (by kernel_rfl)).symm, S⟩
            have e0 : ρ (.tmp 96) = .tuple #[u2, .bool true] := by rw [hρ]; exact acts_eval_hit 8 rfl hd.1 (by rw [HSZ]; rfl) (by kernel_rfl)
            clear hρ
            go_simp
          · rintro f a' W h11 hd ⟨u2, G', hh, hG, rfl, S⟩
            refine wpOp_run (v := u2) rfl rfl (fun ρ hρ => ?_) ⟨u2, G', ⟨hh.1, hh.2.1, fun _ => hd.1⟩, hG, (acts_some 11 rfl (by kernel_rfl) (by kernel_rfl)).symm, S⟩
            have e0 : ρ (.tmp 105) = u2 := by rw [hρ]; exact acts_eval_hit 9 rfl hd.1 (by rw [HSZ]; rfl) (by kernel_rfl)
            clear hρ
            skip
            go_simp
          · rintro f a' W h12 hd ⟨u2, G', hh, hG, rfl, S⟩
            refine wpOp_run (v := .bool true) rfl rfl (fun ρ hρ => ?_) ⟨u2, G', hh, hG, (acts_some 12 rfl (by kernel_rfl) (by kernel_rfl)).symm, S⟩
            have e0 : ρ (.tmp 106) = .bool true := by rw [hρ]; exact acts_eval_hit 10 rfl hd.1 (by rw [HSZ]; rfl) (by kernel_rfl)
            clear hρ
            go_simp
        rintro a' W3 ⟨u2, G3, -, hG3, rfl, S8⟩
        subst ha0
        simp only [acts, if_true, Act.put, List.setIfInBounds_toArray, List.set_cons_succ, List.set_cons_zero]
        replace S8 : Sat G3 W3 (quA q (Q.set t L') B I :: blk z #[.int .i64 ok, .int .i64 t, .int .i64 on, .int .i64 n, .slice A h.length a, .slice D b.length d] 46 :: blk g U.toArray 48 :: quA p (P.set t L') B I :: [blk p1 #[.int .i64 N, .int .i64 B, .int .i64 I, .slice (some ad) ops.length xc] 41]) := S8
        clear S7 HSZ E1 E2 E7 E9 E11
        have f0 := S8.pull2.frozen t
        have g0 := S8.pull2.cell t
        rw [HGU.out] at g0
        obtain ⟨ua, uc, rfl, -, -, -, -⟩ := id HU.out
        have S9 := S8.pull2.setCell t (.slice ua L'.length uc)
        rw [List.setIfInBounds_toArray] at S9
        have ho1 := HU.out.one
        have S10 := S9.re [3, 1, 2, 0, 4]
        clear S8
        go_upto_region 18 with fail
        refine wp_world S10 fun w9 S11 => ?_
        clear S9 S10 f0 g0
        have hb1 := qu_bytes S11 hwf t
        have hb2 := qu_bytes S11.swap hwfq t
        have hl1 := qu_len S11 hwf t
        have hl2 := qu_len S11.swap hwfq t
        rw [qAt_nat, HSP.out] at hb1 hl1
        rw [qAt_nat, HSQ.out] at hb2 hl2
        have HS := Lib.hid (S11.re [3, 0, 1, 4, 2])
        clear S11
        go_wp2_with fail
        (with_reducible refine hb1.mono ?_)
        clear hb1
        rintro e w10 ⟨rfl, rfl⟩
        go_wp2_with fail
        (with_reducible refine hb2.mono ?_)
        clear hb2
        rintro e w10 ⟨rfl, rfl⟩
        go_wp2_with fail
        (with_reducible refine hl1.mono ?_)
        clear hl1
        rintro e w10 ⟨rfl, rfl⟩
        go_wp2_with fail
        (with_reducible refine hl2.mono ?_)
        clear hl2
        rintro e w10 ⟨rfl, rfl⟩
        go_wp2_with fail
        go_roundw
        case rel => exact ⟨k + 1, _, P.set t L', Q.set t L', G3, by omega, by go_num, (hG1.trans hG2).trans hG3, hwf, hwfq, by simp [HN.out], by simp [HNq.out], HMS.out (hG2.trans hG3) (HU.out.mono hG3), by rw [HSP.out, HSQ.out], (HS.out.re [4, 0, 1, 2, 3]).drop⟩
        case measure => simp [intOf]; omega
      · obtain rfl : k = ops.length := by omega
        go_wp2_with fail
        (with_reducible refine (law_awake (S)).mono ?_); rintro e w9 ⟨rfl, G9, hG9, S9⟩; go_wp2_with fail; exact hK.out _ _ ⟨rfl, S9.above (Gnd.le.trans (hG1) hG9)⟩
  · rw [Bool.not_eq_true] at hq
    rw [hq] at hr
    go_enter Try.func6, Try.ntmps6
    go_wp2_with fail
    (with_reducible refine hr.mono ?_)
    clear hr
    rintro e w2 ⟨rfl, S2⟩
    clear S0
    go_wp2_with fail
    (with_reducible refine (law_awake (S2)).mono ?_); rintro e w9 ⟨rfl, G9, hG9, S9⟩; go_wp2_with fail; exact hK.out _ _ ⟨rfl, S9.above (Gnd.le.trans (hG0) hG9)⟩
end Go.Proofs.Ytidaafpfkbfiaaa
