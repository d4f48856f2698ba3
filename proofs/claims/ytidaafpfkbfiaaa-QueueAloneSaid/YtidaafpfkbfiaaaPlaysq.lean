/- The walk of the law QueuePlays. -/
import Derived.Test.YtidaafpfkbfiaaaStepq
import Derived.Test.YtidaafpfkbfiaaaNewL
set_option linter.unusedSimpArgs false
set_option linter.unusedVariables false
namespace Go.Proofs.Ytidaafpfkbfiaaa
open Go.RowKit

theorem arg_case {w : World} {v : Value} {d : D} (h : ArgV w (Ty.agg [.int .i64, .int .i64, .int .i64, .sl 80 (Ty.agg [.int .i64, .int .i64, .int .i64, (Ty.agg [.int .i64, .sl 1 (.int .u8), .sl 1 (.int .u8)])])]) v d) : ∃ t b i x ops, v = .agg #[.int .i64 t, .int .i64 b, .int .i64 i, x] ∧ ROps (Gnd.of w).ro x ops := by
  obtain ⟨cs, rfl, h⟩ := h
  obtain ⟨ds, rfl⟩ : ∃ ds, d = .agg ds := by cases d <;> (try simp only [Rd] at h) <;> exact ⟨_, rfl⟩
  simp only [Rd] at h
  obtain ⟨_, _, c0, _, rfl, e0, _, r0, h⟩ := rdAll_cons h
  obtain ⟨_, _, c1, _, rfl, rfl, _, r1, h⟩ := rdAll_cons h
  obtain ⟨_, _, c2, _, rfl, rfl, _, r2, h⟩ := rdAll_cons h
  obtain ⟨d3, _, c3, _, rfl, rfl, l3, r3, h⟩ := rdAll_cons h
  obtain rfl := rdAll_nil h
  obtain ⟨m0, rfl, -⟩ := rd_int1 r0
  obtain ⟨m1, rfl, w1⟩ := rd_int1 r1
  obtain ⟨m2, rfl, w2⟩ := rd_int1 r2
  obtain ⟨l, rfl⟩ : ∃ l, d3 = D.sl l := by cases d3 <;> (try simp only [Rd] at r3) <;> exact ⟨_, rfl⟩
  obtain ⟨x, rfl⟩ : ∃ x, c3 = [x] := by
    match c3, l3 with
    | [v], _ => exact ⟨v, rfl⟩
  have r3' : RdSl (Gnd.of w).ro 80 (Ty.agg [.int .i64, .int .i64, .int .i64, (Ty.agg [.int .i64, .sl 1 (.int .u8), .sl 1 (.int .u8)])]) x l := r3
  obtain ⟨ops, hx⟩ := ops_of r3'
  exact ⟨m0, m1, m2, x, ops, by rw [show cs = #[.int .i64 m0, .int .i64 m1, .int .i64 m2, x] from Array.toList_inj.1 (by rw [e0]; rfl)], hx⟩
theorem made_nil (n : Nat) : madeCells #[Value.slice none 0 0] n = (List.replicate n (Value.slice none 0 0)).toArray := by
  apply Array.toList_inj.1
  rw [toList_madeCells_one]
theorem wf_new {n : Nat} {B I : Int} (h : qRight n B I = true) : QWf (List.replicate n []) B I := by
  obtain ⟨a1, a2, a3, a4, a5, a6⟩ := of_decide_eq_true h
  refine ⟨by simp; omega, by simp; omega, a3, a4, a5, a6, fun L hL => ?_⟩
  obtain ⟨-, rfl⟩ := List.mem_replicate.1 hL
  simp [qsz]; omega
set_option maxHeartbeats 16000000 in
set_option maxRecDepth 100000 in
theorem queuePlays_walk (w : World) (v0 : Value) (h0 : ∃ d, ArgV w (Ty.agg [.int .i64, .int .i64, .int .i64, .sl 80 (Ty.agg [.int .i64, .int .i64, .int .i64, (Ty.agg [.int .i64, .sl 1 (.int .u8), .sl 1 (.int .u8)])])]) v0 d) :
    Calls Try.prog 5 #[v0] w fun e w' => e = .returned (.bool true) ∧ Below w.heap.size w w' := by
  refine calls_any fun K hK => ?_
  obtain ⟨_, h0⟩ := h0
  obtain ⟨t, B, I, x, ops, rfl, hops⟩ := arg_case h0
  clear h0
  have hops1 := hops
  obtain ⟨X, xc, rfl, hlc, hc, hel⟩ := hops
  have S0 := (Sat.start w).newBlk #[.int .i64 t, .int .i64 B, .int .i64 I, .slice X ops.length xc] 41
  have hG0 := Gnd.le.rfl' (G := Gnd.of w)
  have HEL := Lib.hid hel
  have hr := law_right S0 t B I _ ops hops1
  clear hel hops1
  by_cases hq : (decide (osum ops ≤ 200) && qRight t B I) = true
  · rw [hq] at hr
    rw [Bool.and_eq_true] at hq
    have hq2 := hq.2
    have hq3 := of_decide_eq_true hq2
    obtain ⟨a1, a2, a3, a4, a5, a6⟩ := hq3
    obtain ⟨N, rfl⟩ : ∃ N : Nat, t = N := ⟨t.toNat, by omega⟩
    have hw0 := wf_new hq2
    have hmk := run_make_any (P := Try.prog) 44 48 (.slice none 0 0) 1 24 Try.underlying44 (by kernel_rfl) N (by omega) (by omega)
    have hmn := made_nil N
    have HB := Lib.hid hmn
    have HQ2 := Lib.hid hq2
    clear hq a1 a3 a5 hmn hq2
    go_enter Try.func5, Try.ntmps5
    go_wp2_with fail
    (with_reducible refine hr.mono ?_)
    clear hr
    obtain ⟨p1, hp1⟩ : ∃ p, p = w.heap.size := ⟨_, rfl⟩
    rw [← hp1] at S0 ⊢
    clear hp1
    rintro e w2 ⟨rfl, S2⟩
    have o0 := S2.cell 0
    have o1 := S2.cell 1
    have o2 := S2.cell 2
    have hnw := qu_new S2 N B I HQ2.out
    clear S2 S0
    go_wp2_with fail
    (with_reducible refine hnw.mono ?_)
    clear hnw o0 o1 o2
    rintro e w3 ⟨q, rfl, S3⟩
    have o0 := S3.swap.cell 0
    have o3 := S3.swap.cell 3
    have S4 := S3.newBlk (madeCells #[Value.slice none 0 0] N) 48
    clear S3
    go_upto_region 7 with fail
    generalize w3.heap.size = g at *
    refine wp_world S4 fun w4 S5 => ?_
    rw [HB.out] at S5
    clear S4 hmk o0 o3
    have o3 := S5.pull2.cell 3
    go_wp2_with fail
    go_loopw [35] (fun i wr => ∃ (k : Nat) (U : List Value) (Q : List (List It)) (G' : Gnd), k ≤ ops.length ∧ i = .int .i64 k ∧ (Gnd.of w).le G' ∧ QWf Q B I ∧ Q.length = N ∧ MR (cellR G'.ro) U Q ∧ Sat G' wr [blk g U.toArray 48, quA q Q B I, blk p1 #[.int .i64 N, .int .i64 B, .int .i64 I, .slice X ops.length xc] 41]) (fun i _ => ops.length - (intOf i).toNat)
    case atStart => exact ⟨0, List.replicate N (Value.slice none 0 0), List.replicate N [], Gnd.of w, Nat.zero_le _, rfl, hG0, hw0, by simp, MR.nil _ N, S5⟩
    case round =>
      obtain ⟨k, U, Q, G1, hk, rfl, hG1, hw, hN, hm, S⟩ := hrel
      clear S5 o3
      by_cases hlt : k < ops.length
      · have hok := List.getElem?_eq_getElem hlt
        obtain ⟨ad, bo, off, rfl, had, hcl, ho⟩ := HEL.out k _ hok
        generalize ops[k] = o at hcl ho
        clear hok
        obtain ⟨ok, ot, on, ⟨n, hv1, bv1, h, b⟩⟩ := o
        obtain ⟨A, a, D, d, e1, e2⟩ := qe_slices ho.x
        simp only at e1 e2
        subst e1
        subst e2
        simp only [OpD.cells, Qe.enc] at hcl
        have m0 := S.cellR (cellR_mono hG1.ro (hcl 0 _ rfl))
        rw [Nat.add_zero] at m0
        have m1 := S.cellR (cellR_mono hG1.ro (hcl 1 _ rfl))
        have m2 := S.cellR (cellR_mono hG1.ro (hcl 2 _ rfl))
        have m3 := S.cellR (cellR_mono hG1.ro (hcl 3 _ rfl))
        have m4 := S.cellR (cellR_mono hG1.ro (hcl 4 _ rfl))
        have m5 := S.cellR (cellR_mono hG1.ro (hcl 5 _ rfl))
        have S6 := S.newBlk #[.int .i64 ok, .int .i64 ot, .int .i64 on, .int .i64 n, .slice A h.length a, .slice D b.length d] 46
        have HS6 := Lib.hid S6
        have hstep := fun (W : World) (l : List Asrt) (S : Sat G1 W (blk g U.toArray 48 :: quA q Q B I :: l)) => law_step (T := N) (X := some ad) (xn := ops.length) (xc := xc) S hw hm (by rw [hN]) (ho.mono hG1)
        simp only [hN] at hstep
        have HST := Lib.hid hstep
        have HO := Lib.hid ho
        have HM := Lib.hid hm
        have HN := Lib.hid hN
        clear S S6 hcl ho hstep hm hN
        go_upto_region 10 with fail
        generalize wr.heap.size = z at *
        refine wp_world HS6.out fun w5 S7 => ?_
        clear HS6 m0 m1 m2 m3 m4 m5
        have m0 := S7.cell 0
        have m1 := S7.cell 1
        have m2 := S7.cell 2
        have m3 := S7.cell 3
        have m4 := S7.cell 4
        have m5 := S7.cell 5
        have n0 := S7.pull3.cell 0
        have n1 := S7.pull3.cell 1
        have n2 := S7.pull3.cell 2
        have n3 := S7.pull3.cell 3
        have hst := HST.out w5 _ (S7.re [1, 2, 0, 3])
        simp only [OpD.cells, Qe.enc] at hst
        clear S7
        go_wp2_with fail
        (with_reducible refine hst.mono ?_)
        clear hst m0 m1 m2 m3 m4 m5 n0 n1 n2 n3
        rintro e w6 ⟨U2, Q2, G2, hG2, rfl, hw2, hl2, hm2, S8, -⟩
        go_wp2_with fail
        go_loopw [47] (fun i wr => ∃ j : Nat, j ≤ N ∧ i = .int .i64 j ∧ Sat G2 wr [blk g U2.toArray 48, quA q Q2 B I, blk z #[.int .i64 ok, .int .i64 ot, .int .i64 on, .int .i64 n, .slice A h.length a, .slice D b.length d] 46, blk p1 #[.int .i64 N, .int .i64 B, .int .i64 I, .slice (some ad) ops.length xc] 41]) (fun i _ => N - (intOf i).toNat)
        case atStart => exact ⟨0, Nat.zero_le _, rfl, S8⟩
        case round =>
          obtain ⟨j, hj, rfl, S⟩ := hrel
          clear S8
          by_cases hjl : j < N
          · obtain ⟨va, vc, hu, hv1, hv2, -, -⟩ := id (hm2.el j (by omega))
            have hjU : j < U2.length := by have := hm2.len; omega
            have hgu : U2.toArray[j]? = some (U2.getD j undef) := by simp [List.getD_eq_getElem?_getD, List.getElem?_eq_getElem hjU]
            have hat := hw2.at_ j
            have hjn : (j : Int) < N := by omega
            have hln := fun (W : World) (l : List Asrt) (S : Sat G2 W (quA q Q2 B I :: l)) => qu_len S hw2 j
            have hby := fun (W : World) (l : List Asrt) (S : Sat G2 W (quA q Q2 B I :: l)) => qu_bytes S hw2 j
            have hsz := fun (W : World) (l : List Asrt) (S : Sat G2 W l) => ref_size ((hm2.el j (by omega)).sat S) (by omega)
            simp only [qAt_nat] at hln hby
            rw [hu] at hgu hsz
            generalize (Q2.getD j []).length = Ln at *
            generalize qsz (Q2.getD j []) = sz at *
            have HD1 : Hid (decide ((sz : Int) > B) = false) := Lib.hid (decide_eq_false (by omega))
            have HD2 : Hid (decide ((Ln : Int) > I) = false) := Lib.hid (decide_eq_false (by omega))
            have HLN := Lib.hid hln
            have HBY := Lib.hid hby
            have HZ := Lib.hid hsz
            have HGU := Lib.hid hgu
            clear hln hby hsz hgu hat hu
            go_upto_region 15 with fail
            refine wp_act fun a0 ha0 => ?_
            have HSZ : a0.tmps.size = 89 := by rw [ha0]; rfl
            have E1 : a0.eval (.tmp 1) = .pointer (some ⟨p1, 0, none⟩) := by rw [ha0]; rfl
            have E3 : a0.eval (.tmp 3) = .pointer (some ⟨q, 0, none⟩) := by rw [ha0]; rfl
            have E5 : a0.eval (.tmp 5) = .slice (some ⟨g, 0, none⟩) N N := by rw [ha0]; rfl
            have E8 : a0.eval (.tmp 8) = .int .i64 j := by rw [ha0]; rfl
            refine wp_region_sat (by kernel_rfl) 36 (by kernel_rfl) [[], [], [0, 1], [], [], [3, 4], [5], [6], [2, 7], [8, 2], [9], [9], [10, 11, 9, 9], [9], [9], [13, 14, 9], [15, 9], [16, 12, 9], [12, 17, 9], [9, 18], [19, 17], [20], [20], [21, 22, 20, 20], [20], [24, 20], [23, 25, 20], [20, 26], [27, 23], [28], [28], [29, 30, 28, 28], [28], [32, 28], [31, 33, 28], [28, 34]] (by kernel_rfl) (by kernel_rfl) [(0, 50, .pointer (some ⟨q, 0, none⟩)), (1, 51, .int .i64 j), (2, 52, .int .i64 Ln), (3, 53, .slice (some ⟨g, 0, none⟩) N N), (4, 54, .int .i64 j), (5, 55, .pointer (some ⟨g, j, none⟩)), (6, 56, .slice va Ln vc), (7, 57, .int .i64 Ln), (8, 58, .bool false), (9, 59, .bool false), (10, 60, .pointer (some ⟨q, 0, none⟩)), (11, 61, .int .i64 j), (12, 62, .int .i64 sz), (13, 63, .slice (some ⟨g, 0, none⟩) N N), (14, 64, .int .i64 j), (15, 65, .pointer (some ⟨g, j, none⟩)), (16, 66, .slice va Ln vc), (17, 67, .int .i64 sz), (18, 68, .bool false), (19, 69, .bool false), (20, 70, .bool false), (21, 71, .pointer (some ⟨q, 0, none⟩)), (22, 72, .int .i64 j), (23, 73, .int .i64 sz), (24, 74, .pointer (some ⟨p1, 1, none⟩)), (25, 75, .int .i64 B), (26, 76, .bool false), (27, 77, .bool false), (28, 78, .bool false), (29, 79, .pointer (some ⟨q, 0, none⟩)), (30, 80, .int .i64 j), (31, 81, .int .i64 Ln), (32, 82, .pointer (some ⟨p1, 2, none⟩)), (33, 83, .int .i64 I), (34, 84, .bool false), (35, 85, .bool false)] (fun _ => [blk g U2.toArray 48, quA q Q2 B I, blk z #[.int .i64 ok, .int .i64 ot, .int .i64 on, .int .i64 n, .slice A h.length a, .slice D b.length d] 46, blk p1 #[.int .i64 N, .int .i64 B, .int .i64 I, .slice (some ad) ops.length xc] 41]) (by kernel_rfl) S ?_ ?_
            · refine ⟨?_, ?_, ?_, ?_, ?_, ?_, ?_, ?_, ?_, ?_, ?_, ?_, ?_, ?_, ?_, ?_, ?_, ?_, ?_, ?_, ?_, ?_, ?_, ?_, ?_, ?_, ?_, ?_, ?_, ?_, ?_, ?_, ?_, ?_, ?_, ?_, trivial⟩
              · intro f W h0 hd S
                refine wpOp_run (v := .pointer (some ⟨q, 0, none⟩)) rfl rfl (fun ρ hρ => ?_) ⟨(acts_some 0 rfl (by kernel_rfl) (by kernel_rfl)).symm, S⟩
                have e0 : ρ (.tmp 3) = .pointer (some ⟨q, 0, none⟩) := by rw [hρ]; exact (acts_eval_tmp 3 (by kernel_rfl)).trans E3
                clear hρ
                go_simp
              · intro f W h1 hd S
                refine wpOp_run (v := .int .i64 j) rfl rfl (fun ρ hρ => ?_) ⟨(acts_some 1 rfl (by kernel_rfl) (by kernel_rfl)).symm, S⟩
                have e0 : ρ (.tmp 8) = .int .i64 j := by rw [hρ]; exact (acts_eval_tmp 8 (by kernel_rfl)).trans E8
                clear hρ
                go_simp
              · intro f W h2 hd S
                refine wpOp_call rfl rfl (fun ρ hρ => ?_) (HLN.out W _ S.swap) ?_
                · skip
                  have e0 : ρ (.tmp 50) = .pointer (some ⟨q, 0, none⟩) := by rw [hρ]; exact acts_eval_hit 0 rfl hd.1 (by rw [HSZ]; rfl) (by kernel_rfl)
                  have e1 : ρ (.tmp 51) = .int .i64 j := by rw [hρ]; exact acts_eval_hit 1 rfl hd.2.1 (by rw [HSZ]; rfl) (by kernel_rfl)
                  have ef : ρ (.func 15) = .func (.func 15) #[] #[] := by rw [hρ]; rfl
                  clear hρ
                  go_simp
                · (rintro x W' ⟨rfl, rfl⟩; exact ⟨_, rfl, (acts_some 2 rfl (by kernel_rfl) (by kernel_rfl)).symm, S⟩)
              · intro f W h3 hd S
                refine wpOp_run (v := .slice (some ⟨g, 0, none⟩) N N) rfl rfl (fun ρ hρ => ?_) ⟨(acts_some 3 rfl (by kernel_rfl) (by kernel_rfl)).symm, S⟩
                have e0 : ρ (.tmp 5) = .slice (some ⟨g, 0, none⟩) N N := by rw [hρ]; exact (acts_eval_tmp 5 (by kernel_rfl)).trans E5
                clear hρ
                go_simp
              · intro f W h4 hd S
                refine wpOp_run (v := .int .i64 j) rfl rfl (fun ρ hρ => ?_) ⟨(acts_some 4 rfl (by kernel_rfl) (by kernel_rfl)).symm, S⟩
                have e0 : ρ (.tmp 8) = .int .i64 j := by rw [hρ]; exact (acts_eval_tmp 8 (by kernel_rfl)).trans E8
                clear hρ
                go_simp
              · intro f W h5 hd S
                refine wpOp_run (v := .pointer (some ⟨g, j, none⟩)) rfl rfl (fun ρ hρ => ?_) ⟨(acts_some 5 rfl (by kernel_rfl) (by kernel_rfl)).symm, S⟩
                have e0 : ρ (.tmp 53) = .slice (some ⟨g, 0, none⟩) N N := by rw [hρ]; exact acts_eval_hit 3 rfl hd.1 (by rw [HSZ]; rfl) (by kernel_rfl)
                have e1 : ρ (.tmp 54) = .int .i64 j := by rw [hρ]; exact acts_eval_hit 4 rfl hd.2.1 (by rw [HSZ]; rfl) (by kernel_rfl)
                clear hρ
                go_simp
              · intro f W h6 hd S
                refine wpOp_run (v := .slice va Ln vc) rfl rfl (fun ρ hρ => ?_) ⟨(acts_some 6 rfl (by kernel_rfl) (by kernel_rfl)).symm, S⟩
                have e0 : ρ (.tmp 55) = .pointer (some ⟨g, j, none⟩) := by rw [hρ]; exact acts_eval_hit 5 rfl hd.1 (by rw [HSZ]; rfl) (by kernel_rfl)
                clear hρ
                (have hz := (S.cell j).trans HGU.out)
                go_simp
              · intro f W h7 hd S
                refine wpOp_run (v := .int .i64 Ln) rfl rfl (fun ρ hρ => ?_) ⟨(acts_some 7 rfl (by kernel_rfl) (by kernel_rfl)).symm, S⟩
                have e0 : ρ (.tmp 56) = .slice va Ln vc := by rw [hρ]; exact acts_eval_hit 6 rfl hd.1 (by rw [HSZ]; rfl) (by kernel_rfl)
                clear hρ
                go_simp
              · intro f W h8 hd S
                refine wpOp_run (v := .bool false) rfl rfl (fun ρ hρ => ?_) ⟨(acts_some 8 rfl (by kernel_rfl) (by kernel_rfl)).symm, S⟩
                have e0 : ρ (.tmp 52) = .int .i64 Ln := by rw [hρ]; exact acts_eval_hit 2 rfl hd.1 (by rw [HSZ]; rfl) (by kernel_rfl)
                have e1 : ρ (.tmp 57) = .int .i64 Ln := by rw [hρ]; exact acts_eval_hit 7 rfl hd.2.1 (by rw [HSZ]; rfl) (by kernel_rfl)
                clear hρ
                go_simp
              · intro f W h9 hd S
                refine wpOp_run (v := .bool false) rfl rfl (fun ρ hρ => ?_) ⟨(acts_some 9 rfl (by kernel_rfl) (by kernel_rfl)).symm, S⟩
                have e0 : ρ (.tmp 58) = .bool false := by rw [hρ]; exact acts_eval_hit 8 rfl hd.1 (by rw [HSZ]; rfl) (by kernel_rfl)
                clear hρ
                go_simp
              · intro f W h10 hd S
                refine wpOp_runG (v := .pointer (some ⟨q, 0, none⟩)) rfl ?_ (fun ρ hρ => ?_) ⟨(acts_some 10 rfl (by kernel_rfl) (by kernel_rfl)).symm, S⟩
                · exact wanted_hit (t := 59) rfl rfl (acts_eval_hit 9 rfl hd.1 (by rw [HSZ]; rfl) (by kernel_rfl))
                · skip
                  have e0 : ρ (.tmp 3) = .pointer (some ⟨q, 0, none⟩) := by rw [hρ]; exact (acts_eval_tmp 3 (by kernel_rfl)).trans E3
                  clear hρ
                  go_simp
              · intro f W h11 hd S
                refine wpOp_runG (v := .int .i64 j) rfl ?_ (fun ρ hρ => ?_) ⟨(acts_some 11 rfl (by kernel_rfl) (by kernel_rfl)).symm, S⟩
                · exact wanted_hit (t := 59) rfl rfl (acts_eval_hit 9 rfl hd.1 (by rw [HSZ]; rfl) (by kernel_rfl))
                · skip
                  have e0 : ρ (.tmp 8) = .int .i64 j := by rw [hρ]; exact (acts_eval_tmp 8 (by kernel_rfl)).trans E8
                  clear hρ
                  go_simp
              · intro f W h12 hd S
                refine wpOp_callG rfl (wanted_hit (t := 59) rfl rfl (acts_eval_hit 9 rfl hd.2.2.1 (by rw [HSZ]; rfl) (by kernel_rfl))) (fun ρ hρ => ?_) (HBY.out W _ S.swap) ?_
                · skip
                  have e0 : ρ (.tmp 60) = .pointer (some ⟨q, 0, none⟩) := by rw [hρ]; exact acts_eval_hit 10 rfl hd.1 (by rw [HSZ]; rfl) (by kernel_rfl)
                  have e1 : ρ (.tmp 61) = .int .i64 j := by rw [hρ]; exact acts_eval_hit 11 rfl hd.2.1 (by rw [HSZ]; rfl) (by kernel_rfl)
                  have ef : ρ (.func 18) = .func (.func 18) #[] #[] := by rw [hρ]; rfl
                  clear hρ
                  go_simp
                · (rintro x W' ⟨rfl, rfl⟩; exact ⟨_, rfl, (acts_some 12 rfl (by kernel_rfl) (by kernel_rfl)).symm, S⟩)
              · intro f W h13 hd S
                refine wpOp_runG (v := .slice (some ⟨g, 0, none⟩) N N) rfl ?_ (fun ρ hρ => ?_) ⟨(acts_some 13 rfl (by kernel_rfl) (by kernel_rfl)).symm, S⟩
                · exact wanted_hit (t := 59) rfl rfl (acts_eval_hit 9 rfl hd.1 (by rw [HSZ]; rfl) (by kernel_rfl))
                · skip
                  have e0 : ρ (.tmp 5) = .slice (some ⟨g, 0, none⟩) N N := by rw [hρ]; exact (acts_eval_tmp 5 (by kernel_rfl)).trans E5
                  clear hρ
                  go_simp
              · intro f W h14 hd S
                refine wpOp_runG (v := .int .i64 j) rfl ?_ (fun ρ hρ => ?_) ⟨(acts_some 14 rfl (by kernel_rfl) (by kernel_rfl)).symm, S⟩
                · exact wanted_hit (t := 59) rfl rfl (acts_eval_hit 9 rfl hd.1 (by rw [HSZ]; rfl) (by kernel_rfl))
                · skip
                  have e0 : ρ (.tmp 8) = .int .i64 j := by rw [hρ]; exact (acts_eval_tmp 8 (by kernel_rfl)).trans E8
                  clear hρ
                  go_simp
              · intro f W h15 hd S
                refine wpOp_runG (v := .pointer (some ⟨g, j, none⟩)) rfl ?_ (fun ρ hρ => ?_) ⟨(acts_some 15 rfl (by kernel_rfl) (by kernel_rfl)).symm, S⟩
                · exact wanted_hit (t := 59) rfl rfl (acts_eval_hit 9 rfl hd.2.2.1 (by rw [HSZ]; rfl) (by kernel_rfl))
                · skip
                  have e0 : ρ (.tmp 63) = .slice (some ⟨g, 0, none⟩) N N := by rw [hρ]; exact acts_eval_hit 13 rfl hd.1 (by rw [HSZ]; rfl) (by kernel_rfl)
                  have e1 : ρ (.tmp 64) = .int .i64 j := by rw [hρ]; exact acts_eval_hit 14 rfl hd.2.1 (by rw [HSZ]; rfl) (by kernel_rfl)
                  clear hρ
                  go_simp
              · intro f W h16 hd S
                refine wpOp_runG (v := .slice va Ln vc) rfl ?_ (fun ρ hρ => ?_) ⟨(acts_some 16 rfl (by kernel_rfl) (by kernel_rfl)).symm, S⟩
                · exact wanted_hit (t := 59) rfl rfl (acts_eval_hit 9 rfl hd.2.1 (by rw [HSZ]; rfl) (by kernel_rfl))
                · skip
                  have e0 : ρ (.tmp 65) = .pointer (some ⟨g, j, none⟩) := by rw [hρ]; exact acts_eval_hit 15 rfl hd.1 (by rw [HSZ]; rfl) (by kernel_rfl)
                  clear hρ
                  (have hz := (S.cell j).trans HGU.out)
                  go_simp
              · intro f W h17 hd S
                refine wpOp_callG rfl (wanted_hit (t := 59) rfl rfl (acts_eval_hit 9 rfl hd.2.2.1 (by rw [HSZ]; rfl) (by kernel_rfl))) (fun ρ hρ => ?_) (HZ.out W _ S) ?_
                · skip
                  have e0 : ρ (.tmp 66) = .slice va Ln vc := by rw [hρ]; exact acts_eval_hit 16 rfl hd.1 (by rw [HSZ]; rfl) (by kernel_rfl)
                  have ef : ρ (.func 19) = .func (.func 19) #[] #[] := by rw [hρ]; rfl
                  clear hρ
                  go_simp
                · (rintro x W' ⟨rfl, n, rfl⟩; exact ⟨_, rfl, (acts_some 17 rfl (by kernel_rfl) (by kernel_rfl)).symm, S.drewQ n⟩)
              · intro f W h18 hd S
                refine wpOp_runG (v := .bool false) rfl ?_ (fun ρ hρ => ?_) ⟨(acts_some 18 rfl (by kernel_rfl) (by kernel_rfl)).symm, S⟩
                · exact wanted_hit (t := 59) rfl rfl (acts_eval_hit 9 rfl hd.2.2.1 (by rw [HSZ]; rfl) (by kernel_rfl))
                · skip
                  have e0 : ρ (.tmp 62) = .int .i64 sz := by rw [hρ]; exact acts_eval_hit 12 rfl hd.1 (by rw [HSZ]; rfl) (by kernel_rfl)
                  have e1 : ρ (.tmp 67) = .int .i64 sz := by rw [hρ]; exact acts_eval_hit 17 rfl hd.2.1 (by rw [HSZ]; rfl) (by kernel_rfl)
                  clear hρ
                  go_simp
              · intro f W h19 hd S
                refine wpOp_run (v := .bool false) rfl rfl (fun ρ hρ => ?_) ⟨(acts_some 19 rfl (by kernel_rfl) (by kernel_rfl)).symm, S⟩
                have e0 : ρ (.tmp 59) = .bool false := by rw [hρ]; exact acts_eval_hit 9 rfl hd.1 (by rw [HSZ]; rfl) (by kernel_rfl)
                have e1 : ρ (.tmp 68) = .bool false := by rw [hρ]; exact acts_eval_hit 18 rfl hd.2.1 (by rw [HSZ]; rfl) (by kernel_rfl)
                have ec : ∀ v, ρ (.const v) = v := by rw [hρ]; exact fun _ => rfl
                clear hρ
                go_simp
              · intro f W h20 hd S
                refine wpOp_run (v := .bool false) rfl rfl (fun ρ hρ => ?_) ⟨(acts_some 20 rfl (by kernel_rfl) (by kernel_rfl)).symm, S⟩
                have e0 : ρ (.tmp 69) = .bool false := by rw [hρ]; exact acts_eval_hit 19 rfl hd.1 (by rw [HSZ]; rfl) (by kernel_rfl)
                clear hρ
                go_simp
              · intro f W h21 hd S
                refine wpOp_runG (v := .pointer (some ⟨q, 0, none⟩)) rfl ?_ (fun ρ hρ => ?_) ⟨(acts_some 21 rfl (by kernel_rfl) (by kernel_rfl)).symm, S⟩
                · exact wanted_hit (t := 70) rfl rfl (acts_eval_hit 20 rfl hd.1 (by rw [HSZ]; rfl) (by kernel_rfl))
                · skip
                  have e0 : ρ (.tmp 3) = .pointer (some ⟨q, 0, none⟩) := by rw [hρ]; exact (acts_eval_tmp 3 (by kernel_rfl)).trans E3
                  clear hρ
                  go_simp
              · intro f W h22 hd S
                refine wpOp_runG (v := .int .i64 j) rfl ?_ (fun ρ hρ => ?_) ⟨(acts_some 22 rfl (by kernel_rfl) (by kernel_rfl)).symm, S⟩
                · exact wanted_hit (t := 70) rfl rfl (acts_eval_hit 20 rfl hd.1 (by rw [HSZ]; rfl) (by kernel_rfl))
                · skip
                  have e0 : ρ (.tmp 8) = .int .i64 j := by rw [hρ]; exact (acts_eval_tmp 8 (by kernel_rfl)).trans E8
                  clear hρ
                  go_simp
              · intro f W h23 hd S
                refine wpOp_callG rfl (wanted_hit (t := 70) rfl rfl (acts_eval_hit 20 rfl hd.2.2.1 (by rw [HSZ]; rfl) (by kernel_rfl))) (fun ρ hρ => ?_) (HBY.out W _ S.swap) ?_
                · skip
                  have e0 : ρ (.tmp 71) = .pointer (some ⟨q, 0, none⟩) := by rw [hρ]; exact acts_eval_hit 21 rfl hd.1 (by rw [HSZ]; rfl) (by kernel_rfl)
                  have e1 : ρ (.tmp 72) = .int .i64 j := by rw [hρ]; exact acts_eval_hit 22 rfl hd.2.1 (by rw [HSZ]; rfl) (by kernel_rfl)
                  have ef : ρ (.func 18) = .func (.func 18) #[] #[] := by rw [hρ]; rfl
                  clear hρ
                  go_simp
                · (rintro x W' ⟨rfl, rfl⟩; exact ⟨_, rfl, (acts_some 23 rfl (by kernel_rfl) (by kernel_rfl)).symm, S⟩)
              · intro f W h24 hd S
                refine wpOp_runG (v := .pointer (some ⟨p1, 1, none⟩)) rfl ?_ (fun ρ hρ => ?_) ⟨(acts_some 24 rfl (by kernel_rfl) (by kernel_rfl)).symm, S⟩
                · exact wanted_hit (t := 70) rfl rfl (acts_eval_hit 20 rfl hd.1 (by rw [HSZ]; rfl) (by kernel_rfl))
                · skip
                  have e0 : ρ (.tmp 1) = .pointer (some ⟨p1, 0, none⟩) := by rw [hρ]; exact (acts_eval_tmp 1 (by kernel_rfl)).trans E1
                  clear hρ
                  go_simp
              · intro f W h25 hd S
                refine wpOp_runG (v := .int .i64 B) rfl ?_ (fun ρ hρ => ?_) ⟨(acts_some 25 rfl (by kernel_rfl) (by kernel_rfl)).symm, S⟩
                · exact wanted_hit (t := 70) rfl rfl (acts_eval_hit 20 rfl hd.2.1 (by rw [HSZ]; rfl) (by kernel_rfl))
                · skip
                  have e0 : ρ (.tmp 74) = .pointer (some ⟨p1, 1, none⟩) := by rw [hρ]; exact acts_eval_hit 24 rfl hd.1 (by rw [HSZ]; rfl) (by kernel_rfl)
                  clear hρ
                  (have hz := S.pull3.cell 1)
                  go_simp
              · intro f W h26 hd S
                refine wpOp_runG (v := .bool false) rfl ?_ (fun ρ hρ => ?_) ⟨(acts_some 26 rfl (by kernel_rfl) (by kernel_rfl)).symm, S⟩
                · exact wanted_hit (t := 70) rfl rfl (acts_eval_hit 20 rfl hd.2.2.1 (by rw [HSZ]; rfl) (by kernel_rfl))
                · skip
                  have e0 : ρ (.tmp 73) = .int .i64 sz := by rw [hρ]; exact acts_eval_hit 23 rfl hd.1 (by rw [HSZ]; rfl) (by kernel_rfl)
                  have e1 : ρ (.tmp 75) = .int .i64 B := by rw [hρ]; exact acts_eval_hit 25 rfl hd.2.1 (by rw [HSZ]; rfl) (by kernel_rfl)
                  clear hρ
                  (have hz := HD1.out)
                  go_simp
              · intro f W h27 hd S
                refine wpOp_run (v := .bool false) rfl rfl (fun ρ hρ => ?_) ⟨(acts_some 27 rfl (by kernel_rfl) (by kernel_rfl)).symm, S⟩
                have e0 : ρ (.tmp 70) = .bool false := by rw [hρ]; exact acts_eval_hit 20 rfl hd.1 (by rw [HSZ]; rfl) (by kernel_rfl)
                have e1 : ρ (.tmp 76) = .bool false := by rw [hρ]; exact acts_eval_hit 26 rfl hd.2.1 (by rw [HSZ]; rfl) (by kernel_rfl)
                have ec : ∀ v, ρ (.const v) = v := by rw [hρ]; exact fun _ => rfl
                clear hρ
                go_simp
              · intro f W h28 hd S
                refine wpOp_run (v := .bool false) rfl rfl (fun ρ hρ => ?_) ⟨(acts_some 28 rfl (by kernel_rfl) (by kernel_rfl)).symm, S⟩
                have e0 : ρ (.tmp 77) = .bool false := by rw [hρ]; exact acts_eval_hit 27 rfl hd.1 (by rw [HSZ]; rfl) (by kernel_rfl)
                clear hρ
                go_simp
              · intro f W h29 hd S
                refine wpOp_runG (v := .pointer (some ⟨q, 0, none⟩)) rfl ?_ (fun ρ hρ => ?_) ⟨(acts_some 29 rfl (by kernel_rfl) (by kernel_rfl)).symm, S⟩
                · exact wanted_hit (t := 78) rfl rfl (acts_eval_hit 28 rfl hd.1 (by rw [HSZ]; rfl) (by kernel_rfl))
                · skip
                  have e0 : ρ (.tmp 3) = .pointer (some ⟨q, 0, none⟩) := by rw [hρ]; exact (acts_eval_tmp 3 (by kernel_rfl)).trans E3
                  clear hρ
                  go_simp
              · intro f W h30 hd S
                refine wpOp_runG (v := .int .i64 j) rfl ?_ (fun ρ hρ => ?_) ⟨(acts_some 30 rfl (by kernel_rfl) (by kernel_rfl)).symm, S⟩
                · exact wanted_hit (t := 78) rfl rfl (acts_eval_hit 28 rfl hd.1 (by rw [HSZ]; rfl) (by kernel_rfl))
                · skip
                  have e0 : ρ (.tmp 8) = .int .i64 j := by rw [hρ]; exact (acts_eval_tmp 8 (by kernel_rfl)).trans E8
                  clear hρ
                  go_simp
              · intro f W h31 hd S
                refine wpOp_callG rfl (wanted_hit (t := 78) rfl rfl (acts_eval_hit 28 rfl hd.2.2.1 (by rw [HSZ]; rfl) (by kernel_rfl))) (fun ρ hρ => ?_) (HLN.out W _ S.swap) ?_
                · skip
                  have e0 : ρ (.tmp 79) = .pointer (some ⟨q, 0, none⟩) := by rw [hρ]; exact acts_eval_hit 29 rfl hd.1 (by rw [HSZ]; rfl) (by kernel_rfl)
                  have e1 : ρ (.tmp 80) = .int .i64 j := by rw [hρ]; exact acts_eval_hit 30 rfl hd.2.1 (by rw [HSZ]; rfl) (by kernel_rfl)
                  have ef : ρ (.func 15) = .func (.func 15) #[] #[] := by rw [hρ]; rfl
                  clear hρ
                  go_simp
                · (rintro x W' ⟨rfl, rfl⟩; exact ⟨_, rfl, (acts_some 31 rfl (by kernel_rfl) (by kernel_rfl)).symm, S⟩)
              · intro f W h32 hd S
                refine wpOp_runG (v := .pointer (some ⟨p1, 2, none⟩)) rfl ?_ (fun ρ hρ => ?_) ⟨(acts_some 32 rfl (by kernel_rfl) (by kernel_rfl)).symm, S⟩
                · exact wanted_hit (t := 78) rfl rfl (acts_eval_hit 28 rfl hd.1 (by rw [HSZ]; rfl) (by kernel_rfl))
                · skip
                  have e0 : ρ (.tmp 1) = .pointer (some ⟨p1, 0, none⟩) := by rw [hρ]; exact (acts_eval_tmp 1 (by kernel_rfl)).trans E1
                  clear hρ
                  go_simp
              · intro f W h33 hd S
                refine wpOp_runG (v := .int .i64 I) rfl ?_ (fun ρ hρ => ?_) ⟨(acts_some 33 rfl (by kernel_rfl) (by kernel_rfl)).symm, S⟩
                · exact wanted_hit (t := 78) rfl rfl (acts_eval_hit 28 rfl hd.2.1 (by rw [HSZ]; rfl) (by kernel_rfl))
                · skip
                  have e0 : ρ (.tmp 82) = .pointer (some ⟨p1, 2, none⟩) := by rw [hρ]; exact acts_eval_hit 32 rfl hd.1 (by rw [HSZ]; rfl) (by kernel_rfl)
                  clear hρ
                  (have hz := S.pull3.cell 2)
                  go_simp
              · intro f W h34 hd S
                refine wpOp_runG (v := .bool false) rfl ?_ (fun ρ hρ => ?_) ⟨(acts_some 34 rfl (by kernel_rfl) (by kernel_rfl)).symm, S⟩
                · exact wanted_hit (t := 78) rfl rfl (acts_eval_hit 28 rfl hd.2.2.1 (by rw [HSZ]; rfl) (by kernel_rfl))
                · skip
                  have e0 : ρ (.tmp 81) = .int .i64 Ln := by rw [hρ]; exact acts_eval_hit 31 rfl hd.1 (by rw [HSZ]; rfl) (by kernel_rfl)
                  have e1 : ρ (.tmp 83) = .int .i64 I := by rw [hρ]; exact acts_eval_hit 33 rfl hd.2.1 (by rw [HSZ]; rfl) (by kernel_rfl)
                  clear hρ
                  (have hz := HD2.out)
                  go_simp
              · intro f W h35 hd S
                refine wpOp_run (v := .bool false) rfl rfl (fun ρ hρ => ?_) ⟨(acts_some 35 rfl (by kernel_rfl) (by kernel_rfl)).symm, S⟩
                have e0 : ρ (.tmp 78) = .bool false := by rw [hρ]; exact acts_eval_hit 28 rfl hd.1 (by rw [HSZ]; rfl) (by kernel_rfl)
                have e1 : ρ (.tmp 84) = .bool false := by rw [hρ]; exact acts_eval_hit 34 rfl hd.2.1 (by rw [HSZ]; rfl) (by kernel_rfl)
                have ec : ∀ v, ρ (.const v) = v := by rw [hρ]; exact fun _ => rfl
                clear hρ
                go_simp
            intro W S9
            subst ha0
            simp only [acts, if_true, Act.put, List.setIfInBounds_toArray, List.set_cons_succ, List.set_cons_zero]
            have HS := Lib.hid S9
            clear S9 S HSZ E1 E3 E5 E8
            go_wp2_with fail
            go_roundw
            case rel => exact ⟨j + 1, by omega, by go_num, HS.out⟩
            case measure => simp [intOf]; omega
          · obtain rfl : j = N := by omega
            have HS := Lib.hid S.pull2.drop
            clear S
            go_wp2_with fail
            go_roundw
            case rel => exact ⟨k + 1, U2, Q2, G2, by omega, by go_num, hG1.trans hG2, hw2, hl2, hm2, HS.out⟩
            case measure => simp [intOf]; omega
      · obtain rfl : k = ops.length := by omega
        go_wp2_with fail
        (with_reducible refine (law_awake (S)).mono ?_); rintro e w9 ⟨rfl, G9, hG9, S9⟩; go_wp2_with fail; exact hK.out _ _ ⟨rfl, S9.above (Gnd.le.trans (hG1) hG9)⟩
  · rw [Bool.not_eq_true] at hq
    rw [hq] at hr
    go_enter Try.func5, Try.ntmps5
    go_wp2_with fail
    (with_reducible refine hr.mono ?_)
    clear hr
    rintro e w2 ⟨rfl, S2⟩
    go_wp2_with fail
    (with_reducible refine (law_awake (S2)).mono ?_); rintro e w9 ⟨rfl, G9, hG9, S9⟩; go_wp2_with fail; exact hK.out _ _ ⟨rfl, S9.above (Gnd.le.trans (hG0) hG9)⟩
end Go.Proofs.Ytidaafpfkbfiaaa
