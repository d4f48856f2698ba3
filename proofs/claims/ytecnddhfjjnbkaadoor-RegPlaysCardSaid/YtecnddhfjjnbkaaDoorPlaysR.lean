/- The walk of the law RegPlays. -/
import Derived.Test.YtecnddhfjjnbkaaDoorSm
import Derived.Test.YtecnddhfjjnbkaaDoorAloneL
set_option linter.unusedSimpArgs false
set_option linter.unusedVariables false
namespace Go.Proofs.YtecnddhfjjnbkaaDoor
open Go.RowKit

theorem Sat.dropAt2 {G : Gnd} {w : World} {A B C : Asrt} {l : List Asrt} (H : Sat G w (A :: B :: C :: l)) : Sat G w (A :: B :: l) := ((H.re [2, 0, 1]).drop)
set_option maxHeartbeats 16000000 in
set_option maxRecDepth 100000 in
theorem regPlays_walk (w : World) (v0 : Value) (h0 : ∃ d, ArgV w (Ty.agg [.int .i64, .int .i64, .sl 24 (Ty.agg [.int .i64, .int .i64, .int .i64])]) v0 d) (htab : TabW w) :
    Calls Tryd.prog 5 #[v0] w fun e w' => e = .returned (.bool true) ∧ Below w.heap.size w w' := by
  refine calls_any fun K hK => ?_
  obtain ⟨_, h0⟩ := h0
  obtain ⟨ten, quo, x, ops, rfl, X, c, rfl, hlc, hc, hel⟩ := arg_case h0
  clear h0
  have HT := Lib.hid (TabG.of htab)
  clear htab
  have S0 := (Sat.start w).newBlk #[.int .i64 ten, .int .i64 quo, .slice X ops.length c] 29
  have hr := law_right S0 ten quo X ops.length c
  have o0 := S0.cell 0
  have o1 := S0.cell 1
  have o2 := S0.cell 2
  have HEL := Lib.hid hel
  clear hel
  cases hq : lawRight ten quo ops.length with
  | false =>
    rw [hq] at hr
    clear S0
    go_enter Tryd.func5, Tryd.ntmps5
    go_wp2_with fail
    (with_reducible refine (hr).mono ?_); rintro e w1 ⟨rfl, S1⟩
    clear o0 o1 o2 hr
    go_wp2_with fail
    (with_reducible refine (law_awake (S1) (HT.out.mono Gnd.le.rfl')).mono ?_); rintro e w9 ⟨rfl, S9⟩; go_wp2_with fail; exact hK.out _ _ ⟨rfl, S9.above Gnd.le.rfl'⟩
  | true =>
  rw [hq] at hr
  obtain ⟨a1, a2, a3, a4, a5⟩ := of_decide_eq_true hq
  clear S0 hq
  obtain ⟨T, rfl⟩ : ∃ j : Nat, ten = j := ⟨ten.toNat, by omega⟩
  have hrr : rRight T quo = true := decide_eq_true (by omega)
  go_enter Tryd.func5, Tryd.ntmps5
  go_wp2_with fail
  (with_reducible refine (hr).mono ?_); rintro e w1 ⟨rfl, S1⟩
  clear o0 o1 o2 hr
  have o0 := S1.cell 0
  have o1 := S1.cell 1
  have hn := rg_new S1 T quo hrr
  clear S1
  obtain ⟨p, hp⟩ : ∃ p, p = w.heap.size := ⟨_, rfl⟩
  rw [← hp] at hn o0 o1 ⊢
  clear hp
  go_wp2_with fail
  (with_reducible refine (hn).mono ?_); rintro e w1 ⟨g, rfl, S2⟩
  clear o0 o1 hn
  have o2 := S2.swap.cell 2
  have hI0 := Lib.hid (SInv.new hrr)
  clear hrr
  obtain ⟨N, hN⟩ : ∃ N, N = ops.length := ⟨_, rfl⟩
  rw [← hN] at a5 hlc o2 S2 ⊢
  have HN := Lib.hid hN
  clear hN
  go_wp2_with fail
  go_loopw [5, 6, 34] (fun xs la i wr => ∃ (k : Nat) (s : StM) (G1 : Gnd) (v : Value), k ≤ N ∧ i = .int .i64 k ∧ xs = v ∧ la = .int .i64 s.last ∧ SInv k T quo s ∧ (∀ x ∈ s.L, x ≤ quo) ∧ (Gnd.of w).le G1 ∧ RL (cellR G1.ro) v s.X ∧ Sat G1 wr [rgA g T quo s.F s.L s.last, blk p #[.int .i64 T, .int .i64 quo, .slice X N c] 29]) (fun _ _ i _ => N - (intOf i).toNat)
  case atStart => exact ⟨0, ⟨[], List.replicate T 0, 0, []⟩, Gnd.of w, .slice none 0 0, Nat.zero_le _, rfl, rfl, rfl, hI0.out, (fun x hx => by obtain ⟨-, rfl⟩ := List.mem_replicate.1 hx; omega), Gnd.le.rfl', RL.nil _, S2⟩
  case round =>
    obtain ⟨k, s, G1, v, hk, rfl, rfl, rfl, hI, hQ, hG1, hv, S5⟩ := hrel
    clear o2 S2 hI0
    by_cases hlt : k < N
    · obtain ⟨o, ho⟩ : ∃ o, ops[k]? = some o := ⟨_, List.getElem?_eq_getElem (by rw [← HN.out]; exact hlt)⟩
      obtain ⟨a, b, off, rfl, hab, q0, q1, q2⟩ := HEL.out k o ho
      have q0 := S5.cellR (cellR_mono hG1.ro q0)
      have q1 := S5.cellR (cellR_mono hG1.ro q1)
      have q2 := S5.cellR (cellR_mono hG1.ro q2)
      have S6 := S5.newBlk #[.int .i64 o.k, .int .i64 o.n, .int .i64 o.e] 37
      have hlt2 : (k : Int) < (N : Int) := by omega
      have HI1 := Lib.hid (hI.step o)
      have HQ1 := Lib.hid (stepM_quo hI hQ o)
      have hst := fun (W : World) (l : List Asrt) (S : Sat G1 W (rgA g T quo s.F s.L s.last :: l)) => law_step S hI (by omega) (HT.out.mono hG1) hv (some a) N c o
      clear ho S5 hI hQ
      obtain ⟨ok, on, oe⟩ := o
      simp only at q0 q1 q2 S6 hst
      obtain ⟨A1, c1, rfl, -⟩ := id hv
      obtain ⟨la, hla⟩ : ∃ la, la = s.last := ⟨_, rfl⟩
      obtain ⟨M, hM⟩ : ∃ M, M = s.X.length := ⟨_, rfl⟩
      rw [← hla, ← hM] at hst ⊢
      generalize stepM T quo s ⟨ok, on, oe⟩ = s1 at *
      rw [← hla] at S6
      clear hv hla hM
      go_upto_region 12 with fail
      generalize wr.heap.size = z at *
      refine wp_world S6 fun w1 S7 => ?_
      clear S6 q0 q1 q2 hab
      have d0 := S7.cell 0
      have d1 := S7.cell 1
      have d2 := S7.cell 2
      have o0 := S7.pull2.cell 0
      have o1 := S7.pull2.cell 1
      have o2 := S7.pull2.cell 2
      have hst := hst _ _ S7.swap
      clear S7
      go_wp2_with fail
      (with_reducible refine hst.mono ?_)
      clear hst d0 d1 d2 o0 o1 o2
      rintro e w2 ⟨u, G2, hG2, rfl, hu, S8⟩
      have hG12 := hG1.trans hG2
      have hsm := law_same S8 HI1.out (by omega) HQ1.out hu (some a) N c
      have o0 := S8.pull2.cell 0
      have o1 := S8.pull2.cell 1
      have o2 := S8.pull2.cell 2
      clear S8
      go_wp2_with fail
      (with_reducible refine hsm.mono ?_)
      clear hsm o0 o1 o2
      rintro e w3 ⟨rfl, G3, hG3, S9⟩
      have hu3 := hu.mono hG3
      have hG13 := hG12.trans hG3
      have hfi := ref_find (hu3.sat S9) (by have := HI1.out.sim.len; have := HI1.out.r.few; omega) on
      have hfx := HI1.out.sim.find on
      have d1 := S9.swap.cell 1
      have HS9 := Lib.hid S9
      clear S9 hu hG12
      cases ha : atE s1.F on with
      | none =>
        rw [findR_none (hfx.trans ha)] at hfi
        have hno : ∀ x ∈ s1.F, x.id ≠ on := fun x hx => by
          unfold atE at ha
          rw [List.findIdx?_eq_none_iff] at ha
          exact beq_eq_false_iff_ne.1 (ha x hx)
        have hge := rg_get_none HS9.out HI1.out.r.rise (by have := HI1.out.r.few; omega) on hno
        have hd1 := fun (W : World) (S : Sat G3 W (rgA g T quo s1.F s1.L s1.last :: blk z #[.int .i64 ok, .int .i64 on, .int .i64 oe] 37 :: blk p #[.int .i64 T, .int .i64 quo, .slice (some a) N c] 29 :: [])) => S.swap.cell 1
        clear hno ha hfx
        go_wp2_with fail
        (with_reducible refine hfi.mono ?_)
        clear hfi
        rintro e w4 ⟨rfl, rfl⟩
        go_wp2_with fail
        (with_reducible refine hge.mono ?_)
        clear hge d1
        rintro e w4 ⟨rfl, S10⟩
        have S11 := S10.newBlk #[.int .i64 0, .int .i64 0, .int .i64 0] 52
        clear S10 hd1
        go_upto_region 17 with fail
        generalize w4.heap.size = y at *
        refine wp_world S11 fun w5 S12 => ?_
        clear S11
        refine wp_act fun a0 ha0 => ?_
        have HSZ : a0.tmps.size = 99 := by rw [ha0]; rfl
        have E10 : a0.eval (.tmp 10) = .int .i64 (-1) := by rw [ha0]; rfl
        have E12 : a0.eval (.tmp 12) = .int .i64 14 := by rw [ha0]; rfl
        have E11 : a0.eval (.tmp 11) = .pointer (some ⟨y, 0, none⟩) := by rw [ha0]; rfl
        refine wp_region_J (by kernel_rfl) 28 (by kernel_rfl) [[], [0], [1], [2], [3, 2], [4, 2, 2], [5], [5], [6, 7, 5], [5, 8, 2], [2, 9], [10, 5], [11], [12, 11], [13, 11, 11], [14], [15, 14], [16, 14, 14], [17], [17], [17], [19, 20, 17], [21, 17], [22, 17, 17], [18, 23, 17], [17, 24, 14], [14, 25, 11], [11, 26]] (by kernel_rfl) (by kernel_rfl) (fun f a' W => a' = acts [(0, 69, .int .i64 (-1)), (1, 70, .bool true), (2, 71, .bool true), (3, 72, .int .i64 14), (4, 73, .bool false), (5, 74, .bool false), (6, 75, .agg #[.int .i64 0, .int .i64 0, .int .i64 0]), (7, 76, .agg #[.int .i64 0, .int .i64 0, .int .i64 0]), (8, 77, .bool false), (9, 78, .bool false), (10, 79, .bool false), (11, 80, .bool false), (12, 81, .int .i64 (-1)), (13, 82, .bool false), (14, 83, .bool false), (15, 84, undef), (16, 85, undef), (17, 86, undef), (18, 87, undef), (19, 88, undef), (20, 89, undef), (21, 90, undef), (22, 91, undef), (23, 92, undef), (24, 93, undef), (25, 94, undef), (26, 95, .bool false), (27, 96, .bool false)] f a0 ∧ Sat G3 W (blk y #[.int .i64 0, .int .i64 0, .int .i64 0] 52 :: rgA g T quo s1.F s1.L s1.last :: blk z #[.int .i64 ok, .int .i64 on, .int .i64 oe] 37 :: blk p #[.int .i64 T, .int .i64 quo, .slice (some a) N c] 29 :: [])) ?_ ?_ ?_
        · exact ⟨rfl, S12.drew⟩
        · refine ⟨?_, ?_, ?_, ?_, ?_, ?_, ?_, ?_, ?_, ?_, ?_, ?_, ?_, ?_, ?_, ?_, ?_, ?_, ?_, ?_, ?_, ?_, ?_, ?_, ?_, ?_, ?_, ?_, trivial⟩
          · rintro f a' W h0 hd ⟨rfl, S⟩
            refine wpOp_run (v := .int .i64 (-1)) rfl rfl (fun ρ hρ => ?_) ⟨(acts_some 0 rfl (by kernel_rfl) (by kernel_rfl)).symm, S⟩
            have e0 : ρ (.tmp 10) = .int .i64 (-1) := by rw [hρ]; exact (acts_eval_tmp 10 (by kernel_rfl)).trans E10
            clear hρ
            go_simp
          · rintro f a' W h1 hd ⟨rfl, S⟩
            refine wpOp_run (v := .bool true) rfl rfl (fun ρ hρ => ?_) ⟨(acts_some 1 rfl (by kernel_rfl) (by kernel_rfl)).symm, S⟩
            have e0 : ρ (.tmp 69) = .int .i64 (-1) := by rw [hρ]; exact acts_eval_hit 0 rfl hd.1 (by rw [HSZ]; rfl) (by kernel_rfl)
            have ec : ∀ v, ρ (.const v) = v := by rw [hρ]; exact fun _ => rfl
            clear hρ
            go_simp
          · rintro f a' W h2 hd ⟨rfl, S⟩
            refine wpOp_run (v := .bool true) rfl rfl (fun ρ hρ => ?_) ⟨(acts_some 2 rfl (by kernel_rfl) (by kernel_rfl)).symm, S⟩
            have e0 : ρ (.tmp 70) = .bool true := by rw [hρ]; exact acts_eval_hit 1 rfl hd.1 (by rw [HSZ]; rfl) (by kernel_rfl)
            clear hρ
            go_simp
          · rintro f a' W h3 hd ⟨rfl, S⟩
            refine wpOp_runG (v := .int .i64 14) rfl ?_ (fun ρ hρ => ?_) ⟨(acts_some 3 rfl (by kernel_rfl) (by kernel_rfl)).symm, S⟩
            · exact wanted_hit (t := 71) rfl rfl (acts_eval_hit 2 rfl hd.1 (by rw [HSZ]; rfl) (by kernel_rfl))
            · skip
              have e0 : ρ (.tmp 12) = .int .i64 14 := by rw [hρ]; exact (acts_eval_tmp 12 (by kernel_rfl)).trans E12
              clear hρ
              go_simp
          · rintro f a' W h4 hd ⟨rfl, S⟩
            refine wpOp_runG (v := .bool false) rfl ?_ (fun ρ hρ => ?_) ⟨(acts_some 4 rfl (by kernel_rfl) (by kernel_rfl)).symm, S⟩
            · exact wanted_hit (t := 71) rfl rfl (acts_eval_hit 2 rfl hd.2.1 (by rw [HSZ]; rfl) (by kernel_rfl))
            · skip
              have e0 : ρ (.tmp 72) = .int .i64 14 := by rw [hρ]; exact acts_eval_hit 3 rfl hd.1 (by rw [HSZ]; rfl) (by kernel_rfl)
              have ec : ∀ v, ρ (.const v) = v := by rw [hρ]; exact fun _ => rfl
              clear hρ
              go_simp
          · rintro f a' W h5 hd ⟨rfl, S⟩
            refine wpOp_runG (v := .bool false) rfl ?_ (fun ρ hρ => ?_) ⟨(acts_some 5 rfl (by kernel_rfl) (by kernel_rfl)).symm, S⟩
            · exact wanted_hit (t := 71) rfl rfl (acts_eval_hit 2 rfl hd.2.1 (by rw [HSZ]; rfl) (by kernel_rfl))
            · skip
              have e0 : ρ (.tmp 73) = .bool false := by rw [hρ]; exact acts_eval_hit 4 rfl hd.1 (by rw [HSZ]; rfl) (by kernel_rfl)
              clear hρ
              go_simp
          · rintro f a' W h6 hd ⟨rfl, S⟩
            refine wpOp_runG (v := .agg #[.int .i64 0, .int .i64 0, .int .i64 0]) rfl ?_ (fun ρ hρ => ?_) ⟨(acts_some 6 rfl (by kernel_rfl) (by kernel_rfl)).symm, S⟩
            · exact wanted_hit (t := 74) rfl rfl (acts_eval_hit 5 rfl hd.1 (by rw [HSZ]; rfl) (by kernel_rfl))
            · skip
              have e0 : ρ (.tmp 11) = .pointer (some ⟨y, 0, none⟩) := by rw [hρ]; exact (acts_eval_tmp 11 (by kernel_rfl)).trans E11
              clear hρ
              (have hz0 := S.cell 0; have hz1 := S.cell 1; have hz2 := S.cell 2)
              go_simp
          · rintro f a' W h7 hd ⟨rfl, S⟩
            refine wpOp_runG (v := .agg #[.int .i64 0, .int .i64 0, .int .i64 0]) rfl ?_ (fun ρ hρ => ?_) ⟨(acts_some 7 rfl (by kernel_rfl) (by kernel_rfl)).symm, S⟩
            · exact wanted_hit (t := 74) rfl rfl (acts_eval_hit 5 rfl hd.1 (by rw [HSZ]; rfl) (by kernel_rfl))
            · skip
              clear hρ
              go_simp
          · rintro f a' W h8 hd ⟨rfl, S⟩
            refine wpOp_runG (v := .bool false) rfl ?_ (fun ρ hρ => ?_) ⟨(acts_some 8 rfl (by kernel_rfl) (by kernel_rfl)).symm, S⟩
            · exact wanted_hit (t := 74) rfl rfl (acts_eval_hit 5 rfl hd.2.2.1 (by rw [HSZ]; rfl) (by kernel_rfl))
            · skip
              have e0 : ρ (.tmp 75) = .agg #[.int .i64 0, .int .i64 0, .int .i64 0] := by rw [hρ]; exact acts_eval_hit 6 rfl hd.1 (by rw [HSZ]; rfl) (by kernel_rfl)
              have e1 : ρ (.tmp 76) = .agg #[.int .i64 0, .int .i64 0, .int .i64 0] := by rw [hρ]; exact acts_eval_hit 7 rfl hd.2.1 (by rw [HSZ]; rfl) (by kernel_rfl)
              clear hρ
              (have hz := eq_en 0 0 0 W)
              go_simp
          · rintro f a' W h9 hd ⟨rfl, S⟩
            refine wpOp_runG (v := .bool false) rfl ?_ (fun ρ hρ => ?_) ⟨(acts_some 9 rfl (by kernel_rfl) (by kernel_rfl)).symm, S⟩
            · exact wanted_hit (t := 71) rfl rfl (acts_eval_hit 2 rfl hd.2.2.1 (by rw [HSZ]; rfl) (by kernel_rfl))
            · skip
              have e0 : ρ (.tmp 74) = .bool false := by rw [hρ]; exact acts_eval_hit 5 rfl hd.1 (by rw [HSZ]; rfl) (by kernel_rfl)
              have e1 : ρ (.tmp 77) = .bool false := by rw [hρ]; exact acts_eval_hit 8 rfl hd.2.1 (by rw [HSZ]; rfl) (by kernel_rfl)
              have ec : ∀ v, ρ (.const v) = v := by rw [hρ]; exact fun _ => rfl
              clear hρ
              go_simp
          · rintro f a' W h10 hd ⟨rfl, S⟩
            refine wpOp_run (v := .bool false) rfl rfl (fun ρ hρ => ?_) ⟨(acts_some 10 rfl (by kernel_rfl) (by kernel_rfl)).symm, S⟩
            have e0 : ρ (.tmp 71) = .bool true := by rw [hρ]; exact acts_eval_hit 2 rfl hd.1 (by rw [HSZ]; rfl) (by kernel_rfl)
            have e1 : ρ (.tmp 78) = .bool false := by rw [hρ]; exact acts_eval_hit 9 rfl hd.2.1 (by rw [HSZ]; rfl) (by kernel_rfl)
            have ec : ∀ v, ρ (.const v) = v := by rw [hρ]; exact fun _ => rfl
            clear hρ
            go_simp
          · rintro f a' W h11 hd ⟨rfl, S⟩
            refine wpOp_run (v := .bool false) rfl rfl (fun ρ hρ => ?_) ⟨(acts_some 11 rfl (by kernel_rfl) (by kernel_rfl)).symm, S⟩
            have e0 : ρ (.tmp 79) = .bool false := by rw [hρ]; exact acts_eval_hit 10 rfl hd.1 (by rw [HSZ]; rfl) (by kernel_rfl)
            clear hρ
            go_simp
          · rintro f a' W h12 hd ⟨rfl, S⟩
            refine wpOp_runG (v := .int .i64 (-1)) rfl ?_ (fun ρ hρ => ?_) ⟨(acts_some 12 rfl (by kernel_rfl) (by kernel_rfl)).symm, S⟩
            · exact wanted_hit (t := 80) rfl rfl (acts_eval_hit 11 rfl hd.1 (by rw [HSZ]; rfl) (by kernel_rfl))
            · skip
              have e0 : ρ (.tmp 10) = .int .i64 (-1) := by rw [hρ]; exact (acts_eval_tmp 10 (by kernel_rfl)).trans E10
              clear hρ
              go_simp
          · rintro f a' W h13 hd ⟨rfl, S⟩
            refine wpOp_runG (v := .bool false) rfl ?_ (fun ρ hρ => ?_) ⟨(acts_some 13 rfl (by kernel_rfl) (by kernel_rfl)).symm, S⟩
            · exact wanted_hit (t := 80) rfl rfl (acts_eval_hit 11 rfl hd.2.1 (by rw [HSZ]; rfl) (by kernel_rfl))
            · skip
              have e0 : ρ (.tmp 81) = .int .i64 (-1) := by rw [hρ]; exact acts_eval_hit 12 rfl hd.1 (by rw [HSZ]; rfl) (by kernel_rfl)
              have ec : ∀ v, ρ (.const v) = v := by rw [hρ]; exact fun _ => rfl
              clear hρ
              go_simp
          · rintro f a' W h14 hd ⟨rfl, S⟩
            refine wpOp_runG (v := .bool false) rfl ?_ (fun ρ hρ => ?_) ⟨(acts_some 14 rfl (by kernel_rfl) (by kernel_rfl)).symm, S⟩
            · exact wanted_hit (t := 80) rfl rfl (acts_eval_hit 11 rfl hd.2.1 (by rw [HSZ]; rfl) (by kernel_rfl))
            · skip
              have e0 : ρ (.tmp 82) = .bool false := by rw [hρ]; exact acts_eval_hit 13 rfl hd.1 (by rw [HSZ]; rfl) (by kernel_rfl)
              clear hρ
              go_simp
          · rintro f a' W h15 hd ⟨rfl, S⟩
            refine wpOp_skip rfl (wanted_miss (t := 83) rfl rfl (acts_eval_hit 14 rfl hd.1 (by rw [HSZ]; rfl) (by kernel_rfl)) (by decide)) ⟨(acts_some 15 rfl (by kernel_rfl) (by kernel_rfl)).symm, S⟩
          · rintro f a' W h16 hd ⟨rfl, S⟩
            refine wpOp_skip rfl (wanted_miss (t := 83) rfl rfl (acts_eval_hit 14 rfl hd.2.1 (by rw [HSZ]; rfl) (by kernel_rfl)) (by decide)) ⟨(acts_some 16 rfl (by kernel_rfl) (by kernel_rfl)).symm, S⟩
          · rintro f a' W h17 hd ⟨rfl, S⟩
            refine wpOp_skip rfl (wanted_miss (t := 83) rfl rfl (acts_eval_hit 14 rfl hd.2.1 (by rw [HSZ]; rfl) (by kernel_rfl)) (by decide)) ⟨(acts_some 17 rfl (by kernel_rfl) (by kernel_rfl)).symm, S⟩
          · rintro f a' W h18 hd ⟨rfl, S⟩
            refine wpOp_skip rfl (wanted_none (t := 86) rfl rfl (acts_eval_hit 17 rfl hd.1 (by rw [HSZ]; rfl) (by kernel_rfl))) ⟨(acts_some 18 rfl (by kernel_rfl) (by kernel_rfl)).symm, S⟩
          · rintro f a' W h19 hd ⟨rfl, S⟩
            refine wpOp_skip rfl (wanted_none (t := 86) rfl rfl (acts_eval_hit 17 rfl hd.1 (by rw [HSZ]; rfl) (by kernel_rfl))) ⟨(acts_some 19 rfl (by kernel_rfl) (by kernel_rfl)).symm, S⟩
          · rintro f a' W h20 hd ⟨rfl, S⟩
            refine wpOp_skip rfl (wanted_none (t := 86) rfl rfl (acts_eval_hit 17 rfl hd.1 (by rw [HSZ]; rfl) (by kernel_rfl))) ⟨(acts_some 20 rfl (by kernel_rfl) (by kernel_rfl)).symm, S⟩
          · rintro f a' W h21 hd ⟨rfl, S⟩
            refine wpOp_skip rfl (wanted_none (t := 86) rfl rfl (acts_eval_hit 17 rfl hd.2.2.1 (by rw [HSZ]; rfl) (by kernel_rfl))) ⟨(acts_some 21 rfl (by kernel_rfl) (by kernel_rfl)).symm, S⟩
          · rintro f a' W h22 hd ⟨rfl, S⟩
            refine wpOp_skip rfl (wanted_none (t := 86) rfl rfl (acts_eval_hit 17 rfl hd.2.1 (by rw [HSZ]; rfl) (by kernel_rfl))) ⟨(acts_some 22 rfl (by kernel_rfl) (by kernel_rfl)).symm, S⟩
          · rintro f a' W h23 hd ⟨rfl, S⟩
            refine wpOp_skip rfl (wanted_none (t := 86) rfl rfl (acts_eval_hit 17 rfl hd.2.1 (by rw [HSZ]; rfl) (by kernel_rfl))) ⟨(acts_some 23 rfl (by kernel_rfl) (by kernel_rfl)).symm, S⟩
          · rintro f a' W h24 hd ⟨rfl, S⟩
            refine wpOp_skip rfl (wanted_none (t := 86) rfl rfl (acts_eval_hit 17 rfl hd.2.2.1 (by rw [HSZ]; rfl) (by kernel_rfl))) ⟨(acts_some 24 rfl (by kernel_rfl) (by kernel_rfl)).symm, S⟩
          · rintro f a' W h25 hd ⟨rfl, S⟩
            refine wpOp_skip rfl (wanted_miss (t := 83) rfl rfl (acts_eval_hit 14 rfl hd.2.2.1 (by rw [HSZ]; rfl) (by kernel_rfl)) (by decide)) ⟨(acts_some 25 rfl (by kernel_rfl) (by kernel_rfl)).symm, S⟩
          · rintro f a' W h26 hd ⟨rfl, S⟩
            refine wpOp_runG (v := .bool false) rfl ?_ (fun ρ hρ => ?_) ⟨(acts_some 26 rfl (by kernel_rfl) (by kernel_rfl)).symm, S⟩
            · exact wanted_hit (t := 80) rfl rfl (acts_eval_hit 11 rfl hd.2.2.1 (by rw [HSZ]; rfl) (by kernel_rfl))
            · skip
              have e0 : ρ (.tmp 83) = .bool false := by rw [hρ]; exact acts_eval_hit 14 rfl hd.1 (by rw [HSZ]; rfl) (by kernel_rfl)
              have e1 : ρ (.tmp 94) = undef := by rw [hρ]; exact acts_eval_hit 25 rfl hd.2.1 (by rw [HSZ]; rfl) (by kernel_rfl)
              have ec : ∀ v, ρ (.const v) = v := by rw [hρ]; exact fun _ => rfl
              clear hρ
              go_simp
          · rintro f a' W h27 hd ⟨rfl, S⟩
            refine wpOp_run (v := .bool false) rfl rfl (fun ρ hρ => ?_) ⟨(acts_some 27 rfl (by kernel_rfl) (by kernel_rfl)).symm, S⟩
            have e0 : ρ (.tmp 80) = .bool false := by rw [hρ]; exact acts_eval_hit 11 rfl hd.1 (by rw [HSZ]; rfl) (by kernel_rfl)
            have e1 : ρ (.tmp 95) = .bool false := by rw [hρ]; exact acts_eval_hit 26 rfl hd.2.1 (by rw [HSZ]; rfl) (by kernel_rfl)
            have ec : ∀ v, ρ (.const v) = v := by rw [hρ]; exact fun _ => rfl
            clear hρ
            go_simp
        rintro a' W ⟨rfl, S13⟩
        subst ha0
        simp only [acts, if_true, Act.put, List.setIfInBounds_toArray, List.set_cons_succ, List.set_cons_zero]
        have HS := Lib.hid ((S13.drop).re [0, 2, 1]).dropAt2
        clear HSZ E10 E12 E11 S12 S13
        go_wp2_with fail
        go_roundw
        case rel => exact ⟨k + 1, s1, G3, _, by omega, by go_num, rfl, rfl, HI1.out, HQ1.out, hG13, hu3, HS.out⟩
        case measure => simp [intOf]; omega
      | some i =>
        obtain ⟨x, hx, hxid⟩ := atE_get ha
        subst hxid
        rw [findR_some (hfx.trans ha)] at hfi
        obtain ⟨y0, hy, y1, y2, y3, y4⟩ := HI1.out.sim.get hx
        have hge := rg_get_some HS9.out HI1.out.r.rise (by have := HI1.out.r.few; omega) i x hx
        have hi := (List.getElem?_eq_some_iff.1 hy).1
        obtain ⟨A2, c2, rfl, hn2, hc2, -, hel2⟩ := id hu3
        obtain ⟨gx, ox, rfl, hcl⟩ := hel2 i y0 hy
        have HCX := Lib.hid fun (W : World) (l : List Asrt) (S : Sat G3 W l) j u (hj : (renc y0)[j]? = some u) => S.cellR (hcl j u hj)
        have HLE : Hid (∀ W l, Sat G3 W l → Calls Tryd.prog 19 #[.agg (renc y0).toArray] W fun e w' => e = .returned (.agg (eenc (absF T x))) ∧ Sat G3 w' l) := Lib.hid fun W l S => by
          have := law_entry S y0 y4
          rwa [show absX y0 = absF T x by unfold absX absF; rw [y1, y2, y3]] at this
        obtain ⟨M2, hM2⟩ : ∃ M2, M2 = s1.X.length := ⟨_, rfl⟩
        rw [← hM2] at hn2 hi hu3
        have hv4 : Value.slice (some ⟨gx, ox, none⟩) s1.X.length c2 = .slice (some ⟨gx, ox, none⟩) M2 c2 := by rw [hM2]
        have HIM : Hid ((i : Int) < (M2 : Int) ∧ i < M2) := Lib.hid (by omega)
        have HM2 := Lib.hid hM2
        obtain ⟨xi, xn, xC, xhC⟩ := x
        obtain ⟨yi, yt, yb, yw, ytt, yr⟩ := y0
        simp only [absF, eenc] at hge HLE
        obtain ⟨xt, hxt⟩ : ∃ xt, xt = ownT xi T := ⟨_, rfl⟩
        rw [← hxt] at hge HLE
        have HLE : Hid (∀ W l, Sat G3 W l → Calls Tryd.prog 19 #[.agg #[.int .i64 yi, .int .i64 yt, .int .i64 yb, .int .i64 yw, .int .i64 ytt, .int .i64 yr]] W fun e w' => e = .returned (.agg #[.int .i64 xi, .int .i64 xt, .int .i64 xn]) ∧ Sat G3 w' l) := Lib.hid fun W l S => HLE.out W l S
        rw [hv4] at *
        clear hel2 hcl hy y1 y2 y3 y4 hi hn2 hM2 hv4 hx ha hfx hxt
        go_wp2_with fail
        (with_reducible refine hfi.mono ?_)
        clear hfi
        rintro e w4 ⟨rfl, rfl⟩
        go_wp2_with fail
        (with_reducible refine hge.mono ?_)
        clear hge d1
        rintro e w4 ⟨rfl, S10⟩
        have S11 := S10.newBlk #[.int .i64 xi, .int .i64 xt, .int .i64 xn] 52
        clear S10
        go_upto_region 17 with fail
        generalize w4.heap.size = y at *
        refine wp_world S11 fun w5 S12 => ?_
        clear S11
        refine wp_act fun a0 ha0 => ?_
        have HSZ : a0.tmps.size = 99 := by rw [ha0]; rfl
        have E10 : a0.eval (.tmp 10) = .int .i64 i := by rw [ha0]; rfl
        have E12 : a0.eval (.tmp 12) = .int .i64 0 := by rw [ha0]; rfl
        have E11 : a0.eval (.tmp 11) = .pointer (some ⟨y, 0, none⟩) := by rw [ha0]; rfl
        have E5 : a0.eval (.tmp 5) = .slice (some ⟨gx, ox, none⟩) M2 c2 := by rw [ha0]; rfl
        refine wp_region_J (by kernel_rfl) 28 (by kernel_rfl) [[], [0], [1], [2], [3, 2], [4, 2, 2], [5], [5], [6, 7, 5], [5, 8, 2], [2, 9], [10, 5], [11], [12, 11], [13, 11, 11], [14], [15, 14], [16, 14, 14], [17], [17], [17], [19, 20, 17], [21, 17], [22, 17, 17], [18, 23, 17], [17, 24, 14], [14, 25, 11], [11, 26]] (by kernel_rfl) (by kernel_rfl) (fun f a' W => a' = acts [(0, 69, .int .i64 i), (1, 70, .bool false), (2, 71, .bool false), (3, 72, undef), (4, 73, undef), (5, 74, undef), (6, 75, undef), (7, 76, undef), (8, 77, undef), (9, 78, undef), (10, 79, .bool false), (11, 80, .bool false), (12, 81, .int .i64 i), (13, 82, .bool true), (14, 83, .bool true), (15, 84, .int .i64 0), (16, 85, .bool false), (17, 86, .bool false), (18, 87, .agg #[.int .i64 xi, .int .i64 xt, .int .i64 xn]), (19, 88, .slice (some ⟨gx, ox, none⟩) M2 c2), (20, 89, .int .i64 i), (21, 90, .pointer (some ⟨gx, ox + i * 6, none⟩)), (22, 91, .agg #[.int .i64 yi, .int .i64 yt, .int .i64 yb, .int .i64 yw, .int .i64 ytt, .int .i64 yr]), (23, 92, .agg #[.int .i64 xi, .int .i64 xt, .int .i64 xn]), (24, 93, .bool false), (25, 94, .bool false), (26, 95, .bool false), (27, 96, .bool false)] f a0 ∧ Sat G3 W (blk y #[.int .i64 xi, .int .i64 xt, .int .i64 xn] 52 :: rgA g T quo s1.F s1.L s1.last :: blk z #[.int .i64 ok, .int .i64 xi, .int .i64 oe] 37 :: blk p #[.int .i64 T, .int .i64 quo, .slice (some a) N c] 29 :: [])) ?_ ?_ ?_
        · exact ⟨rfl, S12.drew⟩
        · refine ⟨?_, ?_, ?_, ?_, ?_, ?_, ?_, ?_, ?_, ?_, ?_, ?_, ?_, ?_, ?_, ?_, ?_, ?_, ?_, ?_, ?_, ?_, ?_, ?_, ?_, ?_, ?_, ?_, trivial⟩
          · rintro f a' W h0 hd ⟨rfl, S⟩
            refine wpOp_run (v := .int .i64 i) rfl rfl (fun ρ hρ => ?_) ⟨(acts_some 0 rfl (by kernel_rfl) (by kernel_rfl)).symm, S⟩
            have e0 : ρ (.tmp 10) = .int .i64 i := by rw [hρ]; exact (acts_eval_tmp 10 (by kernel_rfl)).trans E10
            clear hρ
            go_simp
          · rintro f a' W h1 hd ⟨rfl, S⟩
            refine wpOp_run (v := .bool false) rfl rfl (fun ρ hρ => ?_) ⟨(acts_some 1 rfl (by kernel_rfl) (by kernel_rfl)).symm, S⟩
            have e0 : ρ (.tmp 69) = .int .i64 i := by rw [hρ]; exact acts_eval_hit 0 rfl hd.1 (by rw [HSZ]; rfl) (by kernel_rfl)
            have ec : ∀ v, ρ (.const v) = v := by rw [hρ]; exact fun _ => rfl
            clear hρ
            go_simp
          · rintro f a' W h2 hd ⟨rfl, S⟩
            refine wpOp_run (v := .bool false) rfl rfl (fun ρ hρ => ?_) ⟨(acts_some 2 rfl (by kernel_rfl) (by kernel_rfl)).symm, S⟩
            have e0 : ρ (.tmp 70) = .bool false := by rw [hρ]; exact acts_eval_hit 1 rfl hd.1 (by rw [HSZ]; rfl) (by kernel_rfl)
            clear hρ
            go_simp
          · rintro f a' W h3 hd ⟨rfl, S⟩
            refine wpOp_skip rfl (wanted_miss (t := 71) rfl rfl (acts_eval_hit 2 rfl hd.1 (by rw [HSZ]; rfl) (by kernel_rfl)) (by decide)) ⟨(acts_some 3 rfl (by kernel_rfl) (by kernel_rfl)).symm, S⟩
          · rintro f a' W h4 hd ⟨rfl, S⟩
            refine wpOp_skip rfl (wanted_miss (t := 71) rfl rfl (acts_eval_hit 2 rfl hd.2.1 (by rw [HSZ]; rfl) (by kernel_rfl)) (by decide)) ⟨(acts_some 4 rfl (by kernel_rfl) (by kernel_rfl)).symm, S⟩
          · rintro f a' W h5 hd ⟨rfl, S⟩
            refine wpOp_skip rfl (wanted_miss (t := 71) rfl rfl (acts_eval_hit 2 rfl hd.2.1 (by rw [HSZ]; rfl) (by kernel_rfl)) (by decide)) ⟨(acts_some 5 rfl (by kernel_rfl) (by kernel_rfl)).symm, S⟩
          · rintro f a' W h6 hd ⟨rfl, S⟩
            refine wpOp_skip rfl (wanted_none (t := 74) rfl rfl (acts_eval_hit 5 rfl hd.1 (by rw [HSZ]; rfl) (by kernel_rfl))) ⟨(acts_some 6 rfl (by kernel_rfl) (by kernel_rfl)).symm, S⟩
          · rintro f a' W h7 hd ⟨rfl, S⟩
            refine wpOp_skip rfl (wanted_none (t := 74) rfl rfl (acts_eval_hit 5 rfl hd.1 (by rw [HSZ]; rfl) (by kernel_rfl))) ⟨(acts_some 7 rfl (by kernel_rfl) (by kernel_rfl)).symm, S⟩
          · rintro f a' W h8 hd ⟨rfl, S⟩
            refine wpOp_skip rfl (wanted_none (t := 74) rfl rfl (acts_eval_hit 5 rfl hd.2.2.1 (by rw [HSZ]; rfl) (by kernel_rfl))) ⟨(acts_some 8 rfl (by kernel_rfl) (by kernel_rfl)).symm, S⟩
          · rintro f a' W h9 hd ⟨rfl, S⟩
            refine wpOp_skip rfl (wanted_miss (t := 71) rfl rfl (acts_eval_hit 2 rfl hd.2.2.1 (by rw [HSZ]; rfl) (by kernel_rfl)) (by decide)) ⟨(acts_some 9 rfl (by kernel_rfl) (by kernel_rfl)).symm, S⟩
          · rintro f a' W h10 hd ⟨rfl, S⟩
            refine wpOp_run (v := .bool false) rfl rfl (fun ρ hρ => ?_) ⟨(acts_some 10 rfl (by kernel_rfl) (by kernel_rfl)).symm, S⟩
            have e0 : ρ (.tmp 71) = .bool false := by rw [hρ]; exact acts_eval_hit 2 rfl hd.1 (by rw [HSZ]; rfl) (by kernel_rfl)
            have e1 : ρ (.tmp 78) = undef := by rw [hρ]; exact acts_eval_hit 9 rfl hd.2.1 (by rw [HSZ]; rfl) (by kernel_rfl)
            have ec : ∀ v, ρ (.const v) = v := by rw [hρ]; exact fun _ => rfl
            clear hρ
            go_simp
          · rintro f a' W h11 hd ⟨rfl, S⟩
            refine wpOp_run (v := .bool false) rfl rfl (fun ρ hρ => ?_) ⟨(acts_some 11 rfl (by kernel_rfl) (by kernel_rfl)).symm, S⟩
            have e0 : ρ (.tmp 79) = .bool false := by rw [hρ]; exact acts_eval_hit 10 rfl hd.1 (by rw [HSZ]; rfl) (by kernel_rfl)
            clear hρ
            go_simp
          · rintro f a' W h12 hd ⟨rfl, S⟩
            refine wpOp_runG (v := .int .i64 i) rfl ?_ (fun ρ hρ => ?_) ⟨(acts_some 12 rfl (by kernel_rfl) (by kernel_rfl)).symm, S⟩
            · exact wanted_hit (t := 80) rfl rfl (acts_eval_hit 11 rfl hd.1 (by rw [HSZ]; rfl) (by kernel_rfl))
            · skip
              have e0 : ρ (.tmp 10) = .int .i64 i := by rw [hρ]; exact (acts_eval_tmp 10 (by kernel_rfl)).trans E10
              clear hρ
              go_simp
          · rintro f a' W h13 hd ⟨rfl, S⟩
            refine wpOp_runG (v := .bool true) rfl ?_ (fun ρ hρ => ?_) ⟨(acts_some 13 rfl (by kernel_rfl) (by kernel_rfl)).symm, S⟩
            · exact wanted_hit (t := 80) rfl rfl (acts_eval_hit 11 rfl hd.2.1 (by rw [HSZ]; rfl) (by kernel_rfl))
            · skip
              have e0 : ρ (.tmp 81) = .int .i64 i := by rw [hρ]; exact acts_eval_hit 12 rfl hd.1 (by rw [HSZ]; rfl) (by kernel_rfl)
              have ec : ∀ v, ρ (.const v) = v := by rw [hρ]; exact fun _ => rfl
              clear hρ
              go_simp
          · rintro f a' W h14 hd ⟨rfl, S⟩
            refine wpOp_runG (v := .bool true) rfl ?_ (fun ρ hρ => ?_) ⟨(acts_some 14 rfl (by kernel_rfl) (by kernel_rfl)).symm, S⟩
            · exact wanted_hit (t := 80) rfl rfl (acts_eval_hit 11 rfl hd.2.1 (by rw [HSZ]; rfl) (by kernel_rfl))
            · skip
              have e0 : ρ (.tmp 82) = .bool true := by rw [hρ]; exact acts_eval_hit 13 rfl hd.1 (by rw [HSZ]; rfl) (by kernel_rfl)
              clear hρ
              go_simp
          · rintro f a' W h15 hd ⟨rfl, S⟩
            refine wpOp_runG (v := .int .i64 0) rfl ?_ (fun ρ hρ => ?_) ⟨(acts_some 15 rfl (by kernel_rfl) (by kernel_rfl)).symm, S⟩
            · exact wanted_hit (t := 83) rfl rfl (acts_eval_hit 14 rfl hd.1 (by rw [HSZ]; rfl) (by kernel_rfl))
            · skip
              have e0 : ρ (.tmp 12) = .int .i64 0 := by rw [hρ]; exact (acts_eval_tmp 12 (by kernel_rfl)).trans E12
              clear hρ
              go_simp
          · rintro f a' W h16 hd ⟨rfl, S⟩
            refine wpOp_runG (v := .bool false) rfl ?_ (fun ρ hρ => ?_) ⟨(acts_some 16 rfl (by kernel_rfl) (by kernel_rfl)).symm, S⟩
            · exact wanted_hit (t := 83) rfl rfl (acts_eval_hit 14 rfl hd.2.1 (by rw [HSZ]; rfl) (by kernel_rfl))
            · skip
              have e0 : ρ (.tmp 84) = .int .i64 0 := by rw [hρ]; exact acts_eval_hit 15 rfl hd.1 (by rw [HSZ]; rfl) (by kernel_rfl)
              have ec : ∀ v, ρ (.const v) = v := by rw [hρ]; exact fun _ => rfl
              clear hρ
              go_simp
          · rintro f a' W h17 hd ⟨rfl, S⟩
            refine wpOp_runG (v := .bool false) rfl ?_ (fun ρ hρ => ?_) ⟨(acts_some 17 rfl (by kernel_rfl) (by kernel_rfl)).symm, S⟩
            · exact wanted_hit (t := 83) rfl rfl (acts_eval_hit 14 rfl hd.2.1 (by rw [HSZ]; rfl) (by kernel_rfl))
            · skip
              have e0 : ρ (.tmp 85) = .bool false := by rw [hρ]; exact acts_eval_hit 16 rfl hd.1 (by rw [HSZ]; rfl) (by kernel_rfl)
              clear hρ
              go_simp
          · rintro f a' W h18 hd ⟨rfl, S⟩
            refine wpOp_runG (v := .agg #[.int .i64 xi, .int .i64 xt, .int .i64 xn]) rfl ?_ (fun ρ hρ => ?_) ⟨(acts_some 18 rfl (by kernel_rfl) (by kernel_rfl)).symm, S⟩
            · exact wanted_hit (t := 86) rfl rfl (acts_eval_hit 17 rfl hd.1 (by rw [HSZ]; rfl) (by kernel_rfl))
            · skip
              have e0 : ρ (.tmp 11) = .pointer (some ⟨y, 0, none⟩) := by rw [hρ]; exact (acts_eval_tmp 11 (by kernel_rfl)).trans E11
              clear hρ
              (have hz0 := S.cell 0; have hz1 := S.cell 1; have hz2 := S.cell 2)
              go_simp
          · rintro f a' W h19 hd ⟨rfl, S⟩
            refine wpOp_runG (v := .slice (some ⟨gx, ox, none⟩) M2 c2) rfl ?_ (fun ρ hρ => ?_) ⟨(acts_some 19 rfl (by kernel_rfl) (by kernel_rfl)).symm, S⟩
            · exact wanted_hit (t := 86) rfl rfl (acts_eval_hit 17 rfl hd.1 (by rw [HSZ]; rfl) (by kernel_rfl))
            · skip
              have e0 : ρ (.tmp 5) = .slice (some ⟨gx, ox, none⟩) M2 c2 := by rw [hρ]; exact (acts_eval_tmp 5 (by kernel_rfl)).trans E5
              clear hρ
              go_simp
          · rintro f a' W h20 hd ⟨rfl, S⟩
            refine wpOp_runG (v := .int .i64 i) rfl ?_ (fun ρ hρ => ?_) ⟨(acts_some 20 rfl (by kernel_rfl) (by kernel_rfl)).symm, S⟩
            · exact wanted_hit (t := 86) rfl rfl (acts_eval_hit 17 rfl hd.1 (by rw [HSZ]; rfl) (by kernel_rfl))
            · skip
              have e0 : ρ (.tmp 10) = .int .i64 i := by rw [hρ]; exact (acts_eval_tmp 10 (by kernel_rfl)).trans E10
              clear hρ
              go_simp
          · rintro f a' W h21 hd ⟨rfl, S⟩
            refine wpOp_runG (v := .pointer (some ⟨gx, ox + i * 6, none⟩)) rfl ?_ (fun ρ hρ => ?_) ⟨(acts_some 21 rfl (by kernel_rfl) (by kernel_rfl)).symm, S⟩
            · exact wanted_hit (t := 86) rfl rfl (acts_eval_hit 17 rfl hd.2.2.1 (by rw [HSZ]; rfl) (by kernel_rfl))
            · skip
              have e0 : ρ (.tmp 88) = .slice (some ⟨gx, ox, none⟩) M2 c2 := by rw [hρ]; exact acts_eval_hit 19 rfl hd.1 (by rw [HSZ]; rfl) (by kernel_rfl)
              have e1 : ρ (.tmp 89) = .int .i64 i := by rw [hρ]; exact acts_eval_hit 20 rfl hd.2.1 (by rw [HSZ]; rfl) (by kernel_rfl)
              clear hρ
              (have hh1 := HIM.out.1; have hh2 := HIM.out.2)
              go_simp
          · rintro f a' W h22 hd ⟨rfl, S⟩
            refine wpOp_runG (v := .agg #[.int .i64 yi, .int .i64 yt, .int .i64 yb, .int .i64 yw, .int .i64 ytt, .int .i64 yr]) rfl ?_ (fun ρ hρ => ?_) ⟨(acts_some 22 rfl (by kernel_rfl) (by kernel_rfl)).symm, S⟩
            · exact wanted_hit (t := 86) rfl rfl (acts_eval_hit 17 rfl hd.2.1 (by rw [HSZ]; rfl) (by kernel_rfl))
            · skip
              have e0 : ρ (.tmp 90) = .pointer (some ⟨gx, ox + i * 6, none⟩) := by rw [hρ]; exact acts_eval_hit 21 rfl hd.1 (by rw [HSZ]; rfl) (by kernel_rfl)
              clear hρ
              (have hz0 := HCX.out W _ S 0 _ rfl; have hz1 := HCX.out W _ S 1 _ rfl; have hz2 := HCX.out W _ S 2 _ rfl; have hz3 := HCX.out W _ S 3 _ rfl; have hz4 := HCX.out W _ S 4 _ rfl; have hz5 := HCX.out W _ S 5 _ rfl; generalize ox + i * 6 = jj at *)
              go_simp
          · rintro f a' W h23 hd ⟨rfl, S⟩
            refine wpOp_callG rfl (wanted_hit (t := 86) rfl rfl (acts_eval_hit 17 rfl hd.2.1 (by rw [HSZ]; rfl) (by kernel_rfl))) (fun ρ hρ => ?_) ((HLE.out W _ S)) ?_
            · skip
              have e0 : ρ (.tmp 91) = .agg #[.int .i64 yi, .int .i64 yt, .int .i64 yb, .int .i64 yw, .int .i64 ytt, .int .i64 yr] := by rw [hρ]; exact acts_eval_hit 22 rfl hd.1 (by rw [HSZ]; rfl) (by kernel_rfl)
              have ef : ρ (.func 19) = .func (.func 19) #[] #[] := by rw [hρ]; rfl
              clear hρ
              go_simp
            · (rintro e W' ⟨rfl, S'⟩; exact ⟨_, rfl, (acts_some 23 rfl (by kernel_rfl) (by kernel_rfl)).symm, S'⟩)
          · rintro f a' W h24 hd ⟨rfl, S⟩
            refine wpOp_runG (v := .bool false) rfl ?_ (fun ρ hρ => ?_) ⟨(acts_some 24 rfl (by kernel_rfl) (by kernel_rfl)).symm, S⟩
            · exact wanted_hit (t := 86) rfl rfl (acts_eval_hit 17 rfl hd.2.2.1 (by rw [HSZ]; rfl) (by kernel_rfl))
            · skip
              have e0 : ρ (.tmp 87) = .agg #[.int .i64 xi, .int .i64 xt, .int .i64 xn] := by rw [hρ]; exact acts_eval_hit 18 rfl hd.1 (by rw [HSZ]; rfl) (by kernel_rfl)
              have e1 : ρ (.tmp 92) = .agg #[.int .i64 xi, .int .i64 xt, .int .i64 xn] := by rw [hρ]; exact acts_eval_hit 23 rfl hd.2.1 (by rw [HSZ]; rfl) (by kernel_rfl)
              clear hρ
              (have hz := eq_en xi xt xn W)
              go_simp
          · rintro f a' W h25 hd ⟨rfl, S⟩
            refine wpOp_runG (v := .bool false) rfl ?_ (fun ρ hρ => ?_) ⟨(acts_some 25 rfl (by kernel_rfl) (by kernel_rfl)).symm, S⟩
            · exact wanted_hit (t := 83) rfl rfl (acts_eval_hit 14 rfl hd.2.2.1 (by rw [HSZ]; rfl) (by kernel_rfl))
            · skip
              have e0 : ρ (.tmp 86) = .bool false := by rw [hρ]; exact acts_eval_hit 17 rfl hd.1 (by rw [HSZ]; rfl) (by kernel_rfl)
              have e1 : ρ (.tmp 93) = .bool false := by rw [hρ]; exact acts_eval_hit 24 rfl hd.2.1 (by rw [HSZ]; rfl) (by kernel_rfl)
              have ec : ∀ v, ρ (.const v) = v := by rw [hρ]; exact fun _ => rfl
              clear hρ
              go_simp
          · rintro f a' W h26 hd ⟨rfl, S⟩
            refine wpOp_runG (v := .bool false) rfl ?_ (fun ρ hρ => ?_) ⟨(acts_some 26 rfl (by kernel_rfl) (by kernel_rfl)).symm, S⟩
            · exact wanted_hit (t := 80) rfl rfl (acts_eval_hit 11 rfl hd.2.2.1 (by rw [HSZ]; rfl) (by kernel_rfl))
            · skip
              have e0 : ρ (.tmp 83) = .bool true := by rw [hρ]; exact acts_eval_hit 14 rfl hd.1 (by rw [HSZ]; rfl) (by kernel_rfl)
              have e1 : ρ (.tmp 94) = .bool false := by rw [hρ]; exact acts_eval_hit 25 rfl hd.2.1 (by rw [HSZ]; rfl) (by kernel_rfl)
              have ec : ∀ v, ρ (.const v) = v := by rw [hρ]; exact fun _ => rfl
              clear hρ
              go_simp
          · rintro f a' W h27 hd ⟨rfl, S⟩
            refine wpOp_run (v := .bool false) rfl rfl (fun ρ hρ => ?_) ⟨(acts_some 27 rfl (by kernel_rfl) (by kernel_rfl)).symm, S⟩
            have e0 : ρ (.tmp 80) = .bool false := by rw [hρ]; exact acts_eval_hit 11 rfl hd.1 (by rw [HSZ]; rfl) (by kernel_rfl)
            have e1 : ρ (.tmp 95) = .bool false := by rw [hρ]; exact acts_eval_hit 26 rfl hd.2.1 (by rw [HSZ]; rfl) (by kernel_rfl)
            have ec : ∀ v, ρ (.const v) = v := by rw [hρ]; exact fun _ => rfl
            clear hρ
            go_simp
        rintro a' W ⟨rfl, S13⟩
        subst ha0
        simp only [acts, if_true, Act.put, List.setIfInBounds_toArray, List.set_cons_succ, List.set_cons_zero]
        have HS := Lib.hid ((S13.drop).re [0, 2, 1]).dropAt2
        clear HSZ E10 E12 E11 E5 S12 S13
        go_wp2_with fail
        go_roundw
        case rel => exact ⟨k + 1, s1, G3, _, by omega, by go_num, rfl, rfl, HI1.out, HQ1.out, hG13, hu3, HS.out⟩
        case measure => simp [intOf]; omega
    · obtain rfl : k = N := by omega
      have HS := Lib.hid S5
      clear S5
      go_wp2_with fail
      (with_reducible refine (law_awake (HS.out) (HT.out.mono hG1)).mono ?_); rintro e w9 ⟨rfl, S9⟩; go_wp2_with fail; exact hK.out _ _ ⟨rfl, S9.above hG1⟩
end Go.Proofs.YtecnddhfjjnbkaaDoor
