/- The walk over the law's step. -/
import Derived.Test.YtkjelbnkfnifgaaCopy
set_option linter.unusedSimpArgs false
set_option linter.unusedVariables false
namespace Go.Proofs.Ytkjelbnkfnifgaa
open Go.RowKit

def crStep (st : List Int × Nat) (k tn n : Int) : List Int × Nat := if k = 1 then ((crGrant st.1 st.2 n).1, (crGrant st.1 st.2 n).2.1) else if k = 2 then ((crSpend st.1 tn n).1, st.2) else st
theorem step_good {st : List Int × Nat} (gd : Good st.1) (k tn n : Int) : Good (crStep st k tn n).1 := by
  unfold crStep
  split
  · exact grant_good gd _ _
  · split
    · exact spend_good gd _ _
    · exact gd
theorem step_turn (st : List Int × Nat) (k tn n : Int) : (crStep st k tn n).2 ≤ st.2 + 1 := by
  unfold crStep crGrant
  repeat' split
  all_goals simp
theorem grant_cases (L : List Int) (T : Nat) (n : Int) : ((crGrant L T n).2.2 = 0 ∧ (crGrant L T n).2.1 = T + 1) ∨ ((crGrant L T n).2.2 ≠ 0 ∧ L = (crGrant L T n).1 ∧ T = (crGrant L T n).2.1) := by
  unfold crGrant
  repeat' split
  · exact .inr ⟨by simp, rfl, rfl⟩
  · exact .inr ⟨by simp, rfl, rfl⟩
  · exact .inl ⟨rfl, rfl⟩
theorem results_cell_tt' {P : Program} {fn : Func} {p1 p2 : Tmp} {y1 : TypeId} (h : fn.results = #[.cell p1 y1, .tmp p2]) (tmps : Array Value) (w : World) (g1 : Nat) (t1 : TypeId) (c1 : Array Value) (d1 : TypeDesc)
    (hp1 : tmps.getD p1 undef = .pointer (some ⟨g1, 0, none⟩)) (hg1 : w.heap[g1]? = some (.cells c1 t1 (0, 0))) (hu1 : P.underlying y1 = some d1) (hd1 : (match d1 with | .struct _ | .array _ _ => true | _ => false) = true) (hi1 : (P.info? y1).map (·.size) = some c1.size) : True := trivial
section
variable {G : Gnd} {w w' : World} {l : List Asrt} {p : Nat} {L : List Int} {T : Nat} {v : Value}
set_option maxHeartbeats 4000000 in
set_option maxRecDepth 100000 in
theorem law_step (H : Sat G w (crA p L T :: l)) (gd : Good L) (hv : IntsR G.ro v L) (hT : T ≤ 1000) (k tn n : Int) (hn0 : -9223372036854775808 ≤ n) (hn1 : n ≤ 9223372036854775807) :
    Calls Try.prog 14 #[.pointer (some ⟨p, 0, none⟩), .agg #[v, .int .i64 T], .agg #[.int .i64 k, .int .i64 tn, .int .i64 n]] w fun e w' => ∃ v' G', e = .returned (.tuple #[.agg #[v', .int .i64 (crStep (L, T) k tn n).2], .bool true]) ∧ G.le G' ∧ IntsR G'.ro v' (crStep (L, T) k tn n).1 ∧ Sat G' w' (crA p (crStep (L, T) k tn n).1 (crStep (L, T) k tn n).2 :: l) := by
  refine calls_any fun K hK => ?_
  obtain ⟨A, cv, rfl, hx1, hx2, -⟩ := id hv
  have S3 := ((H.newBlk #[.slice A L.length cv, .int .i64 T] 37).newBlk #[.int .i64 k, .int .i64 tn, .int .i64 n] 29).newBlk #[.slice none 0 0, .int .i64 0] 37
  simp only [World.size_alloc] at S3
  by_cases k1 : k = 1
  · subst k1
    have e1 : crStep (L, T) 1 tn n = ((crGrant L T n).1, (crGrant L T n).2.1) := if_pos rfl
    rw [e1] at hK
    have hgr := ref_grant (T := T) S3 hv gd n (by omega)
    have hgc := grant_cases L T n
    have HV := Lib.hid hv
    clear e1 H hv
    have hgl := fun {W : World} {G' : Gnd} {l' : List Asrt} (S : Sat G' W (crA p L T :: l')) => cr_grant S gd n
    generalize crGrant L T n = gr at *
    obtain ⟨L2, T2, er⟩ := gr
    simp only at hK hgr hgc hgl
    go_enter Try.func14, Try.ntmps14
    go_wp2_with fail
    (with_reducible refine hgr.mono ?_)
    clear hgr S3
    rintro e w1 ⟨v2, G2, rfl, hG2, hv2, S4⟩
    generalize w.heap.size + 1 + 1 = c at *
    generalize w.heap.size + 1 = b at *
    generalize w.heap.size = a at *
    obtain ⟨A2, c2, rfl, hy1, hy2, -⟩ := id hv2
    have HV2 := Lib.hid hv2
    clear hv2 hx1 hx2 hy1 hy2
    rcases hgc with ⟨rfl, rfl⟩ | ⟨her, rfl, rfl⟩
    · have f0 : w1.frozen? ⟨a, 0, none⟩ = false := S4.pull2.frozen 0
      have f1 : w1.frozen? ⟨a, 1, none⟩ = false := S4.pull2.frozen 1
      have c0 : w1.cell? ⟨a, 0, none⟩ = some (.slice A L.length cv) := S4.pull2.cell 0
      have c1 : w1.cell? ⟨a, 1, none⟩ = some (.int .i64 T) := S4.pull2.cell 1
      go_upto_region 6 with fail
      clear f0 f1 c0 c1
      have S6 := ((S4.pull2.setCell 0 (.slice A2 L2.length c2)).setCell 1 (.int .i64 ((T : Int) + 1))).swap
      change Sat _ _ (_ :: blk a #[.slice A2 L2.length c2, .int .i64 ((T : Int) + 1)] _ :: _) at S6
      clear S4
      refine wp_world S6 fun W6 S6 => ?_
      refine wp_act fun a0 ha0 => ?_
      have HSZ : a0.tmps.size = 64 := by rw [ha0]; rfl
      have E0 : a0.eval (.tmp 0) = .pointer (some ⟨p, 0, none⟩) := by rw [ha0]; rfl
      have E4 : a0.eval (.tmp 4) = .pointer (some ⟨a, 0, none⟩) := by rw [ha0]; rfl
      have E5 : a0.eval (.tmp 5) = .pointer (some ⟨b, 0, none⟩) := by rw [ha0]; rfl
      have E6 : a0.eval (.tmp 6) = .pointer (some ⟨c, 0, none⟩) := by rw [ha0]; rfl
      have E9 : a0.eval (.tmp 9) = .int .i64 0 := by rw [ha0]; rfl
      refine wp_region_J (by kernel_rfl) 9 (by kernel_rfl) [[], [], [], [2], [1, 3], [], [4, 5], [0, 4, 0], [6, 7, 0, 1, 2, 3, 4, 5, 6, 7]] (by kernel_rfl) (by kernel_rfl) (fun f a' W => a' = acts [(0, 33, .agg #[.slice A2 L2.length c2, .int .i64 ((T : Int) + 1)]), (1, 34, .pointer (some ⟨p, 0, none⟩)), (2, 35, .pointer (some ⟨b, 2, none⟩)), (3, 36, .int .i64 n), (4, 37, .int .i64 0), (5, 38, .int .i64 0), (6, 39, .bool true), (8, 7, .bool true)] f a0 ∧ Sat G2 W (blk c (cond (f 7) #[.slice A2 L2.length c2, .int .i64 ((T : Int) + 1)] #[.slice none 0 0, .int .i64 0]) 37 :: blk a #[.slice A2 L2.length c2, .int .i64 ((T : Int) + 1)] 37 :: blk b #[.int .i64 1, .int .i64 tn, .int .i64 n] 29 :: crA p (cond (f 4) L2 L) (cond (f 4) (T + 1) T) :: l)) ?_ ?_ ?_
      · exact ⟨rfl, S6.drew⟩
      · refine ⟨?_, ?_, ?_, ?_, ?_, ?_, ?_, ?_, ?_, trivial⟩
        · rintro f a' W h0 hd ⟨rfl, S⟩
          refine wpOp_list rfl ?_
          refine st_load rfl _ _ rfl _ ((acts_eval_tmp 4 (by kernel_rfl)).trans E4) _ _ (S.swap) _ rfl rfl rfl ?_
          exact ⟨(acts_some 0 rfl (by kernel_rfl) (by kernel_rfl)).symm, S⟩
        · rintro f a' W h1 hd ⟨rfl, S⟩
          refine wpOp_run (v := .pointer (some ⟨p, 0, none⟩)) rfl rfl (fun ρ hρ => ?_) ⟨(acts_some 1 rfl (by kernel_rfl) (by kernel_rfl)).symm, S⟩
          have e0 : ρ (.tmp 0) = .pointer (some ⟨p, 0, none⟩) := by rw [hρ]; exact (acts_eval_tmp 0 (by kernel_rfl)).trans E0
          clear hρ
          go_simp
        · rintro f a' W h2 hd ⟨rfl, S⟩
          refine wpOp_run (v := .pointer (some ⟨b, 2, none⟩)) rfl rfl (fun ρ hρ => ?_) ⟨(acts_some 2 rfl (by kernel_rfl) (by kernel_rfl)).symm, S⟩
          have e0 : ρ (.tmp 5) = .pointer (some ⟨b, 0, none⟩) := by rw [hρ]; exact (acts_eval_tmp 5 (by kernel_rfl)).trans E5
          clear hρ
          go_simp
        · rintro f a' W h3 hd ⟨rfl, S⟩
          refine wpOp_run (v := .int .i64 n) rfl rfl (fun ρ hρ => ?_) ⟨(acts_some 3 rfl (by kernel_rfl) (by kernel_rfl)).symm, S⟩
          have e0 : ρ (.tmp 35) = .pointer (some ⟨b, 2, none⟩) := by rw [hρ]; exact acts_eval_hit 2 rfl hd.1 (by rw [HSZ]; rfl) (by kernel_rfl)
          clear hρ
          (have hcl : W.cell? ⟨b, 2, none⟩ = some (.int .i64 n) := S.pull2.cell 2)
          go_simp
        · rintro f a' W h4 hd ⟨rfl, S⟩
          (have S9 := S.pull3; rw [h4] at S9)
          refine wpOp_call rfl rfl (fun ρ hρ => ?_) (hgl S9) ?_
          · skip
            have e0 : ρ (.tmp 34) = .pointer (some ⟨p, 0, none⟩) := by rw [hρ]; exact acts_eval_hit 1 rfl hd.1 (by rw [HSZ]; rfl) (by kernel_rfl)
            have e1 : ρ (.tmp 36) = .int .i64 n := by rw [hρ]; exact acts_eval_hit 3 rfl hd.2.1 (by rw [HSZ]; rfl) (by kernel_rfl)
            have ef : ρ (.func 9) = .func (.func 9) #[] #[] := by rw [hρ]; rfl
            clear hρ
            go_simp
          · (rintro e W' ⟨rfl, S'⟩; exact ⟨_, rfl, acts_swap rfl (k := 4) rfl (by kernel_rfl) (by kernel_rfl), S'.push3⟩)
        · rintro f a' W h5 hd ⟨rfl, S⟩
          refine wpOp_run (v := .int .i64 0) rfl rfl (fun ρ hρ => ?_) ⟨(acts_some 5 rfl (by kernel_rfl) (by kernel_rfl)).symm, S⟩
          have e0 : ρ (.tmp 9) = .int .i64 0 := by rw [hρ]; exact (acts_eval_tmp 9 (by kernel_rfl)).trans E9
          clear hρ
          go_simp
        · rintro f a' W h6 hd ⟨rfl, S⟩
          refine wpOp_run (v := .bool true) rfl rfl (fun ρ hρ => ?_) ⟨(acts_some 6 rfl (by kernel_rfl) (by kernel_rfl)).symm, S⟩
          have e0 : ρ (.tmp 37) = .int .i64 0 := by rw [hρ]; exact acts_eval_hit 4 rfl hd.1 (by rw [HSZ]; rfl) (by kernel_rfl)
          have e1 : ρ (.tmp 38) = .int .i64 0 := by rw [hρ]; exact acts_eval_hit 5 rfl hd.2.1 (by rw [HSZ]; rfl) (by kernel_rfl)
          clear hρ
          go_simp
        · rintro f a' W h7 hd ⟨rfl, S⟩
          rw [h7] at S
          refine wpOp_list rfl ?_
          refine st_store rfl _ _ _ rfl _ _ ((acts_eval_tmp 6 (by kernel_rfl)).trans E6) (acts_eval_hit 0 rfl hd.1 (by rw [HSZ]; rfl) (by kernel_rfl)) _ _ (S) rfl rfl (by simp [Value.oneCell']) fun W' S' => ?_
          exact ⟨(acts_none 7 (by kernel_rfl)).symm, S'⟩
        · rintro f a' W h8 hd ⟨rfl, S⟩
          refine wpOp_run (v := .bool true) rfl rfl (fun ρ hρ => ?_) ⟨(acts_some 7 rfl (by kernel_rfl) (by kernel_rfl)).symm, S⟩
          have e0 : ρ (.tmp 39) = .bool true := by rw [hρ]; exact acts_eval_hit 6 rfl hd.1 (by rw [HSZ]; rfl) (by kernel_rfl)
          clear hρ
          go_simp
      · rintro a' W ⟨rfl, S7⟩
        subst ha0
        simp only [acts, if_true, Act.put, List.setIfInBounds_toArray, List.set_cons_succ, List.set_cons_zero]
        clear S6 HSZ E0 E4 E5 E6 E9
        change Sat _ _ (blk c #[.slice A2 L2.length c2, .int .i64 ((T : Int) + 1)] _ :: _ :: _ :: crA p L2 (T + 1) :: _) at S7
        have HS7 := Lib.hid S7
        clear S7
        go_wp2_with fail
        refine bodyPost_ret (results_cell_t rfl _ _ _ _ _ _ rfl (HS7.out).blk_at Try.underlying37 rfl (by kernel_rfl)) rfl ?_
        exact hK.out _ _ ⟨_, G2, by rw [Int.natCast_add]; rfl, hG2, HV2.out, HS7.out.drop.drop.drop⟩

    · have her' : (er == 0) = false := beq_eq_false_iff_ne.2 her
      go_upto_region 6 with fail
      have S6 := S4.pull2.swap
      clear S4
      refine wp_act fun a0 ha0 => ?_
      have HSZ : a0.tmps.size = 64 := by rw [ha0]; rfl
      have E0 : a0.eval (.tmp 0) = .pointer (some ⟨p, 0, none⟩) := by rw [ha0]; rfl
      have E4 : a0.eval (.tmp 4) = .pointer (some ⟨a, 0, none⟩) := by rw [ha0]; rfl
      have E5 : a0.eval (.tmp 5) = .pointer (some ⟨b, 0, none⟩) := by rw [ha0]; rfl
      have E6 : a0.eval (.tmp 6) = .pointer (some ⟨c, 0, none⟩) := by rw [ha0]; rfl
      have E9 : a0.eval (.tmp 9) = .int .i64 er := by rw [ha0]; rfl
      refine wp_region_J (by kernel_rfl) 9 (by kernel_rfl) [[], [], [], [2], [1, 3], [], [4, 5], [0, 4, 0], [6, 7, 0, 1, 2, 3, 4, 5, 6, 7]] (by kernel_rfl) (by kernel_rfl) (fun f a' W => a' = acts [(0, 33, .agg #[.slice A L.length cv, .int .i64 T]), (1, 34, .pointer (some ⟨p, 0, none⟩)), (2, 35, .pointer (some ⟨b, 2, none⟩)), (3, 36, .int .i64 n), (4, 37, .int .i64 er), (5, 38, .int .i64 er), (6, 39, .bool true), (8, 7, .bool true)] f a0 ∧ Sat G2 W (blk c (cond (f 7) #[.slice A L.length cv, .int .i64 T] #[.slice none 0 0, .int .i64 0]) 37 :: blk a #[.slice A L.length cv, .int .i64 T] 37 :: blk b #[.int .i64 1, .int .i64 tn, .int .i64 n] 29 :: crA p (cond (f 4) L L) (cond (f 4) T T) :: l)) ?_ ?_ ?_
      · exact ⟨rfl, S6.drew⟩
      · refine ⟨?_, ?_, ?_, ?_, ?_, ?_, ?_, ?_, ?_, trivial⟩
        · rintro f a' W h0 hd ⟨rfl, S⟩
          refine wpOp_list rfl ?_
          refine st_load rfl _ _ rfl _ ((acts_eval_tmp 4 (by kernel_rfl)).trans E4) _ _ (S.swap) _ rfl rfl rfl ?_
          exact ⟨(acts_some 0 rfl (by kernel_rfl) (by kernel_rfl)).symm, S⟩
        · rintro f a' W h1 hd ⟨rfl, S⟩
          refine wpOp_run (v := .pointer (some ⟨p, 0, none⟩)) rfl rfl (fun ρ hρ => ?_) ⟨(acts_some 1 rfl (by kernel_rfl) (by kernel_rfl)).symm, S⟩
          have e0 : ρ (.tmp 0) = .pointer (some ⟨p, 0, none⟩) := by rw [hρ]; exact (acts_eval_tmp 0 (by kernel_rfl)).trans E0
          clear hρ
          go_simp
        · rintro f a' W h2 hd ⟨rfl, S⟩
          refine wpOp_run (v := .pointer (some ⟨b, 2, none⟩)) rfl rfl (fun ρ hρ => ?_) ⟨(acts_some 2 rfl (by kernel_rfl) (by kernel_rfl)).symm, S⟩
          have e0 : ρ (.tmp 5) = .pointer (some ⟨b, 0, none⟩) := by rw [hρ]; exact (acts_eval_tmp 5 (by kernel_rfl)).trans E5
          clear hρ
          go_simp
        · rintro f a' W h3 hd ⟨rfl, S⟩
          refine wpOp_run (v := .int .i64 n) rfl rfl (fun ρ hρ => ?_) ⟨(acts_some 3 rfl (by kernel_rfl) (by kernel_rfl)).symm, S⟩
          have e0 : ρ (.tmp 35) = .pointer (some ⟨b, 2, none⟩) := by rw [hρ]; exact acts_eval_hit 2 rfl hd.1 (by rw [HSZ]; rfl) (by kernel_rfl)
          clear hρ
          (have hcl : W.cell? ⟨b, 2, none⟩ = some (.int .i64 n) := S.pull2.cell 2)
          go_simp
        · rintro f a' W h4 hd ⟨rfl, S⟩
          (have S9 := S.pull3; rw [h4] at S9)
          refine wpOp_call rfl rfl (fun ρ hρ => ?_) (hgl S9) ?_
          · skip
            have e0 : ρ (.tmp 34) = .pointer (some ⟨p, 0, none⟩) := by rw [hρ]; exact acts_eval_hit 1 rfl hd.1 (by rw [HSZ]; rfl) (by kernel_rfl)
            have e1 : ρ (.tmp 36) = .int .i64 n := by rw [hρ]; exact acts_eval_hit 3 rfl hd.2.1 (by rw [HSZ]; rfl) (by kernel_rfl)
            have ef : ρ (.func 9) = .func (.func 9) #[] #[] := by rw [hρ]; rfl
            clear hρ
            go_simp
          · (rintro e W' ⟨rfl, S'⟩; exact ⟨_, rfl, acts_swap rfl (k := 4) rfl (by kernel_rfl) (by kernel_rfl), S'.push3⟩)
        · rintro f a' W h5 hd ⟨rfl, S⟩
          refine wpOp_run (v := .int .i64 er) rfl rfl (fun ρ hρ => ?_) ⟨(acts_some 5 rfl (by kernel_rfl) (by kernel_rfl)).symm, S⟩
          have e0 : ρ (.tmp 9) = .int .i64 er := by rw [hρ]; exact (acts_eval_tmp 9 (by kernel_rfl)).trans E9
          clear hρ
          go_simp
        · rintro f a' W h6 hd ⟨rfl, S⟩
          refine wpOp_run (v := .bool true) rfl rfl (fun ρ hρ => ?_) ⟨(acts_some 6 rfl (by kernel_rfl) (by kernel_rfl)).symm, S⟩
          have e0 : ρ (.tmp 37) = .int .i64 er := by rw [hρ]; exact acts_eval_hit 4 rfl hd.1 (by rw [HSZ]; rfl) (by kernel_rfl)
          have e1 : ρ (.tmp 38) = .int .i64 er := by rw [hρ]; exact acts_eval_hit 5 rfl hd.2.1 (by rw [HSZ]; rfl) (by kernel_rfl)
          clear hρ
          go_simp
        · rintro f a' W h7 hd ⟨rfl, S⟩
          rw [h7] at S
          refine wpOp_list rfl ?_
          refine st_store rfl _ _ _ rfl _ _ ((acts_eval_tmp 6 (by kernel_rfl)).trans E6) (acts_eval_hit 0 rfl hd.1 (by rw [HSZ]; rfl) (by kernel_rfl)) _ _ (S) rfl rfl (by simp [Value.oneCell']) fun W' S' => ?_
          exact ⟨(acts_none 7 (by kernel_rfl)).symm, S'⟩
        · rintro f a' W h8 hd ⟨rfl, S⟩
          refine wpOp_run (v := .bool true) rfl rfl (fun ρ hρ => ?_) ⟨(acts_some 7 rfl (by kernel_rfl) (by kernel_rfl)).symm, S⟩
          have e0 : ρ (.tmp 39) = .bool true := by rw [hρ]; exact acts_eval_hit 6 rfl hd.1 (by rw [HSZ]; rfl) (by kernel_rfl)
          clear hρ
          go_simp
      · rintro a' W ⟨rfl, S7⟩
        subst ha0
        simp only [acts, if_true, Act.put, List.setIfInBounds_toArray, List.set_cons_succ, List.set_cons_zero]
        clear S6 HSZ E0 E4 E5 E6 E9
        change Sat _ _ (blk c #[.slice A L.length cv, .int .i64 T] _ :: _ :: _ :: crA p L T :: _) at S7
        have HS7 := Lib.hid S7
        clear S7
        go_wp2_with fail
        refine bodyPost_ret (results_cell_t rfl _ _ _ _ _ _ rfl (HS7.out).blk_at Try.underlying37 rfl (by kernel_rfl)) rfl ?_
        exact hK.out _ _ ⟨_, G2, rfl, hG2, HV.out.mono hG2, HS7.out.drop.drop.drop⟩

  by_cases k2 : k = 2
  · subst k2
    have k1' : ((2 : Int) == 1) = false := by decide
    have e1 : crStep (L, T) 2 tn n = ((crSpend L tn n).1, T) := rfl
    rw [e1] at hK
    have hgr := ref_spend S3 hv gd tn n hn0 hn1
    have HV := Lib.hid hv
    clear e1 H hv
    have hgl := fun {W : World} {G' : Gnd} {l' : List Asrt} (S : Sat G' W (crA p L T :: l')) => cr_spend S gd tn n
    generalize crSpend L tn n = gr at *
    obtain ⟨L2, er⟩ := gr
    simp only at hK hgr hgl
    go_enter Try.func14, Try.ntmps14
    go_wp2_with fail
    (with_reducible refine hgr.mono ?_)
    clear hgr S3
    rintro e w1 ⟨v2, G2, rfl, hG2, hv2, S4⟩
    generalize w.heap.size + 1 + 1 = c at *
    generalize w.heap.size + 1 = b at *
    generalize w.heap.size = a at *
    obtain ⟨A2, c2, rfl, hy1, hy2, -⟩ := id hv2
    have HV2 := Lib.hid hv2
    clear hv2 hx1 hx2 hy1 hy2
    have f0 : w1.frozen? ⟨a, 0, none⟩ = false := S4.pull2.frozen 0
    have c0 : w1.cell? ⟨a, 0, none⟩ = some (.slice A L.length cv) := S4.pull2.cell 0
    go_upto_region 10 with fail
    clear f0 c0
    have S6 := (S4.pull2.setCell 0 (.slice A2 L2.length c2)).swap
    change Sat _ _ (_ :: blk a #[.slice A2 L2.length c2, .int .i64 (T : Int)] _ :: _) at S6
    clear S4
    refine wp_world S6 fun W6 S6 => ?_
    refine wp_act fun a0 ha0 => ?_
    have HSZ : a0.tmps.size = 64 := by rw [ha0]; rfl
    have E0 : a0.eval (.tmp 0) = .pointer (some ⟨p, 0, none⟩) := by rw [ha0]; rfl
    have E4 : a0.eval (.tmp 4) = .pointer (some ⟨a, 0, none⟩) := by rw [ha0]; rfl
    have E5 : a0.eval (.tmp 5) = .pointer (some ⟨b, 0, none⟩) := by rw [ha0]; rfl
    have E6 : a0.eval (.tmp 6) = .pointer (some ⟨c, 0, none⟩) := by rw [ha0]; rfl
    have E11 : a0.eval (.tmp 11) = .int .i64 er := by rw [ha0]; rfl
    refine wp_region_J (by kernel_rfl) 11 (by kernel_rfl) [[], [], [], [2], [], [4], [1, 3, 5], [], [6, 7], [0, 6, 0], [8, 9, 0, 1, 2, 3, 4, 5, 6, 7, 8, 9]] (by kernel_rfl) (by kernel_rfl) (fun f a' W => a' = acts [(0, 54, .agg #[.slice A2 L2.length c2, .int .i64 T]), (1, 55, .pointer (some ⟨p, 0, none⟩)), (2, 56, .pointer (some ⟨b, 1, none⟩)), (3, 57, .int .i64 tn), (4, 58, .pointer (some ⟨b, 2, none⟩)), (5, 59, .int .i64 n), (6, 60, .int .i64 er), (7, 61, .int .i64 er), (8, 62, .bool true), (10, 7, .bool true)] f a0 ∧ Sat G2 W (blk c (cond (f 9) #[.slice A2 L2.length c2, .int .i64 T] #[.slice none 0 0, .int .i64 0]) 37 :: blk a #[.slice A2 L2.length c2, .int .i64 T] 37 :: blk b #[.int .i64 2, .int .i64 tn, .int .i64 n] 29 :: crA p (cond (f 6) L2 L) T :: l)) ?_ ?_ ?_
    · exact ⟨rfl, S6.drew⟩
    · refine ⟨?_, ?_, ?_, ?_, ?_, ?_, ?_, ?_, ?_, ?_, ?_, trivial⟩
      · rintro f a' W h0 hd ⟨rfl, S⟩
        refine wpOp_list rfl ?_
        refine st_load rfl _ _ rfl _ ((acts_eval_tmp 4 (by kernel_rfl)).trans E4) _ _ (S.swap) _ rfl rfl rfl ?_
        exact ⟨(acts_some 0 rfl (by kernel_rfl) (by kernel_rfl)).symm, S⟩
      · rintro f a' W h1 hd ⟨rfl, S⟩
        refine wpOp_run (v := .pointer (some ⟨p, 0, none⟩)) rfl rfl (fun ρ hρ => ?_) ⟨(acts_some 1 rfl (by kernel_rfl) (by kernel_rfl)).symm, S⟩
        have e0 : ρ (.tmp 0) = .pointer (some ⟨p, 0, none⟩) := by rw [hρ]; exact (acts_eval_tmp 0 (by kernel_rfl)).trans E0
        clear hρ
        go_simp
      · rintro f a' W h2 hd ⟨rfl, S⟩
        refine wpOp_run (v := .pointer (some ⟨b, 1, none⟩)) rfl rfl (fun ρ hρ => ?_) ⟨(acts_some 2 rfl (by kernel_rfl) (by kernel_rfl)).symm, S⟩
        have e0 : ρ (.tmp 5) = .pointer (some ⟨b, 0, none⟩) := by rw [hρ]; exact (acts_eval_tmp 5 (by kernel_rfl)).trans E5
        clear hρ
        go_simp
      · rintro f a' W h3 hd ⟨rfl, S⟩
        refine wpOp_run (v := .int .i64 tn) rfl rfl (fun ρ hρ => ?_) ⟨(acts_some 3 rfl (by kernel_rfl) (by kernel_rfl)).symm, S⟩
        have e0 : ρ (.tmp 56) = .pointer (some ⟨b, 1, none⟩) := by rw [hρ]; exact acts_eval_hit 2 rfl hd.1 (by rw [HSZ]; rfl) (by kernel_rfl)
        clear hρ
        (have hcl : W.cell? ⟨b, 1, none⟩ = some (.int .i64 tn) := S.pull2.cell 1)
        go_simp
      · rintro f a' W h4 hd ⟨rfl, S⟩
        refine wpOp_run (v := .pointer (some ⟨b, 2, none⟩)) rfl rfl (fun ρ hρ => ?_) ⟨(acts_some 4 rfl (by kernel_rfl) (by kernel_rfl)).symm, S⟩
        have e0 : ρ (.tmp 5) = .pointer (some ⟨b, 0, none⟩) := by rw [hρ]; exact (acts_eval_tmp 5 (by kernel_rfl)).trans E5
        clear hρ
        go_simp
      · rintro f a' W h5 hd ⟨rfl, S⟩
        refine wpOp_run (v := .int .i64 n) rfl rfl (fun ρ hρ => ?_) ⟨(acts_some 5 rfl (by kernel_rfl) (by kernel_rfl)).symm, S⟩
        have e0 : ρ (.tmp 58) = .pointer (some ⟨b, 2, none⟩) := by rw [hρ]; exact acts_eval_hit 4 rfl hd.1 (by rw [HSZ]; rfl) (by kernel_rfl)
        clear hρ
        (have hcl : W.cell? ⟨b, 2, none⟩ = some (.int .i64 n) := S.pull2.cell 2)
        go_simp
      · rintro f a' W h6 hd ⟨rfl, S⟩
        (have S9 := S.pull3; rw [h6] at S9)
        refine wpOp_call rfl rfl (fun ρ hρ => ?_) (hgl S9) ?_
        · skip
          have e0 : ρ (.tmp 55) = .pointer (some ⟨p, 0, none⟩) := by rw [hρ]; exact acts_eval_hit 1 rfl hd.1 (by rw [HSZ]; rfl) (by kernel_rfl)
          have e1 : ρ (.tmp 57) = .int .i64 tn := by rw [hρ]; exact acts_eval_hit 3 rfl hd.2.1 (by rw [HSZ]; rfl) (by kernel_rfl)
          have e2 : ρ (.tmp 59) = .int .i64 n := by rw [hρ]; exact acts_eval_hit 5 rfl hd.2.2.1 (by rw [HSZ]; rfl) (by kernel_rfl)
          have ef : ρ (.func 10) = .func (.func 10) #[] #[] := by rw [hρ]; rfl
          clear hρ
          go_simp
        · (rintro e W' ⟨rfl, S'⟩; exact ⟨_, rfl, acts_swap rfl (k := 6) rfl (by kernel_rfl) (by kernel_rfl), S'.push3⟩)
      · rintro f a' W h7 hd ⟨rfl, S⟩
        refine wpOp_run (v := .int .i64 er) rfl rfl (fun ρ hρ => ?_) ⟨(acts_some 7 rfl (by kernel_rfl) (by kernel_rfl)).symm, S⟩
        have e0 : ρ (.tmp 11) = .int .i64 er := by rw [hρ]; exact (acts_eval_tmp 11 (by kernel_rfl)).trans E11
        clear hρ
        go_simp
      · rintro f a' W h8 hd ⟨rfl, S⟩
        refine wpOp_run (v := .bool true) rfl rfl (fun ρ hρ => ?_) ⟨(acts_some 8 rfl (by kernel_rfl) (by kernel_rfl)).symm, S⟩
        have e0 : ρ (.tmp 60) = .int .i64 er := by rw [hρ]; exact acts_eval_hit 6 rfl hd.1 (by rw [HSZ]; rfl) (by kernel_rfl)
        have e1 : ρ (.tmp 61) = .int .i64 er := by rw [hρ]; exact acts_eval_hit 7 rfl hd.2.1 (by rw [HSZ]; rfl) (by kernel_rfl)
        clear hρ
        go_simp
      · rintro f a' W h9 hd ⟨rfl, S⟩
        rw [h9] at S
        refine wpOp_list rfl ?_
        refine st_store rfl _ _ _ rfl _ _ ((acts_eval_tmp 6 (by kernel_rfl)).trans E6) (acts_eval_hit 0 rfl hd.1 (by rw [HSZ]; rfl) (by kernel_rfl)) _ _ (S) rfl rfl (by simp [Value.oneCell']) fun W' S' => ?_
        exact ⟨(acts_none 9 (by kernel_rfl)).symm, S'⟩
      · rintro f a' W h10 hd ⟨rfl, S⟩
        refine wpOp_run (v := .bool true) rfl rfl (fun ρ hρ => ?_) ⟨(acts_some 9 rfl (by kernel_rfl) (by kernel_rfl)).symm, S⟩
        have e0 : ρ (.tmp 62) = .bool true := by rw [hρ]; exact acts_eval_hit 8 rfl hd.1 (by rw [HSZ]; rfl) (by kernel_rfl)
        clear hρ
        go_simp
    · rintro a' W ⟨rfl, S7⟩
      subst ha0
      simp only [acts, if_true, Act.put, List.setIfInBounds_toArray, List.set_cons_succ, List.set_cons_zero]
      clear S6 HSZ E0 E4 E5 E6 E11
      change Sat _ _ (blk c #[.slice A2 L2.length c2, .int .i64 T] _ :: _ :: _ :: crA p L2 T :: _) at S7
      have HS7 := Lib.hid S7
      clear S7
      go_wp2_with fail
      refine bodyPost_ret (results_cell_t rfl _ _ _ _ _ _ rfl (HS7.out).blk_at Try.underlying37 rfl (by kernel_rfl)) rfl ?_
      exact hK.out _ _ ⟨_, G2, rfl, hG2, HV2.out, HS7.out.drop.drop.drop⟩

  · have k1' : (k == 1) = false := beq_eq_false_iff_ne.2 k1
    have k2' : (k == 2) = false := beq_eq_false_iff_ne.2 k2
    have e1 : crStep (L, T) k tn n = (L, T) := by unfold crStep; rw [if_neg k1, if_neg k2]
    rw [e1] at hK
    have HV := Lib.hid hv
    have S5 := ((H.newBlk #[.slice A L.length cv, .int .i64 T] 37).newBlk #[.int .i64 k, .int .i64 tn, .int .i64 n] 29).newBlk #[.slice A L.length cv, .int .i64 T] 37
    simp only [World.size_alloc] at S5
    clear e1 H hv k1 k2
    go_enter Try.func14, Try.ntmps14
    have HS := Lib.hid S5
    clear S5 S3
    go_wp2_with fail
    have S5 := HS.out
    refine bodyPost_ret (results_cell_t rfl _ _ _ _ _ _ rfl (S5).blk_at Try.underlying37 rfl (by kernel_rfl)) rfl ?_
    exact hK.out _ _ ⟨_, G, rfl, Gnd.le.rfl', HV.out, S5.drop.drop.drop⟩
end
end Go.Proofs.Ytkjelbnkfnifgaa
