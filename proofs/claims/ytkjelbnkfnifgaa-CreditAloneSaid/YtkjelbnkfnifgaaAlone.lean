/- The walk of the law CreditAlone. -/
import Derived.Test.YtkjelbnkfnifgaaAw
set_option linter.unusedSimpArgs false
set_option linter.unusedVariables false
namespace Go.Proofs.Ytkjelbnkfnifgaa
open Go.RowKit

/-- Of one length, and one at place t. -/
structure Twin (m t : Nat) (L M : List Int) : Prop where
  gl : Good L
  gm : Good M
  ll : L.length = m
  lm : M.length = m
  at_ : L.getD t 0 = M.getD t 0
theorem grant_len (L : List Int) (T : Nat) (n : Int) : (crGrant L T n).1.length = L.length := by
  unfold crGrant
  repeat' split
  all_goals simp [gl_length]
theorem spend_len (L : List Int) (k n : Int) : (crSpend L k n).1.length = L.length := by
  unfold crSpend
  repeat' split
  all_goals simp
theorem twin_grant {m t T : Nat} {L M : List Int} {n : Int} (h : Twin m t L M) (ht : t < m) (e : (crGrant L T n).2.2 = (crGrant M T n).2.2) : Twin m t (crGrant L T n).1 (crGrant M T n).1 ∧ (crGrant L T n).2.1 = (crGrant M T n).2.1 := by
  have key : (crGrant L T n).1.getD t 0 = (crGrant M T n).1.getD t 0 ∧ (crGrant L T n).2.1 = (crGrant M T n).2.1 := by
    have hL := h.ll
    have hM := h.lm
    unfold crGrant at e ⊢
    by_cases a1 : n < 1 ∨ 2147483647 < n
    · rw [if_pos a1, if_pos a1]; exact ⟨h.at_, rfl⟩
    rw [if_neg a1, if_neg a1] at e ⊢
    by_cases a2 : 2147483647 < isum L + n
    · by_cases a3 : 2147483647 < isum M + n
      · rw [if_pos a2, if_pos a3]; exact ⟨h.at_, rfl⟩
      · rw [if_pos a2, if_neg a3] at e; cases e
    · by_cases a3 : 2147483647 < isum M + n
      · rw [if_neg a2, if_pos a3] at e; cases e
      · rw [if_neg a2, if_neg a3]
        refine ⟨?_, rfl⟩
        show (gl L T n L.length).getD t 0 = (gl M T n M.length).getD t 0
        rw [gl_all L T n t (by omega), gl_all M T n t (by omega), hL, hM, h.at_]
  exact ⟨⟨grant_good h.gl _ _, grant_good h.gm _ _, by rw [grant_len]; exact h.ll, by rw [grant_len]; exact h.lm, key.1⟩, key.2⟩
theorem twin_spend {m t : Nat} {L M : List Int} {n : Int} (h : Twin m t L M) (ht : t < m) : Twin m t (crSpend L t n).1 (crSpend M t n).1 ∧ (crSpend L t n).2 = (crSpend M t n).2 := by
  have hL := h.ll
  have hM := h.lm
  have key : (crSpend L t n).1.getD t 0 = (crSpend M t n).1.getD t 0 ∧ (crSpend L t n).2 = (crSpend M t n).2 := by
    unfold crSpend
    rw [hL, hM, Int.toNat_natCast, h.at_]
    split
    · split
      · split
        · refine ⟨?_, rfl⟩
          simp [List.getD_eq_getElem?_getD, hL, hM, ht]
        · exact ⟨h.at_, rfl⟩
      · exact ⟨h.at_, rfl⟩
    · exact ⟨h.at_, rfl⟩
  exact ⟨⟨spend_good h.gl _ _, spend_good h.gm _ _, by rw [spend_len]; exact hL, by rw [spend_len]; exact hM, key.1⟩, key.2⟩
theorem twin_other {m t : Nat} {L M : List Int} {k n : Int} (h : Twin m t L M) (hk : k ≠ t) : Twin m t (crSpend L k n).1 M := by
  have key : (crSpend L k n).1.getD t 0 = L.getD t 0 := by
    unfold crSpend
    split
    · rename_i hh
      obtain ⟨k0, k1⟩ := of_decide_eq_true hh
      split
      · split
        · rw [List.getD_eq_getElem?_getD, List.getElem?_set_ne (by omega), ← List.getD_eq_getElem?_getD]
        · rfl
      · rfl
    · rfl
  exact ⟨spend_good h.gl _ _, h.gm, by rw [spend_len]; exact h.ll, h.lm, key.trans h.at_⟩
theorem twin_left {m t : Nat} {L M : List Int} (h : Twin m t L M) (ht : t < m) : crLeft L t = crLeft M t := by
  rw [crLeft_at (by rw [h.ll]; exact ht), crLeft_at (by rw [h.lm]; exact ht), h.at_]
set_option maxHeartbeats 4000000 in
set_option maxRecDepth 100000 in
theorem creditAlone_walk (w : World) (v0 v1 v2 : Value) (h0 : ∃ d, ArgV w (.int .i64) v0 d) (h1 : ∃ d, ArgV w (.sl 24 (.agg [.int .i64, .int .i64, .int .i64])) v1 d) (h2 : ∃ d, ArgV w (.int .i64) v2 d) :
    Calls Try.prog 3 #[v0, v1, v2] w fun e w' => e = .returned (.bool true) ∧ Below w.heap.size w w' := by
  refine calls_any fun K hK => ?_
  obtain ⟨_, h0⟩ := h0
  obtain ⟨m, rfl, -⟩ := arg_int h0
  obtain ⟨_, h1⟩ := h1
  obtain ⟨l, h1⟩ := arg_sl h1
  obtain ⟨ps, hps⟩ := ops3_of h1
  obtain ⟨_, h2⟩ := h2
  obtain ⟨t, rfl, -⟩ := arg_int h2
  clear h0 h1 h2
  have S0 := Sat.start w
  change ROps (Gnd.of w).ro v1 ps at hps
  have hG := Gnd.le.rfl' (G := Gnd.of w)
  obtain ⟨A, c, rfl, hlc, hc, hel⟩ := hps
  have HEL := Lib.hid hel
  clear hel
  by_cases hlen : 100 < (ps.length : Int)
  · go_enter Try.func3, Try.ntmps3
    go_wp2_with fail
    (with_reducible refine (law_awake _).mono ?_); rintro e w9 ⟨rfl, hb9⟩; go_wp2_with fail; exact hK.out _ _ ⟨rfl, ((S0).below hb9).above (hG)⟩
  by_cases hm1 : m < 1
  · go_enter Try.func3, Try.ntmps3
    go_wp2_with fail
    (with_reducible refine (law_awake _).mono ?_); rintro e w9 ⟨rfl, hb9⟩; go_wp2_with fail; exact hK.out _ _ ⟨rfl, ((S0).below hb9).above (hG)⟩
  by_cases hm2 : 64 < m
  · go_enter Try.func3, Try.ntmps3
    go_wp2_with fail
    (with_reducible refine (law_awake _).mono ?_); rintro e w9 ⟨rfl, hb9⟩; go_wp2_with fail; exact hK.out _ _ ⟨rfl, ((S0).below hb9).above (hG)⟩
  by_cases ht1 : t < 0
  · go_enter Try.func3, Try.ntmps3
    go_wp2_with fail
    (with_reducible refine (law_awake _).mono ?_); rintro e w9 ⟨rfl, hb9⟩; go_wp2_with fail; exact hK.out _ _ ⟨rfl, ((S0).below hb9).above (hG)⟩
  by_cases ht2 : t ≥ m
  · go_enter Try.func3, Try.ntmps3
    go_wp2_with fail
    (with_reducible refine (law_awake _).mono ?_); rintro e w9 ⟨rfl, hb9⟩; go_wp2_with fail; exact hK.out _ _ ⟨rfl, ((S0).below hb9).above (hG)⟩
  obtain ⟨m, rfl⟩ : ∃ k : Nat, m = k := ⟨m.toNat, by omega⟩
  obtain ⟨t, rfl⟩ : ∃ k : Nat, t = k := ⟨t.toNat, by omega⟩
  have m0 : 1 ≤ m := by omega
  have m1 : m ≤ 64 := by omega
  have ht : t < m := by omega
  have hnew := cr_new S0 m m0 m1
  obtain ⟨gd, -⟩ := parts_good m m0 m1
  have hpl : (parts 65535 m).length = m := by simp [parts]
  have HTW : Hid (Twin m t (parts 65535 m) (parts 65535 m)) := Lib.hid ⟨gd, gd, hpl, hpl, rfl⟩
  have hnew2 := fun (W : World) (l' : List Asrt) (S : Sat (Gnd.of w) W l') => cr_new S m m0 m1
  clear hpl gd
  go_enter Try.func3, Try.ntmps3
  go_wp2_with fail
  (with_reducible refine hnew.mono ?_)
  clear hnew
  rintro e w1 ⟨p, rfl, S1⟩
  have hnew := hnew2 _ _ S1
  clear hnew2 S1
  generalize parts 65535 m = L0 at *
  go_wp2_with fail
  (with_reducible refine hnew.mono ?_)
  clear hnew
  rintro e w2 ⟨q, rfl, S2⟩
  have S3 := S2.swap
  clear S2
  go_wp2_with fail
  go_loopw [62] (fun i wr => ∃ (k T : Nat) (L M : List Int), k ≤ ps.length ∧ i = .int .i64 k ∧ Twin m t L M ∧ Sat (Gnd.of w) wr [crA p L T, crA q M T]) (fun i _ => ps.length - (intOf i).toNat)
  case atStart => exact ⟨0, 0, L0, L0, Nat.zero_le _, rfl, HTW.out, S3⟩
  case round =>
    obtain ⟨k, T, L, M, hk, rfl, htw, S⟩ := hrel
    clear S3 HTW
    by_cases hlt : k < ps.length
    · obtain ⟨ad, bo, off, rfl, had, d0, d1, d2, i0, i1, i2⟩ := HEL.out k ps[k] (List.getElem?_eq_getElem hlt)
      have c0 := S.cellR d0
      have c1 := S.cellR d1
      have c2 := S.cellR d2
      clear d0 d1 d2
      generalize ps[k].1 = o at *
      generalize ps[k].2.1 = tn at *
      generalize ps[k].2.2 = n at *
      have S6 := S.newBlk #[.int .i64 o, .int .i64 tn, .int .i64 n] 29
      clear S
      by_cases o1 : o = 1
      · subst o1
        have hg1 := cr_grant S6.swap htw.gl n
        have hg2 := fun (W : World) (l' : List Asrt) (S : Sat (Gnd.of w) W (crA q M T :: l')) => cr_grant S htw.gm n
        have htg := twin_grant (T := T) (n := n) htw ht
        generalize crGrant L T n = g1 at *
        generalize crGrant M T n = g2 at *
        obtain ⟨L2, T2, e1⟩ := g1
        obtain ⟨M2, T3, e2⟩ := g2
        simp only at hg1 hg2 htg
        have HG := Lib.hid htg
        clear htg
        have f2 := S6.cell 2
        go_wp2_with fail
        (with_reducible refine hg1.mono ?_)
        clear hg1 f2 S6
        rintro e w5 ⟨rfl, S7⟩
        have hg := hg2 _ _ S7.pull2
        have f2 := S7.swap.cell 2
        clear hg2
        go_wp2_with fail
        (with_reducible refine hg.mono ?_)
        clear hg f2 S7
        rintro e w6 ⟨rfl, S8⟩
        by_cases he : e1 = e2
        · obtain ⟨htw2, hT⟩ := HG.out he
          subst he hT
          clear HG
          have hl1 := cr_left S8.swap htw2.gl.pos t
          have hl2 := fun (W : World) (l' : List Asrt) (S : Sat (Gnd.of w) W (crA q M2 T2 :: l')) => cr_left S htw2.gm.pos t
          rw [twin_left htw2 ht] at hl1
          have HTW := Lib.hid htw2
          clear htw2
          go_wp2_with fail
          (with_reducible refine hl1.mono ?_)
          clear hl1
          rintro e w7 ⟨rfl, hb7⟩
          have S9 := S8.below hb7
          have hl := hl2 _ _ S9
          clear S8 hb7 hl2
          go_wp2_with fail
          (with_reducible refine hl.mono ?_)
          clear hl
          rintro e w8 ⟨rfl, hb8⟩
          have S10 := S9.below hb8
          clear S9 hb8
          go_wp2_with fail
          go_roundw
          case rel => exact ⟨k + 1, T2, L2, M2, by omega, by go_num, HTW.out, S10.pull2.drop.swap⟩
          case measure => simp [intOf]; omega
        · have he' : (e1 == e2) = false := beq_eq_false_iff_ne.2 he
          clear HG
          go_wp2_with fail
          (with_reducible refine (law_awake _).mono ?_); rintro e w9 ⟨rfl, hb9⟩; go_wp2_with fail; exact hK.out _ _ ⟨rfl, ((S8).below hb9).above (hG)⟩
      have o1' : (o == 1) = false := beq_eq_false_iff_ne.2 o1
      by_cases o2 : o = 2
      · subst o2
        by_cases ot : tn = t
        · subst ot
          have hs1 := fun (W : World) (l' : List Asrt) (S : Sat (Gnd.of w) W (crA p L T :: l')) => cr_spend S htw.gl t n
          have hs2 := fun (W : World) (l' : List Asrt) (S : Sat (Gnd.of w) W (crA q M T :: l')) => cr_spend S htw.gm t n
          obtain ⟨htw2, hee⟩ := twin_spend (n := n) htw ht
          generalize crSpend L t n = g1 at *
          generalize crSpend M t n = g2 at *
          obtain ⟨L2, e1⟩ := g1
          obtain ⟨M2, e2⟩ := g2
          simp only at hs1 hs2 htw2 hee
          subst hee
          have H1 := Lib.hid hs1
          have H2 := Lib.hid hs2
          clear hs1 hs2 htw
          have f2 := S6.cell 2
          have f1 := S6.cell 1
          have f0 := S6.cell 0
          clear o1
          go_upto_region 16 with fail
          clear f0 f1 f2
          generalize wr.heap.size = z at *
          refine wp_world S6 fun W5 S5 => ?_
          clear S6 c0 c1 c2
          refine wp_act fun a0 ha0 => ?_
          have HSZ : a0.tmps.size = 122 := by rw [ha0]; rfl
          have E2 : a0.eval (.tmp 2) = .int .i64 t := by rw [ha0]; rfl
          have E7 : a0.eval (.tmp 7) = .pointer (some ⟨p, 0, none⟩) := by rw [ha0]; rfl
          have E9 : a0.eval (.tmp 9) = .pointer (some ⟨q, 0, none⟩) := by rw [ha0]; rfl
          have E12 : a0.eval (.tmp 12) = .pointer (some ⟨z, 0, none⟩) := by rw [ha0]; rfl
          refine wp_region_J (by kernel_rfl) 11 (by kernel_rfl) [[], [], [], [2], [0, 1, 3], [], [], [], [7], [5, 6, 8, 4], [4, 9]] (by kernel_rfl) (by kernel_rfl) (fun f a' W => a' = acts [(0, 92, .pointer (some ⟨p, 0, none⟩)), (1, 93, .int .i64 t), (2, 94, .pointer (some ⟨z, 2, none⟩)), (3, 95, .int .i64 n), (4, 96, .int .i64 e1), (5, 97, .pointer (some ⟨q, 0, none⟩)), (6, 98, .int .i64 t), (7, 99, .pointer (some ⟨z, 2, none⟩)), (8, 100, .int .i64 n), (9, 101, .int .i64 e1), (10, 102, .bool false)] f a0 ∧ Sat (Gnd.of w) W (blk z #[.int .i64 2, .int .i64 t, .int .i64 n] 29 :: crA p (cond (f 4) L2 L) T :: crA q (cond (f 9) M2 M) T :: [])) ?_ ?_ ?_
          · exact ⟨rfl, S5.drew⟩
          · refine ⟨?_, ?_, ?_, ?_, ?_, ?_, ?_, ?_, ?_, ?_, ?_, trivial⟩
            · rintro f a' W h0 hd ⟨rfl, S⟩
              refine wpOp_run (v := .pointer (some ⟨p, 0, none⟩)) rfl rfl (fun ρ hρ => ?_) ⟨(acts_some 0 rfl (by kernel_rfl) (by kernel_rfl)).symm, S⟩
              have e0 : ρ (.tmp 7) = .pointer (some ⟨p, 0, none⟩) := by rw [hρ]; exact (acts_eval_tmp 7 (by kernel_rfl)).trans E7
              clear hρ
              go_simp
            · rintro f a' W h1 hd ⟨rfl, S⟩
              refine wpOp_run (v := .int .i64 t) rfl rfl (fun ρ hρ => ?_) ⟨(acts_some 1 rfl (by kernel_rfl) (by kernel_rfl)).symm, S⟩
              have e0 : ρ (.tmp 2) = .int .i64 t := by rw [hρ]; exact (acts_eval_tmp 2 (by kernel_rfl)).trans E2
              clear hρ
              go_simp
            · rintro f a' W h2 hd ⟨rfl, S⟩
              refine wpOp_run (v := .pointer (some ⟨z, 2, none⟩)) rfl rfl (fun ρ hρ => ?_) ⟨(acts_some 2 rfl (by kernel_rfl) (by kernel_rfl)).symm, S⟩
              have e0 : ρ (.tmp 12) = .pointer (some ⟨z, 0, none⟩) := by rw [hρ]; exact (acts_eval_tmp 12 (by kernel_rfl)).trans E12
              clear hρ
              go_simp
            · rintro f a' W h3 hd ⟨rfl, S⟩
              refine wpOp_run (v := .int .i64 n) rfl rfl (fun ρ hρ => ?_) ⟨(acts_some 3 rfl (by kernel_rfl) (by kernel_rfl)).symm, S⟩
              have e0 : ρ (.tmp 94) = .pointer (some ⟨z, 2, none⟩) := by rw [hρ]; exact acts_eval_hit 2 rfl hd.1 (by rw [HSZ]; rfl) (by kernel_rfl)
              clear hρ
              (have hcl : W.cell? ⟨z, 2, none⟩ = some (.int .i64 n) := S.cell 2)
              go_simp
            · rintro f a' W h4 hd ⟨rfl, S⟩
              (have S9 := S.swap; rw [h4] at S9)
              refine wpOp_call rfl rfl (fun ρ hρ => ?_) (H1.out _ _ S9) ?_
              · skip
                have e0 : ρ (.tmp 92) = .pointer (some ⟨p, 0, none⟩) := by rw [hρ]; exact acts_eval_hit 0 rfl hd.1 (by rw [HSZ]; rfl) (by kernel_rfl)
                have e1 : ρ (.tmp 93) = .int .i64 t := by rw [hρ]; exact acts_eval_hit 1 rfl hd.2.1 (by rw [HSZ]; rfl) (by kernel_rfl)
                have e2 : ρ (.tmp 95) = .int .i64 n := by rw [hρ]; exact acts_eval_hit 3 rfl hd.2.2.1 (by rw [HSZ]; rfl) (by kernel_rfl)
                have ef : ρ (.func 10) = .func (.func 10) #[] #[] := by rw [hρ]; rfl
                clear hρ
                go_simp
              · (rintro e W' ⟨rfl, S'⟩; exact ⟨_, rfl, acts_swap rfl (k := 4) rfl (by kernel_rfl) (by kernel_rfl), S'.swap⟩)
            · rintro f a' W h5 hd ⟨rfl, S⟩
              refine wpOp_run (v := .pointer (some ⟨q, 0, none⟩)) rfl rfl (fun ρ hρ => ?_) ⟨(acts_some 5 rfl (by kernel_rfl) (by kernel_rfl)).symm, S⟩
              have e0 : ρ (.tmp 9) = .pointer (some ⟨q, 0, none⟩) := by rw [hρ]; exact (acts_eval_tmp 9 (by kernel_rfl)).trans E9
              clear hρ
              go_simp
            · rintro f a' W h6 hd ⟨rfl, S⟩
              refine wpOp_run (v := .int .i64 t) rfl rfl (fun ρ hρ => ?_) ⟨(acts_some 6 rfl (by kernel_rfl) (by kernel_rfl)).symm, S⟩
              have e0 : ρ (.tmp 2) = .int .i64 t := by rw [hρ]; exact (acts_eval_tmp 2 (by kernel_rfl)).trans E2
              clear hρ
              go_simp
            · rintro f a' W h7 hd ⟨rfl, S⟩
              refine wpOp_run (v := .pointer (some ⟨z, 2, none⟩)) rfl rfl (fun ρ hρ => ?_) ⟨(acts_some 7 rfl (by kernel_rfl) (by kernel_rfl)).symm, S⟩
              have e0 : ρ (.tmp 12) = .pointer (some ⟨z, 0, none⟩) := by rw [hρ]; exact (acts_eval_tmp 12 (by kernel_rfl)).trans E12
              clear hρ
              go_simp
            · rintro f a' W h8 hd ⟨rfl, S⟩
              refine wpOp_run (v := .int .i64 n) rfl rfl (fun ρ hρ => ?_) ⟨(acts_some 8 rfl (by kernel_rfl) (by kernel_rfl)).symm, S⟩
              have e0 : ρ (.tmp 99) = .pointer (some ⟨z, 2, none⟩) := by rw [hρ]; exact acts_eval_hit 7 rfl hd.1 (by rw [HSZ]; rfl) (by kernel_rfl)
              clear hρ
              (have hcl : W.cell? ⟨z, 2, none⟩ = some (.int .i64 n) := S.cell 2)
              go_simp
            · rintro f a' W h9 hd ⟨rfl, S⟩
              (have S9 := S.pull2; rw [h9] at S9)
              refine wpOp_call rfl rfl (fun ρ hρ => ?_) (H2.out _ _ S9) ?_
              · skip
                have e0 : ρ (.tmp 97) = .pointer (some ⟨q, 0, none⟩) := by rw [hρ]; exact acts_eval_hit 5 rfl hd.1 (by rw [HSZ]; rfl) (by kernel_rfl)
                have e1 : ρ (.tmp 98) = .int .i64 t := by rw [hρ]; exact acts_eval_hit 6 rfl hd.2.1 (by rw [HSZ]; rfl) (by kernel_rfl)
                have e2 : ρ (.tmp 100) = .int .i64 n := by rw [hρ]; exact acts_eval_hit 8 rfl hd.2.2.1 (by rw [HSZ]; rfl) (by kernel_rfl)
                have ef : ρ (.func 10) = .func (.func 10) #[] #[] := by rw [hρ]; rfl
                clear hρ
                go_simp
              · (rintro e W' ⟨rfl, S'⟩; exact ⟨_, rfl, acts_swap rfl (k := 9) rfl (by kernel_rfl) (by kernel_rfl), S'.push2⟩)
            · rintro f a' W h10 hd ⟨rfl, S⟩
              refine wpOp_run (v := .bool false) rfl rfl (fun ρ hρ => ?_) ⟨(acts_some 10 rfl (by kernel_rfl) (by kernel_rfl)).symm, S⟩
              have e0 : ρ (.tmp 96) = .int .i64 e1 := by rw [hρ]; exact acts_eval_hit 4 rfl hd.1 (by rw [HSZ]; rfl) (by kernel_rfl)
              have e1 : ρ (.tmp 101) = .int .i64 e1 := by rw [hρ]; exact acts_eval_hit 9 rfl hd.2.1 (by rw [HSZ]; rfl) (by kernel_rfl)
              clear hρ
              go_simp
          · rintro a' W ⟨rfl, S7⟩
            subst ha0
            simp only [acts, if_true, Act.put, List.setIfInBounds_toArray, List.set_cons_succ, List.set_cons_zero]
            have S8 : Sat (Gnd.of w) W [crA q M2 T, crA p L2 T, blk z #[.int .i64 2, .int .i64 t, .int .i64 n] 29] := S7.push2.swap
            clear S5 S7 HSZ E2 E7 E9 E12
            have hl1 := cr_left S8.swap htw2.gl.pos t
            have hl2 := fun (W : World) (l' : List Asrt) (S : Sat (Gnd.of w) W (crA q M2 T :: l')) => cr_left S htw2.gm.pos t
            rw [twin_left htw2 ht] at hl1
            have HTW := Lib.hid htw2
            clear htw2
            go_wp2_with fail
            (with_reducible refine hl1.mono ?_)
            clear hl1
            rintro e w7 ⟨rfl, hb7⟩
            have S9 := S8.below hb7
            have hl := hl2 _ _ S9
            clear S8 hb7 hl2
            go_wp2_with fail
            (with_reducible refine hl.mono ?_)
            clear hl
            rintro e w8 ⟨rfl, hb8⟩
            have S10 := S9.below hb8
            clear S9 hb8
            go_wp2_with fail
            go_roundw
            case rel => exact ⟨k + 1, T, L2, M2, by omega, by go_num, HTW.out, S10.pull2.drop.swap⟩
            case measure => simp [intOf]; omega
        · have ot' : (tn == t) = false := beq_eq_false_iff_ne.2 ot
          have hs1 := cr_spend S6.swap htw.gl tn n
          have htw2 := twin_other (n := n) htw ot
          generalize crSpend L tn n = g1 at *
          obtain ⟨L2, e1⟩ := g1
          simp only at hs1 htw2
          have f2 := S6.cell 2
          have f1 := S6.cell 1
          have f0 := S6.cell 0
          have HW2 := Lib.hid htw2
          clear htw htw2 o1 ot
          go_wp2_with fail
          (with_reducible refine hs1.mono ?_)
          clear hs1 f0 f1 f2 S6
          rintro e w5 ⟨rfl, S7⟩
          have S8 := S7.pull2
          have htw2 := HW2.out
          have hl1 := cr_left S8.swap htw2.gl.pos t
          have hl2 := fun (W : World) (l' : List Asrt) (S : Sat (Gnd.of w) W (crA q M T :: l')) => cr_left S htw2.gm.pos t
          rw [twin_left htw2 ht] at hl1
          have HTW := Lib.hid htw2
          clear htw2
          go_wp2_with fail
          (with_reducible refine hl1.mono ?_)
          clear hl1
          rintro e w7 ⟨rfl, hb7⟩
          have S9 := S8.below hb7
          have hl := hl2 _ _ S9
          clear S8 hb7 hl2
          go_wp2_with fail
          (with_reducible refine hl.mono ?_)
          clear hl
          rintro e w8 ⟨rfl, hb8⟩
          have S10 := S9.below hb8
          clear S9 hb8
          go_wp2_with fail
          go_roundw
          case rel => exact ⟨k + 1, T, L2, M, by omega, by go_num, HTW.out, S10.pull2.drop.swap⟩
          case measure => simp [intOf]; omega
      · have o2' : (o == 2) = false := beq_eq_false_iff_ne.2 o2
        have S8 := S6.push2.swap
        have f2 := S6.cell 2
        have f1 := S6.cell 1
        have f0 := S6.cell 0
        have htw2 := htw
        clear htw o1 o2
        have hl1 := cr_left S8.swap htw2.gl.pos t
        have hl2 := fun (W : World) (l' : List Asrt) (S : Sat (Gnd.of w) W (crA q M T :: l')) => cr_left S htw2.gm.pos t
        rw [twin_left htw2 ht] at hl1
        have HTW := Lib.hid htw2
        clear htw2
        go_wp2_with fail
        (with_reducible refine hl1.mono ?_)
        clear hl1
        rintro e w7 ⟨rfl, hb7⟩
        have S9 := S8.below hb7
        have hl := hl2 _ _ S9
        clear S8 hb7 hl2
        go_wp2_with fail
        (with_reducible refine hl.mono ?_)
        clear hl
        rintro e w8 ⟨rfl, hb8⟩
        have S10 := S9.below hb8
        clear S9 hb8
        go_wp2_with fail
        go_roundw
        case rel => exact ⟨k + 1, T, L, M, by omega, by go_num, HTW.out, S10.pull2.drop.swap⟩
        case measure => simp [intOf]; omega
    · clear htw
      go_wp2_with fail
      (with_reducible refine (law_awake _).mono ?_); rintro e w9 ⟨rfl, hb9⟩; go_wp2_with fail; exact hK.out _ _ ⟨rfl, ((S).below hb9).above (hG)⟩
end Go.Proofs.Ytkjelbnkfnifgaa
