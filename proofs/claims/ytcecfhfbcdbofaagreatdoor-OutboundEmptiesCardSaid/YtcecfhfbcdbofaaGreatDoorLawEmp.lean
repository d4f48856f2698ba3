/- The walk of the law OutboundEmpties. -/
import Derived.Test.YtcecfhfbcdbofaaGreatDoorOps
import Derived.Deep.Cut
import Derived.Deep.QuietTactic
import Derived.BigQuiet
set_option linter.unusedSimpArgs false
set_option linter.unusedVariables false
namespace Go.Proofs.YtcecfhfbcdbofaaGreatDoor
open Go.RowKit
attribute [local go_sem] Oper.semAt_some

set_option maxHeartbeats 8000000 in
set_option maxRecDepth 100000 in
theorem outboundEmpties_walk (w : World) (v0 : Value) (h0 : ∃ d, ArgV w (Ty.agg [(Ty.agg [.int .i64, .int .i64, .int .i64, .int .i64, .int .i64]), (Ty.sl 64 (Ty.agg [.int .i64, .int .i64, .int .i64, .int .i64, .sl 1 (.int .u8), .int .i64]))]) v0 d) (htab : TabW w) :
    Calls Tryz.prog 3 #[v0] w fun e w' => e = .returned (.bool true) ∧ Below w.heap.size w w' := by
  refine calls_any fun K hK => ?_
  obtain ⟨_, h0⟩ := h0
  obtain ⟨n, z, b, i_, q, x, ops, rfl, hops⟩ := arg_case h0
  have HT := Lib.hid (TabG.of htab)
  have hr := fun {W : World} {l : List Asrt} (S : Sat (Gnd.of w) W l) => law_right S n z b i_ q x ops hops
  obtain ⟨A, ca, rfl, -, -, hel⟩ := hops
  obtain ⟨m, hm⟩ : ∃ m, m = ops.length := ⟨_, rfl⟩
  rw [← hm] at hr ⊢
  have HEL := Lib.hid (And.intro hm hel)
  have S1 := (Sat.start w).newBlk #[.int .i64 n, .int .i64 z, .int .i64 b, .int .i64 i_, .int .i64 q, .slice A m ca] 26
  have hr1 := hr S1
  have k0 := S1.cell 0
  have k1 := S1.cell 1
  have k2 := S1.cell 2
  have k3 := S1.cell 3
  have k4 := S1.cell 4
  have k5 := S1.cell 5
  clear h0 htab hm hel hr S1
  go_enter Tryz.func3, Tryz.ntmps3
  go_wp2_with fail
  (with_reducible refine hr1.mono ?_)
  clear hr1 k0 k1 k2 k3 k4 k5
  rintro e w1 ⟨r, rfl, hrr, S2⟩
  cases r with
  | false =>
    have HS9 := Lib.hid S2
    have HT9 := HT
    have HG9 := Lib.hid (Gnd.le.rfl' (G := Gnd.of w))
    clear S2 hrr
    go_wp2_with fail
    (with_reducible refine (law_awake HS9.out HT9.out).mono ?_); rintro e w9 ⟨rfl, G9, hG9, S9⟩; go_wp2_with fail; exact hK.out _ _ ⟨rfl, S9.above (HG9.out.trans hG9)⟩
  | true =>
  obtain ⟨hos, hoa, hmay⟩ := hrr rfl
  have hmm := of_decide_eq_true hmay
  obtain ⟨n, rfl⟩ := Int.eq_ofNat_of_zero_le (show 0 ≤ n by omega)
  have k0 := S2.cell 0
  have k1 := S2.cell 1
  have k2 := S2.cell 2
  have k3 := S2.cell 3
  have k4 := S2.cell 4
  have hnew := ob_new S2 n z b i_ q hmay
  obtain ⟨c, hc⟩ : ∃ c : Oc, c = ⟨n, z, b, i_, q⟩ := ⟨_, rfl⟩
  rw [← hc] at hnew
  have HB := Lib.hid (show 1 ≤ n ∧ n ≤ 64 ∧ c.ten = n ∧ m ≤ 150 ∧ (∀ o ∈ ops, opA o) ∧ c.itm ≤ 4096 from ⟨by omega, by omega, by rw [hc], by
    have h1 := osum_len ops
    have h2 := HEL.out.1
    omega, hoa, by rw [hc]; show i_ ≤ 4096; omega⟩)
  have HI := Lib.hid (show OInv c (newO n) by rw [hc]; exact new_inv hmay)
  clear hc hmm S2 hmay hos hoa hrr
  go_wp2_with fail
  (with_reducible refine hnew.mono ?_)
  rintro e w2 ⟨o, rfl, S3⟩
  clear hnew k0 k1 k2 k3 k4
  have hla := ob_last S3
  change Calls _ _ _ _ (fun e w' => e = .returned (.int .i64 0) ∧ _) at hla
  have k0 := S3.swap.cell 0
  have hmk := run_make_any (P := Tryz.prog) 34 43 (.slice none 0 0) 1 24 Tryz.underlying34 (by kernel_rfl) n (by have := HB.out; omega) (by have := HB.out; omega)
  obtain ⟨MC, hMC⟩ : ∃ MC, MC = madeCells (Value.slice none 0 0).cells (n * 1) := ⟨_, rfl⟩
  rw [← hMC] at hmk
  have hM : MC.toList = List.replicate n (.slice none 0 0) := by
    rw [hMC, ← cst_eq]
    exact made_encs cenc_len (by decide) (⟨.slice none 0 0, []⟩ : Cn) #[.slice none 0 0] rfl n
  have HS3 := Lib.hid (wa_made hM (S3.newBlk MC 43))
  have k5 := S3.swap.cell 5
  have k9 := (S3.newBlk MC 43).pull2.cell 5
  clear S3 hMC hM
  go_wp2_with fail
  (with_reducible refine hla.mono ?_)
  rintro e w3 ⟨rfl, rfl⟩
  clear hla
  go_wp2_with fail
  clear k0 k5 k9 hmk
  generalize w2.heap.size = wb at HS3 ⊢
  go_loopw [6, 7, 48] (fun tk lv i wr => ∃ (k : Nat) (G1 : Gnd) (s : Os), k ≤ m ∧ i = .int .i64 k ∧ tk = .int .i64 s.last ∧ lv = .int .i64 s.rl ∧ s.last < k ∧ s.F.length ≤ k ∧ (∀ j, s.D.getD j [] = []) ∧ OInv c s ∧ (Gnd.of w).le G1 ∧ Sat G1 wr (waA wb (qn s) :: outA o c s :: blk w.heap.size #[.int .i64 n, .int .i64 z, .int .i64 b, .int .i64 i_, .int .i64 q, .slice A m ca] 26 :: [])) (fun _ _ i _ => m - (intOf i).toNat)
  case atStart => exact ⟨0, Gnd.of w, newO n, Nat.zero_le _, rfl, rfl, rfl, by show (-1 : Int) < 0; decide, Nat.zero_le _, (fun j => repD), HI.out, Gnd.le.rfl', by rw [qn_new]; exact HS3.out⟩
  case round =>
    obtain ⟨k, G1, s, hk, rfl, rfl, rfl, hla, hfe, hD, hI, hG1, S4⟩ := hrel
    clear HS3
    have hm150 := HB.out.2.2.2.1
    by_cases hlt : k < m
    · obtain ⟨od, hod⟩ : ∃ od, ops[k]? = some od := ⟨_, List.getElem?_eq_getElem (by rw [← HEL.out.1]; exact hlt)⟩
      obtain ⟨ad, bo, off, rfl, had, hcl, hok⟩ := HEL.out.2 k _ hod
      have hopa := HB.out.2.2.2.2.1 od (List.mem_of_getElem? hod)
      obtain ⟨ok, ot, oi, oa, ov, obs, oe⟩ := od
      obtain ⟨hx, hb, -⟩ := hok
      simp only at hx hb
      obtain ⟨X, cx, rfl, -⟩ := hx.form
      simp only [OpD.cells] at hcl
      have d0 := S4.cellR (cellR_mono hG1.ro (hcl 0 _ rfl))
      have d1 := S4.cellR (cellR_mono hG1.ro (hcl 1 _ rfl))
      have d2 := S4.cellR (cellR_mono hG1.ro (hcl 2 _ rfl))
      have d3 := S4.cellR (cellR_mono hG1.ro (hcl 3 _ rfl))
      have d4 := S4.cellR (cellR_mono hG1.ro (hcl 4 _ rfl))
      have d5 := S4.cellR (cellR_mono hG1.ro (hcl 5 _ rfl))
      rw [Nat.add_zero] at d0
      obtain ⟨bl, hbl⟩ : ∃ x, x = obs.length := ⟨_, rfl⟩
      rw [← hbl] at hb d4
      have S5 := S4.newBlk #[.int .i64 ok, .int .i64 ot, .int .i64 oi, .int .i64 oa, .slice X bl cx, .int .i64 oe] 38
      have HX := Lib.hid (And.intro (hx.mono hG1) (And.intro hbl (And.intro hb hopa)))
      have HH := Lib.hid (And.intro hla (And.intro hfe (And.intro hD (And.intro hI hG1))))
      have hla2 := hla
      have hlb : s.last < 9223372036854775806 := by have := HB.out.2.2.2.1; omega
      have hl0 := hI.l0
      clear hcl hod hx hb hbl hopa hla hfe hD hI hG1 S4
      by_cases hk1 : ok = 1
      · subst hk1
        obtain ⟨na, rfl⟩ := Int.eq_ofNat_of_zero_le (HX.out.2.2.2 rfl).1
        have hna : na ≤ 300 := by have h : (na : Int) ≤ 300 := (HX.out.2.2.2 rfl).2; omega
        go_upto_region 13 with (fail)
        generalize wr.heap.size = pb at S5 ⊢
        refine wp_world S5 fun W0 S6 => ?_
        clear S5 d0 d1 d2 d3 d4 d5
        obtain ⟨RP, hRP⟩ : ∃ R : List Asrt, R = blk w.heap.size #[.int .i64 n, .int .i64 z, .int .i64 b, .int .i64 i_, .int .i64 q, .slice (some ad) m ca] 26 :: [] := ⟨_, rfl⟩
        rw [← hRP] at S6
        have HRP := Lib.hid hRP
        clear hRP
        refine wp_act fun a0 ha0 => ?_
        have HSZ : a0.tmps.size = 224 := by rw [ha0]; rfl
        have E3 : a0.eval (.tmp 3) = .pointer (some ⟨o, 0, none⟩) := by rw [ha0]; rfl
        have E9 : a0.eval (.tmp 9) = .pointer (some ⟨pb, 0, none⟩) := by rw [ha0]; rfl
        have E8 : a0.eval (.tmp 8) = .int .i64 k := by rw [ha0]; rfl
        refine wp_region_J (by kernel_rfl) 8 (by kernel_rfl) [[], [], [1], [], [], [3, 4], [0, 2, 5, 5], [6]] (by kernel_rfl) (by kernel_rfl) (fun f a' W => ∃ (G2 : Gnd) (g : Nat) (hb : List UInt8), ((f 6 = true → f 5 = true) ∧ (f 7 = true → f 6 = true)) ∧ G1.le G2 ∧ (f 5 = true → hb.length = na ∧ SlB (Go.Proofs.YtcecfhfbcdbofaaGreatDoor.cellR G2.ro) (.slice (some ⟨g, 0, none⟩) na na) hb) ∧ a' = acts [(0, 57, .pointer (some ⟨o, 0, none⟩)), (1, 58, .pointer (some ⟨pb, 1, none⟩)), (2, 59, .int .i64 ot), (3, 60, .agg #[.int .i64 1, .int .i64 ot, .int .i64 oi, .int .i64 na, .slice X bl cx, .int .i64 oe]), (4, 61, .int .i64 k), (5, 62, .agg #[.int .i64 k, .slice (some ⟨g, 0, none⟩) na na, .slice X bl cx]), (6, 63, .int .i64 (subS c s ot ((k : Int), hb, obs)).2), (7, 64, .bool ((subS c s ot ((k : Int), hb, obs)).2 == 0))] f a0 ∧ Sat G2 W (blk pb #[.int .i64 1, .int .i64 ot, .int .i64 oi, .int .i64 na, .slice X bl cx, .int .i64 oe] 38 :: waA wb (qn s) :: outA o c (cond (f 6) (subS c s ot ((k : Int), hb, obs)).1 s) :: RP)) ?_ ?_ ?_
        · exact ⟨G1, 0, [], ⟨fun h => (by cases h), fun h => (by cases h)⟩, Gnd.le.rfl', fun h => (by cases h), rfl, S6.drew⟩
        · refine ⟨?_, ?_, ?_, ?_, ?_, ?_, ?_, ?_, trivial⟩
          · rintro f a' W h0 hd ⟨G2, g, hb, hh, hG2, hsl, rfl, S⟩
            refine wpOp_run (v := .pointer (some ⟨o, 0, none⟩)) rfl rfl (fun ρ hρ => ?_) ⟨G2, g, hb, hh, hG2, hsl, (acts_some 0 rfl (by kernel_rfl) (by kernel_rfl)).symm, S⟩
            have e0 : ρ (.tmp 3) = .pointer (some ⟨o, 0, none⟩) := by rw [hρ]; exact (acts_eval_tmp 3 (by kernel_rfl)).trans E3
            clear hρ
            go_simp
          · rintro f a' W h1 hd ⟨G2, g, hb, hh, hG2, hsl, rfl, S⟩
            refine wpOp_run (v := .pointer (some ⟨pb, 1, none⟩)) rfl rfl (fun ρ hρ => ?_) ⟨G2, g, hb, hh, hG2, hsl, (acts_some 1 rfl (by kernel_rfl) (by kernel_rfl)).symm, S⟩
            have e0 : ρ (.tmp 9) = .pointer (some ⟨pb, 0, none⟩) := by rw [hρ]; exact (acts_eval_tmp 9 (by kernel_rfl)).trans E9
            clear hρ
            go_simp
          · rintro f a' W h2 hd ⟨G2, g, hb, hh, hG2, hsl, rfl, S⟩
            refine wpOp_run (v := .int .i64 ot) rfl rfl (fun ρ hρ => ?_) ⟨G2, g, hb, hh, hG2, hsl, (acts_some 2 rfl (by kernel_rfl) (by kernel_rfl)).symm, S⟩
            have e0 : ρ (.tmp 58) = .pointer (some ⟨pb, 1, none⟩) := by rw [hρ]; exact acts_eval_hit 1 rfl hd.1 (by rw [HSZ]; rfl) (by kernel_rfl)
            clear hρ
            (have z1 := S.cell 1)
            go_simp
          · rintro f a' W h3 hd ⟨G2, g, hb, hh, hG2, hsl, rfl, S⟩
            refine wpOp_list rfl ?_
            refine st_load rfl _ _ rfl _ ((acts_eval_tmp 9 (by kernel_rfl)).trans E9) _ _ (S) _ rfl rfl rfl ?_
            exact ⟨G2, g, hb, hh, hG2, hsl, (acts_some 3 rfl (by kernel_rfl) (by kernel_rfl)).symm, S⟩
          · rintro f a' W h4 hd ⟨G2, g, hb, hh, hG2, hsl, rfl, S⟩
            refine wpOp_run (v := .int .i64 k) rfl rfl (fun ρ hρ => ?_) ⟨G2, g, hb, hh, hG2, hsl, (acts_some 4 rfl (by kernel_rfl) (by kernel_rfl)).symm, S⟩
            have e0 : ρ (.tmp 8) = .int .i64 k := by rw [hρ]; exact (acts_eval_tmp 8 (by kernel_rfl)).trans E8
            clear hρ
            go_simp
          · rintro f a' W h5 hd ⟨G2, g, hb, hh, hG2, hsl, rfl, S⟩
            refine wpOp_call rfl rfl (fun ρ hρ => ?_) (law_item S 1 ot oi na X bl cx oe k hna (by omega)) ?_
            · skip
              have e0 : ρ (.tmp 60) = .agg #[.int .i64 1, .int .i64 ot, .int .i64 oi, .int .i64 na, .slice X bl cx, .int .i64 oe] := by rw [hρ]; exact acts_eval_hit 3 rfl hd.1 (by rw [HSZ]; rfl) (by kernel_rfl)
              have e1 : ρ (.tmp 61) = .int .i64 k := by rw [hρ]; exact acts_eval_hit 4 rfl hd.2.1 (by rw [HSZ]; rfl) (by kernel_rfl)
              have ef : ρ (.func 12) = .func (.func 12) #[] #[] := by rw [hρ]; rfl
              clear hρ
              go_simp
            · (rintro e W' ⟨G3, g', hb', hG3, hbl', hsb', rfl, S'⟩; have h6 : f 6 = false := no_of hh.1 h5; have h7 : f 7 = false := no_of hh.2 h6; exact ⟨_, rfl, G3, g', hb', ⟨fun _ => rfl, hh.2⟩, hG2.trans hG3, fun _ => ⟨hbl', hsb'⟩, acts_swap (by simp only [acts, h5, h6, h7, Bool.false_eq_true, if_false]) (k := 5) rfl (by kernel_rfl) (by kernel_rfl), by rw [show upd f 5 6 = f 6 from rfl, h6]; rw [h6] at S'; exact S'⟩)
          · rintro f a' W h6 hd ⟨G2, g, hb, hh, hG2, hsl, rfl, S⟩
            (rw [h6] at S; simp only [cond_false] at S; obtain ⟨hbl2, hsb2⟩ := hsl hd.2.2.1)
            refine wpOp_call rfl rfl (fun ρ hρ => ?_) (ob_submit S.pull2 HH.out.2.2.2.1 ot k (.slice (some ⟨g, 0, none⟩) na na) (.slice X bl cx) hb obs hsb2 (by have h := HX.out.1.mono hG2; rw [← HX.out.2.1] at h; exact h) (by omega) (by have := HX.out.2.2.1; have := HX.out.2.1; omega)) ?_
            · skip
              have e0 : ρ (.tmp 57) = .pointer (some ⟨o, 0, none⟩) := by rw [hρ]; exact acts_eval_hit 0 rfl hd.1 (by rw [HSZ]; rfl) (by kernel_rfl)
              have e1 : ρ (.tmp 59) = .int .i64 ot := by rw [hρ]; exact acts_eval_hit 2 rfl hd.2.1 (by rw [HSZ]; rfl) (by kernel_rfl)
              have e2 : ρ (.tmp 62) = .agg #[.int .i64 k, .slice (some ⟨g, 0, none⟩) na na, .slice X bl cx] := by rw [hρ]; exact acts_eval_hit 5 rfl hd.2.2.1 (by rw [HSZ]; rfl) (by kernel_rfl)
              have ef : ρ (.func 11) = .func (.func 11) #[] #[] := by rw [hρ]; rfl
              clear hρ
              go_simp
            · (rintro e W' ⟨G3, hG3, rfl, S'⟩; have h7 : f 7 = false := no_of hh.2 h6; exact ⟨_, rfl, G3, g, hb, ⟨fun _ => hd.2.2.1, fun _ => rfl⟩, hG2.trans hG3, fun _ => ⟨hbl2, hsb2.mono hG3⟩, acts_swap (by simp only [acts, h6, h7, Bool.false_eq_true, if_false]) (k := 6) rfl (by kernel_rfl) (by kernel_rfl), Sat.re S' [1, 2, 0]⟩)
          · rintro f a' W h7 hd ⟨G2, g, hb, hh, hG2, hsl, rfl, S⟩
            refine wpOp_run (v := .bool ((subS c s ot ((k : Int), hb, obs)).2 == 0)) rfl rfl (fun ρ hρ => ?_) ⟨G2, g, hb, ⟨hh.1, fun _ => hd.1⟩, hG2, hsl, (acts_some 7 rfl (by kernel_rfl) (by kernel_rfl)).symm, S⟩
            have e0 : ρ (.tmp 63) = .int .i64 (subS c s ot ((k : Int), hb, obs)).2 := by rw [hρ]; exact acts_eval_hit 6 rfl hd.1 (by rw [HSZ]; rfl) (by kernel_rfl)
            have ec : ∀ v, ρ (.const v) = v := by rw [hρ]; exact fun _ => rfl
            clear hρ
            go_simp
        · rintro a' W2 ⟨G2, g, hb, -, hG2, hsl, rfl, S8⟩
          subst ha0
          simp only [acts, if_true, Act.put, List.setIfInBounds_toArray, List.set_cons_succ, List.set_cons_zero]
          simp only [cond_true] at S8
          clear S6 HSZ E3 E8 E9 hsl
          have hcase := sub_case HH.out.2.2.2.1 ot ((k : Int), hb, obs)
          have hinv := sub_inv HH.out.2.2.2.1 ot ((k : Int), hb, obs)
          obtain ⟨er, her⟩ : ∃ er, er = (subS c s ot ((k : Int), hb, obs)).2 := ⟨_, rfl⟩
          rw [← her] at hcase ⊢
          rcases hcase with ⟨hne, hs1⟩ | ⟨h0, T, hT, hTc, hs1⟩
          · have hneb : (er == 0) = false := by simpa using hne
            rw [hs1] at S8
            have hlst := ob_last S8.pull2
            have HG := Lib.hid (And.intro (HH.out.2.2.2.2.trans hG2) S8)
            clear hinv hs1 S8 her hne hG2
            go_wp2_with fail
            (with_reducible refine hlst.mono ?_)
            rintro e w5 ⟨rfl, rfl⟩
            clear hlst
            go_wp2_with fail
            go_roundw
            case rel => exact ⟨k + 1, _, s, by omega, by go_num, rfl, rfl, by omega, by have := HH.out.2.1; omega, HH.out.2.2.1, HH.out.2.2.2.1, HG.out.1, by rw [← HRP.out]; exact HG.out.2.drop⟩
            case measure => simp [intOf]; omega
          · subst hT
            obtain rfl : er = 0 := h0
            rw [hs1] at S8 hinv
            have hTn : T < n := by have := HB.out.2.2.1; omega
            have hTn2 : (T : Int) < (n : Int) := by omega
            have hT0 : ¬ (T : Int) < 0 := by omega
            have hWl : T < (qn s).length := by show T < (s.Q.map _).length; rw [List.length_map, HH.out.2.2.2.1.ql]; exact hTc
            have hqs := qn_set s T (s.Q.getD T [] ++ [((k : Int), hb, obs)])
            rw [List.map_append, ← qn_getD] at hqs
            obtain ⟨s1, hs1'⟩ : ∃ s1, s1 = ({ s with Q := s.Q.set T (s.Q.getD T [] ++ [((k : Int), hb, obs)]) } : Os) := ⟨_, rfl⟩
            obtain ⟨v, C, E, hCs, hCT, S9, hclose⟩ := wa_open S8.swap hWl
            obtain ⟨L, hL⟩ : ∃ L, L = (qn s).getD T [] := ⟨_, rfl⟩
            rw [← hL] at S9 hqs
            rw [← hs1'] at S9 hqs hinv
            have hLl : L.length ≤ 4096 := by
              rw [hL, qn_getD, List.length_map]
              have h1 := (HH.out.2.2.2.1.q.at_ T).2
              have h2 := HB.out.2.2.2.2.2
              omega
            have HS1 := Lib.hid (show qn s1 = (qn s).set T (L ++ [(k : Int)]) ∧ s1.rl = s.rl ∧ s1.last = s.last ∧ s1.F = s.F ∧ s1.D = s.D ∧ OInv c s1 from ⟨hqs, by rw [hs1'], by rw [hs1'], by rw [hs1'], by rw [hs1'], hinv⟩)
            have HCL := Lib.hid hclose
            have hCsT : T < C.size := by rw [hCs]; exact hWl
            obtain ⟨RR, hRR⟩ : ∃ R : List Asrt, R = E :: outA o c s1 :: RP := ⟨_, rfl⟩
            have S10 : Sat G2 W2 (ownO 3 v (ints_w L) :: blk wb C 43 :: blk pb #[.int .i64 1, .int .i64 T, .int .i64 oi, .int .i64 na, .slice X bl cx, .int .i64 oe] 38 :: RR) := by rw [hRR]; exact Sat.re S9 [0, 1, 3, 2, 4]
            have HRR := Lib.hid (And.intro hRR (HH.out.2.2.2.2.trans hG2))
            have c1 := S10.pull2.cell 1
            clear S8 S9 hinv hqs hclose hs1' hL hRR her hs1 hCs hWl hTc hG2
            go_upto_region 16 with (fail)
            clear c1
            refine wp_act fun a0 ha0 => ?_
            have HSZ : a0.tmps.size = 224 := by rw [ha0]; rfl
            have E5 : a0.eval (.tmp 5) = .slice (some ⟨wb, 0, none⟩) n n := by rw [ha0]; rfl
            have E9 : a0.eval (.tmp 9) = .pointer (some ⟨pb, 0, none⟩) := by rw [ha0]; rfl
            have E8 : a0.eval (.tmp 8) = .int .i64 k := by rw [ha0]; rfl
            refine wp_region_J (by kernel_rfl) 13 (by kernel_rfl) [[], [], [1], [], [], [4], [3, 5], [6], [], [8], [7, 9], [0, 2, 0, 1, 2, 3, 4, 5, 6, 7, 8, 9, 10], [11, 10, 10, 0, 1, 2, 3, 4, 5, 6, 7, 8, 9, 10]] (by kernel_rfl) (by kernel_rfl) (fun f a' W => ∃ (q9 : Nat) (v' : Value), ((f 10 = true → f 9 = true ∧ f 7 = true) ∧ (f 12 = true → f 10 = true)) ∧ a' = acts [(0, 75, .slice (some ⟨wb, 0, none⟩) n n), (1, 76, .pointer (some ⟨pb, 1, none⟩)), (2, 77, .int .i64 T), (3, 78, .slice (some ⟨wb, 0, none⟩) n n), (4, 79, .pointer (some ⟨pb, 1, none⟩)), (5, 80, .int .i64 T), (6, 81, .pointer (some ⟨wb, T, none⟩)), (7, 82, v), (8, 83, .int .i64 k), (9, 84, .slice (some ⟨q9, 0, none⟩) 1 1), (10, 85, v'), (11, 86, .pointer (some ⟨wb, T, none⟩))] f a0 ∧ Sat G2 W (opt (f 9) (blk q9 #[.int .i64 k] 3) :: ownO 3 (cond (f 10) v' v) (ints_w (cond (f 10) (L ++ [(k : Int)]) L)) :: blk wb (cond (f 12) (C.setIfInBounds T v') C) 43 :: blk pb #[.int .i64 1, .int .i64 T, .int .i64 oi, .int .i64 na, .slice X bl cx, .int .i64 oe] 38 :: RR)) ?_ ?_ ?_
            · exact ⟨0, undef, ⟨fun h => (by cases h), fun h => (by cases h)⟩, rfl, Sat.opt0 S10.drew⟩
            · refine ⟨?_, ?_, ?_, ?_, ?_, ?_, ?_, ?_, ?_, ?_, ?_, ?_, ?_, trivial⟩
              · rintro f a' W h0 hd ⟨q9, v', hh, rfl, S⟩
                refine wpOp_run (v := .slice (some ⟨wb, 0, none⟩) n n) rfl rfl (fun ρ hρ => ?_) ⟨q9, v', hh, (acts_some 0 rfl (by kernel_rfl) (by kernel_rfl)).symm, S⟩
                have e0 : ρ (.tmp 5) = .slice (some ⟨wb, 0, none⟩) n n := by rw [hρ]; exact (acts_eval_tmp 5 (by kernel_rfl)).trans E5
                clear hρ
                go_simp
              · rintro f a' W h1 hd ⟨q9, v', hh, rfl, S⟩
                refine wpOp_run (v := .pointer (some ⟨pb, 1, none⟩)) rfl rfl (fun ρ hρ => ?_) ⟨q9, v', hh, (acts_some 1 rfl (by kernel_rfl) (by kernel_rfl)).symm, S⟩
                have e0 : ρ (.tmp 9) = .pointer (some ⟨pb, 0, none⟩) := by rw [hρ]; exact (acts_eval_tmp 9 (by kernel_rfl)).trans E9
                clear hρ
                go_simp
              · rintro f a' W h2 hd ⟨q9, v', hh, rfl, S⟩
                refine wpOp_run (v := .int .i64 T) rfl rfl (fun ρ hρ => ?_) ⟨q9, v', hh, (acts_some 2 rfl (by kernel_rfl) (by kernel_rfl)).symm, S⟩
                have e0 : ρ (.tmp 76) = .pointer (some ⟨pb, 1, none⟩) := by rw [hρ]; exact acts_eval_hit 1 rfl hd.1 (by rw [HSZ]; rfl) (by kernel_rfl)
                clear hρ
                (have z1 := S.pull3.cell 1)
                go_simp
              · rintro f a' W h3 hd ⟨q9, v', hh, rfl, S⟩
                refine wpOp_run (v := .slice (some ⟨wb, 0, none⟩) n n) rfl rfl (fun ρ hρ => ?_) ⟨q9, v', hh, (acts_some 3 rfl (by kernel_rfl) (by kernel_rfl)).symm, S⟩
                have e0 : ρ (.tmp 5) = .slice (some ⟨wb, 0, none⟩) n n := by rw [hρ]; exact (acts_eval_tmp 5 (by kernel_rfl)).trans E5
                clear hρ
                go_simp
              · rintro f a' W h4 hd ⟨q9, v', hh, rfl, S⟩
                refine wpOp_run (v := .pointer (some ⟨pb, 1, none⟩)) rfl rfl (fun ρ hρ => ?_) ⟨q9, v', hh, (acts_some 4 rfl (by kernel_rfl) (by kernel_rfl)).symm, S⟩
                have e0 : ρ (.tmp 9) = .pointer (some ⟨pb, 0, none⟩) := by rw [hρ]; exact (acts_eval_tmp 9 (by kernel_rfl)).trans E9
                clear hρ
                go_simp
              · rintro f a' W h5 hd ⟨q9, v', hh, rfl, S⟩
                refine wpOp_run (v := .int .i64 T) rfl rfl (fun ρ hρ => ?_) ⟨q9, v', hh, (acts_some 5 rfl (by kernel_rfl) (by kernel_rfl)).symm, S⟩
                have e0 : ρ (.tmp 79) = .pointer (some ⟨pb, 1, none⟩) := by rw [hρ]; exact acts_eval_hit 4 rfl hd.1 (by rw [HSZ]; rfl) (by kernel_rfl)
                clear hρ
                (have z1 := S.pull3.cell 1)
                go_simp
              · rintro f a' W h6 hd ⟨q9, v', hh, rfl, S⟩
                refine wpOp_run (v := .pointer (some ⟨wb, T, none⟩)) rfl rfl (fun ρ hρ => ?_) ⟨q9, v', hh, (acts_some 6 rfl (by kernel_rfl) (by kernel_rfl)).symm, S⟩
                have e0 : ρ (.tmp 78) = .slice (some ⟨wb, 0, none⟩) n n := by rw [hρ]; exact acts_eval_hit 3 rfl hd.1 (by rw [HSZ]; rfl) (by kernel_rfl)
                have e1 : ρ (.tmp 80) = .int .i64 T := by rw [hρ]; exact acts_eval_hit 5 rfl hd.2.1 (by rw [HSZ]; rfl) (by kernel_rfl)
                clear hρ
                go_simp
              · rintro f a' W h7 hd ⟨q9, v', hh, rfl, S⟩
                (have z10 : f 10 = false := no_of (fun h => (hh.1 h).2) h7; have z12 : f 12 = false := no_of hh.2 z10)
                refine wpOp_run (v := v) rfl rfl (fun ρ hρ => ?_) ⟨q9, v', ⟨fun h => ⟨(hh.1 h).1, rfl⟩, hh.2⟩, (acts_some 7 rfl (by kernel_rfl) (by kernel_rfl)).symm, S⟩
                have e0 : ρ (.tmp 81) = .pointer (some ⟨wb, T, none⟩) := by rw [hρ]; exact acts_eval_hit 6 rfl hd.1 (by rw [HSZ]; rfl) (by kernel_rfl)
                clear hρ
                (have z1 : W.cell? ⟨wb, T, none⟩ = some v := (by have h := S.pull2.cell T; rw [z12] at h; exact h.trans hCT))
                go_simp
              · rintro f a' W h8 hd ⟨q9, v', hh, rfl, S⟩
                refine wpOp_run (v := .int .i64 k) rfl rfl (fun ρ hρ => ?_) ⟨q9, v', hh, (acts_some 8 rfl (by kernel_rfl) (by kernel_rfl)).symm, S⟩
                have e0 : ρ (.tmp 8) = .int .i64 k := by rw [hρ]; exact (acts_eval_tmp 8 (by kernel_rfl)).trans E8
                clear hρ
                go_simp
              · rintro f a' W h9 hd ⟨q9, v', hh, rfl, S⟩
                (have z10 : f 10 = false := no_of (fun h => (hh.1 h).1) h9)
                refine wpOp_mem (v := .slice (some ⟨W.heap.size, 0, none⟩) 1 1) (w' := W.alloc (.cells #[.int .i64 k] 3)) rfl rfl (fun ρ hρ => ?_) (⟨W.heap.size, v', ⟨fun h => ⟨rfl, (hh.1 h).2⟩, hh.2⟩, acts_swap (by simp only [acts, h9, Bool.false_eq_true, if_false]) (k := 9) rfl (by kernel_rfl) (by kernel_rfl), Sat.optI rfl (S.newBlk _ _).drop2⟩)
                have e0 : ρ (.tmp 83) = .int .i64 k := by rw [hρ]; exact acts_eval_hit 8 rfl hd.1 (by rw [HSZ]; rfl) (by kernel_rfl)
                clear hρ
                go_simp
              · rintro f a' W h10 hd ⟨q9, v', hh, rfl, S⟩
                have q82 : (acts [(0, 75, .slice (some ⟨wb, 0, none⟩) n n), (1, 76, .pointer (some ⟨pb, 1, none⟩)), (2, 77, .int .i64 T), (3, 78, .slice (some ⟨wb, 0, none⟩) n n), (4, 79, .pointer (some ⟨pb, 1, none⟩)), (5, 80, .int .i64 T), (6, 81, .pointer (some ⟨wb, T, none⟩)), (7, 82, v), (8, 83, .int .i64 k), (9, 84, .slice (some ⟨q9, 0, none⟩) 1 1), (10, 85, v'), (11, 86, .pointer (some ⟨wb, T, none⟩))] f a0).eval (.tmp 82) = v := acts_eval_hit 7 rfl hd.1 (by rw [HSZ]; rfl) (by kernel_rfl)
                have q84 : (acts [(0, 75, .slice (some ⟨wb, 0, none⟩) n n), (1, 76, .pointer (some ⟨pb, 1, none⟩)), (2, 77, .int .i64 T), (3, 78, .slice (some ⟨wb, 0, none⟩) n n), (4, 79, .pointer (some ⟨pb, 1, none⟩)), (5, 80, .int .i64 T), (6, 81, .pointer (some ⟨wb, T, none⟩)), (7, 82, v), (8, 83, .int .i64 k), (9, 84, .slice (some ⟨q9, 0, none⟩) 1 1), (10, 85, v'), (11, 86, .pointer (some ⟨wb, T, none⟩))] f a0).eval (.tmp 84) = .slice (some ⟨q9, 0, none⟩) 1 1 := acts_eval_hit 9 rfl hd.2.1 (by rw [HSZ]; rfl) (by kernel_rfl)
                (have z12 : f 12 = false := no_of hh.2 h10; simp only [h10, z12, cond_false] at S; have S2 := Sat.optE hd.2.1 S; refine wpOp_list rfl ?_; refine st_appO rfl _ _ 43 rfl 3 (.int .i64 0) 8 Tryz.underlying43 info_int rfl v (ints_w L) q82 S2.swap ⟨q9, 0, none⟩ 1 (.int .i64 k) q84 (S2.cell 0) rfl (by rw [List.length_map]; exact Nat.le_trans (show L.length + 1 ≤ 4097 by omega) (by decide)) (by rw [List.length_map]; omega) ?_; intro v2 w2 S3; refine ⟨q9, v2, ⟨fun _ => ⟨hd.2.1, hd.1⟩, fun _ => rfl⟩, acts_swap (by simp only [acts, h10, Bool.false_eq_true, if_false]) (k := 10) rfl (by kernel_rfl) (by kernel_rfl), ?_⟩; show Sat G2 w2 (opt (f 9) _ :: ownO 3 v2 (ints_w (L ++ [(k : Int)])) :: blk wb (cond (f 12) _ _) _ :: _); rw [hd.2.1, z12, show ints_w (L ++ [(k : Int)]) = ints_w L ++ [.int .i64 k] by simp [ints_w]]; exact opt_iff.2 S3.swap)
              · rintro f a' W h11 hd ⟨q9, v', hh, rfl, S⟩
                refine wpOp_run (v := .pointer (some ⟨wb, T, none⟩)) rfl rfl (fun ρ hρ => ?_) ⟨q9, v', hh, (acts_some 11 rfl (by kernel_rfl) (by kernel_rfl)).symm, S⟩
                have e0 : ρ (.tmp 75) = .slice (some ⟨wb, 0, none⟩) n n := by rw [hρ]; exact acts_eval_hit 0 rfl hd.1 (by rw [HSZ]; rfl) (by kernel_rfl)
                have e1 : ρ (.tmp 77) = .int .i64 T := by rw [hρ]; exact acts_eval_hit 2 rfl hd.2.1 (by rw [HSZ]; rfl) (by kernel_rfl)
                clear hρ
                go_simp
              · rintro f a' W h12 hd ⟨q9, v', hh, rfl, S⟩
                have q86 : (acts [(0, 75, .slice (some ⟨wb, 0, none⟩) n n), (1, 76, .pointer (some ⟨pb, 1, none⟩)), (2, 77, .int .i64 T), (3, 78, .slice (some ⟨wb, 0, none⟩) n n), (4, 79, .pointer (some ⟨pb, 1, none⟩)), (5, 80, .int .i64 T), (6, 81, .pointer (some ⟨wb, T, none⟩)), (7, 82, v), (8, 83, .int .i64 k), (9, 84, .slice (some ⟨q9, 0, none⟩) 1 1), (10, 85, v'), (11, 86, .pointer (some ⟨wb, T, none⟩))] f a0).eval (.tmp 86) = .pointer (some ⟨wb, T, none⟩) := acts_eval_hit 11 rfl hd.1 (by rw [HSZ]; rfl) (by kernel_rfl)
                have q85 : (acts [(0, 75, .slice (some ⟨wb, 0, none⟩) n n), (1, 76, .pointer (some ⟨pb, 1, none⟩)), (2, 77, .int .i64 T), (3, 78, .slice (some ⟨wb, 0, none⟩) n n), (4, 79, .pointer (some ⟨pb, 1, none⟩)), (5, 80, .int .i64 T), (6, 81, .pointer (some ⟨wb, T, none⟩)), (7, 82, v), (8, 83, .int .i64 k), (9, 84, .slice (some ⟨q9, 0, none⟩) 1 1), (10, 85, v'), (11, 86, .pointer (some ⟨wb, T, none⟩))] f a0).eval (.tmp 85) = v' := acts_eval_hit 10 rfl hd.2.1 (by rw [HSZ]; rfl) (by kernel_rfl)
                (have z10 := hd.2.1; simp only [h12, z10, cond_true, cond_false] at S; obtain ⟨A', c', rfl, -⟩ := S.swap.ownOForm; refine wpOp_list rfl ?_; refine st_set rfl _ _ _ rfl _ _ _ q86 q85 rfl _ _ S.pull2 (by kernel_rfl) hCsT fun W' S' => ?_; refine ⟨q9, _, ⟨hh.1, fun _ => z10⟩, (acts_none 12 (by kernel_rfl)).symm, ?_⟩; show Sat G2 W' (_ :: ownO 3 (cond (f 10) _ v) (ints_w (cond (f 10) _ L)) :: blk wb (C.setIfInBounds T _) _ :: _); rw [z10]; exact S'.push2)
            · rintro a' W3 ⟨q9, v', -, rfl, S11⟩
              subst ha0
              simp only [acts, if_true, Act.put, List.setIfInBounds_toArray, List.set_cons_succ, List.set_cons_zero]
              simp only [cond_true] at S11
              have S12 := S11.drop
              rw [HRR.out.1] at S12
              have S13 := HCL.out G2 W3 _ v' (L ++ [(k : Int)]) (Sat.re S12 [0, 1, 3, 2, 4])
              rw [← HS1.out.1] at S13
              have hlst := ob_last S13.pull2
              rw [HS1.out.2.1] at hlst
              have HS13 := Lib.hid S13
              clear S10 S11 S12 S13 HSZ E5 E8 E9
              go_wp2_with fail
              (with_reducible refine hlst.mono ?_)
              rintro e w5 ⟨rfl, rfl⟩
              clear hlst
              go_wp2_with fail
              go_roundw
              case rel => exact ⟨k + 1, G2, s1, by omega, by go_num, by rw [HS1.out.2.2.1], by rw [HS1.out.2.1], by rw [HS1.out.2.2.1]; omega, by rw [HS1.out.2.2.2.1]; have := HH.out.2.1; omega, by rw [HS1.out.2.2.2.2.1]; exact HH.out.2.2.1, HS1.out.2.2.2.2.2, HRR.out.2, by rw [← HRP.out]; exact (HS13.out).drop2⟩
              case measure => simp [intOf]; omega
      · have hk1b : (ok == 1) = false := by simpa using hk1
        by_cases hk2 : ok = 2
        · subst hk2
          have hs1 : IntKind.i64.wrap (s.last + 1) = s.last + 1 := IntWalk.i64_in _ (by omega)
          go_upto_region 19 with (fail)
          clear d0 d1 d2 d3 d4 d5
          have hsl := ob_slot S5.drop.swap HH.out.2.2.2.1 (HT.out.mono HH.out.2.2.2.2) (s.last + 1) (by have := HH.out.2.1; omega)
          obtain ⟨tk, htk⟩ : ∃ x, x = s.last + 1 := ⟨_, rfl⟩
          rw [← htk] at hsl ⊢
          have HTK := Lib.hid htk
          have ht0 : 0 ≤ tk ∧ tk ≤ 1000 := by omega
          obtain ⟨RP, hRP⟩ : ∃ R : List Asrt, R = blk w.heap.size #[.int .i64 n, .int .i64 z, .int .i64 b, .int .i64 i_, .int .i64 q, .slice (some ad) m ca] 26 :: [] := ⟨_, rfl⟩
          rw [← hRP] at hsl
          have HRP := Lib.hid hRP
          clear S5 hRP htk hs1 hla2 hl0 hlb
          go_wp2_with fail
          (with_reducible refine hsl.mono ?_)
          clear hsl
          rintro e w5 ⟨G2, s', hG2, hR, hI', S6⟩
          rcases hR with ⟨hb, -⟩ | ⟨-, hle, -⟩ | ⟨-, -, t, d, u, bs_, ht, htt, hu, hlen, rfl, hst⟩
          · exfalso
            unfold tickOk at hb
            rw [decide_eq_true ht0.1, decide_eq_true (show tk ≤ 1073741823 by omega)] at hb
            cases hb
          · exfalso
            have := HTK.out
            omega
          · have hcase := slot_case HH.out.2.2.2.1 HTK.out.symm HH.out.2.2.1 hst
            have hd2 := step_ten hst
            have hlast := step_last hst
            change s'.last = tk at hlast
            have hfew := step_few (s := { s with last := tk }) hst (last_inv HH.out.2.2.2.1 (by have := HTK.out; omega)) hI'
            change s'.F.length ≤ s.F.length + 1 at hfew
            have HS' := Lib.hid (show s'.last = tk ∧ s'.last < ((k + 1 : Nat) : Int) ∧ s'.F.length ≤ k + 1 ∧ OInv c s' ∧ (Gnd.of w).le G2 from ⟨hlast, by have := HTK.out; have := HH.out.1; omega, by have := HH.out.2.1; omega, hI', HH.out.2.2.2.2.trans hG2⟩)
            obtain ⟨d1, d2, d3, d4, d5⟩ := d
            simp only at hd2 hcase ⊢
            subst hd2
            have S7 := S6.newBlk #[.int .i64 d1, .int .i64 (t : Int), .int .i64 d3, .int .i64 d4, .int .i64 d5] 45
            have w1_ : IntKind.i64.wrap (2 * tk) = 2 * tk := IntWalk.i64_in _ (by omega)
            have w2_ : IntKind.i64.wrap (2 * tk + 1) = 2 * tk + 1 := IntWalk.i64_in _ (by omega)
            have hlst := ob_last S7.swap
            have e0 := S7.cell 0
            have e1 := S7.cell 1
            have e2 := S7.cell 2
            have e3 := S7.cell 3
            clear hst hu hlen ht hlast hfew hI' hG2 S6
            rcases hcase with ⟨x, L, hx, h1, h3, h4, hq, hrl, hD'⟩ | ⟨hn1, hn3, hq, hrl, hD'⟩
            · subst h3
              subst h4
              have hWl : t < (qn s).length := by show t < (s.Q.map _).length; rw [List.length_map, HH.out.2.2.2.1.ql]; exact htt
              have htn : (t : Int) < (n : Int) := by have := HB.out.2.2.1; omega
              obtain ⟨xn, hxn⟩ : ∃ y, y = x.1 := ⟨_, rfl⟩
              have hqg : (qn s).getD t [] = x.1 :: L.map Prod.fst := by rw [qn_getD, hx]; rfl
              rw [← hxn] at S7
              rw [← hxn] at hqg
              obtain ⟨v, C, E, hCs, hCT, S8, hclose⟩ := wa_open S7.pull2 hWl
              rw [hqg] at S8
              obtain ⟨g, off, cap, rfl, hc1, hc2, hcell, hnext⟩ := Sat.ownOHead S8
              have z1 := (S8.swap.cell t).trans hCT
              obtain ⟨l1, hl1⟩ : ∃ y, y = (ints_w (L.map Prod.fst)).length + 1 := ⟨_, rfl⟩
              obtain ⟨A9, hA9⟩ : ∃ A9, (if cap = 1 then some (⟨g, off, none⟩ : Addr) else some ⟨g, off + 1, none⟩) = A9 := ⟨_, rfl⟩
              have S9 := hnext A9 hA9.symm
              rw [show (ints_w (L.map Prod.fst)).length = l1 - 1 by omega] at S9
              rw [← hl1] at hCT z1 hc1
              obtain ⟨RR, hRR⟩ : ∃ R : List Asrt, R = ownO 3 (.slice A9 (l1 - 1) (cap - 1)) (ints_w (L.map Prod.fst)) :: E :: outA o c s' :: RP := ⟨_, rfl⟩
              have S9' : Sat G2 (w5.alloc (.cells #[.int .i64 d1, .int .i64 t, .int .i64 (2 * tk + 1), .int .i64 xn, .int .i64 d5] 45)) (blk wb C 43 :: blk w5.heap.size #[.int .i64 d1, .int .i64 t, .int .i64 (2 * tk + 1), .int .i64 xn, .int .i64 d5] 45 :: RR) := by rw [hRR]; exact Sat.re S9 [1, 3, 0, 2, 4]
              have HS9 := Lib.hid S9'
              have HRR := Lib.hid hRR
              have HCL := Lib.hid hclose
              have HS7 := Lib.hid (And.intro hq (And.intro hrl hD'))
              have hCsT : t < C.size := by rw [hCs]; exact hWl
              have hl1p : 1 ≤ l1 := by omega
              have hlz : ((l1 : Int) == 0) = false := by simp; omega
              have hlz2 : ¬ (l1 = 0) := by omega
              have hl0 : (0 : Int) < (l1 : Int) := by omega
              have hl1i : (1 : Int) ≤ (l1 : Int) := by omega
              have hHX := Lib.hid (And.intro hx (And.intro hxn hl1))
              rw [← hxn] at e0 e1 e2 e3 ⊢
              clear hlst hq hrl hD' S7 S8 S9 S9' hnext hclose hCs hWl htt hqg hRR hx hxn hl1
              rcases h1 with rfl | rfl
              · skip
                go_wp2_with fail
                go_quiet (fail)
                go_upto_region 23 with (fail)
                refine wp_world (HS9.out.drewQ _) fun W3 S10 => ?_
                clear z1 hcell e0 e1 e2 e3
                refine wp_act fun a0 ha0 => ?_
                have HSZ : a0.tmps.size = 224 := by rw [ha0]; rfl
                have E5 : a0.eval (.tmp 5) = .slice (some ⟨wb, 0, none⟩) n n := by rw [ha0]; rfl
                have E11 : a0.eval (.tmp 11) = .pointer (some ⟨w5.heap.size, 0, none⟩) := by rw [ha0]; rfl
                refine wp_region_J (by kernel_rfl) 11 (by kernel_rfl) [[], [], [1], [], [], [4], [3, 5], [6], [7], [0, 2, 0, 1, 2, 3, 4, 5, 6, 7, 8], [9, 8, 0, 1, 2, 3, 4, 5, 6, 7, 8]] (by kernel_rfl) (by kernel_rfl) (fun f a' W => (f 10 = true → f 7 = true) ∧ a' = acts [(0, 141, .slice (some ⟨wb, 0, none⟩) n n), (1, 142, .pointer (some ⟨w5.heap.size, 1, none⟩)), (2, 143, .int .i64 t), (3, 144, .slice (some ⟨wb, 0, none⟩) n n), (4, 145, .pointer (some ⟨w5.heap.size, 1, none⟩)), (5, 146, .int .i64 t), (6, 147, .pointer (some ⟨wb, t, none⟩)), (7, 148, .slice (some ⟨g, off, none⟩) l1 cap), (8, 149, .slice A9 (l1 - 1) (cap - 1)), (9, 150, .pointer (some ⟨wb, t, none⟩))] f a0 ∧ Sat G2 W (blk wb (cond (f 10) (C.setIfInBounds t (.slice A9 (l1 - 1) (cap - 1))) C) 43 :: blk w5.heap.size #[.int .i64 1, .int .i64 t, .int .i64 (2 * tk + 1), .int .i64 xn, .int .i64 d5] 45 :: RR)) ?_ ?_ ?_
                · exact ⟨fun h => (by cases h), rfl, S10.drew⟩
                · refine ⟨?_, ?_, ?_, ?_, ?_, ?_, ?_, ?_, ?_, ?_, ?_, trivial⟩
                  · rintro f a' W h0 hd ⟨hh, rfl, S⟩
                    refine wpOp_run (v := .slice (some ⟨wb, 0, none⟩) n n) rfl rfl (fun ρ hρ => ?_) ⟨hh, (acts_some 0 rfl (by kernel_rfl) (by kernel_rfl)).symm, S⟩
                    have e0 : ρ (.tmp 5) = .slice (some ⟨wb, 0, none⟩) n n := by rw [hρ]; exact (acts_eval_tmp 5 (by kernel_rfl)).trans E5
                    clear hρ
                    go_simp
                  · rintro f a' W h1 hd ⟨hh, rfl, S⟩
                    refine wpOp_run (v := .pointer (some ⟨w5.heap.size, 1, none⟩)) rfl rfl (fun ρ hρ => ?_) ⟨hh, (acts_some 1 rfl (by kernel_rfl) (by kernel_rfl)).symm, S⟩
                    have e0 : ρ (.tmp 11) = .pointer (some ⟨w5.heap.size, 0, none⟩) := by rw [hρ]; exact (acts_eval_tmp 11 (by kernel_rfl)).trans E11
                    clear hρ
                    go_simp
                  · rintro f a' W h2 hd ⟨hh, rfl, S⟩
                    refine wpOp_run (v := .int .i64 t) rfl rfl (fun ρ hρ => ?_) ⟨hh, (acts_some 2 rfl (by kernel_rfl) (by kernel_rfl)).symm, S⟩
                    have e0 : ρ (.tmp 142) = .pointer (some ⟨w5.heap.size, 1, none⟩) := by rw [hρ]; exact acts_eval_hit 1 rfl hd.1 (by rw [HSZ]; rfl) (by kernel_rfl)
                    clear hρ
                    (have z1 := S.swap.cell 1)
                    go_simp
                  · rintro f a' W h3 hd ⟨hh, rfl, S⟩
                    refine wpOp_run (v := .slice (some ⟨wb, 0, none⟩) n n) rfl rfl (fun ρ hρ => ?_) ⟨hh, (acts_some 3 rfl (by kernel_rfl) (by kernel_rfl)).symm, S⟩
                    have e0 : ρ (.tmp 5) = .slice (some ⟨wb, 0, none⟩) n n := by rw [hρ]; exact (acts_eval_tmp 5 (by kernel_rfl)).trans E5
                    clear hρ
                    go_simp
                  · rintro f a' W h4 hd ⟨hh, rfl, S⟩
                    refine wpOp_run (v := .pointer (some ⟨w5.heap.size, 1, none⟩)) rfl rfl (fun ρ hρ => ?_) ⟨hh, (acts_some 4 rfl (by kernel_rfl) (by kernel_rfl)).symm, S⟩
                    have e0 : ρ (.tmp 11) = .pointer (some ⟨w5.heap.size, 0, none⟩) := by rw [hρ]; exact (acts_eval_tmp 11 (by kernel_rfl)).trans E11
                    clear hρ
                    go_simp
                  · rintro f a' W h5 hd ⟨hh, rfl, S⟩
                    refine wpOp_run (v := .int .i64 t) rfl rfl (fun ρ hρ => ?_) ⟨hh, (acts_some 5 rfl (by kernel_rfl) (by kernel_rfl)).symm, S⟩
                    have e0 : ρ (.tmp 145) = .pointer (some ⟨w5.heap.size, 1, none⟩) := by rw [hρ]; exact acts_eval_hit 4 rfl hd.1 (by rw [HSZ]; rfl) (by kernel_rfl)
                    clear hρ
                    (have z1 := S.swap.cell 1)
                    go_simp
                  · rintro f a' W h6 hd ⟨hh, rfl, S⟩
                    refine wpOp_run (v := .pointer (some ⟨wb, t, none⟩)) rfl rfl (fun ρ hρ => ?_) ⟨hh, (acts_some 6 rfl (by kernel_rfl) (by kernel_rfl)).symm, S⟩
                    have e0 : ρ (.tmp 144) = .slice (some ⟨wb, 0, none⟩) n n := by rw [hρ]; exact acts_eval_hit 3 rfl hd.1 (by rw [HSZ]; rfl) (by kernel_rfl)
                    have e1 : ρ (.tmp 146) = .int .i64 t := by rw [hρ]; exact acts_eval_hit 5 rfl hd.2.1 (by rw [HSZ]; rfl) (by kernel_rfl)
                    clear hρ
                    go_simp
                  · rintro f a' W h7 hd ⟨hh, rfl, S⟩
                    (have z10 : f 10 = false := no_of hh h7)
                    refine wpOp_run (v := .slice (some ⟨g, off, none⟩) l1 cap) rfl rfl (fun ρ hρ => ?_) ⟨fun _ => rfl, (acts_some 7 rfl (by kernel_rfl) (by kernel_rfl)).symm, S⟩
                    have e0 : ρ (.tmp 147) = .pointer (some ⟨wb, t, none⟩) := by rw [hρ]; exact acts_eval_hit 6 rfl hd.1 (by rw [HSZ]; rfl) (by kernel_rfl)
                    clear hρ
                    (have z1 : W.cell? ⟨wb, t, none⟩ = some (.slice (some ⟨g, off, none⟩) l1 cap) := (by have h := S.cell t; rw [z10] at h; exact h.trans hCT))
                    go_simp
                  · rintro f a' W h8 hd ⟨hh, rfl, S⟩
                    refine wpOp_run (v := .slice A9 (l1 - 1) (cap - 1)) rfl rfl (fun ρ hρ => ?_) ⟨hh, (acts_some 8 rfl (by kernel_rfl) (by kernel_rfl)).symm, S⟩
                    have e0 : ρ (.tmp 148) = .slice (some ⟨g, off, none⟩) l1 cap := by rw [hρ]; exact acts_eval_hit 7 rfl hd.1 (by rw [HSZ]; rfl) (by kernel_rfl)
                    have ec : ∀ v, ρ (.const v) = v := by rw [hρ]; exact fun _ => rfl
                    clear hρ
                    go_simp
                  · rintro f a' W h9 hd ⟨hh, rfl, S⟩
                    refine wpOp_run (v := .pointer (some ⟨wb, t, none⟩)) rfl rfl (fun ρ hρ => ?_) ⟨hh, (acts_some 9 rfl (by kernel_rfl) (by kernel_rfl)).symm, S⟩
                    have e0 : ρ (.tmp 141) = .slice (some ⟨wb, 0, none⟩) n n := by rw [hρ]; exact acts_eval_hit 0 rfl hd.1 (by rw [HSZ]; rfl) (by kernel_rfl)
                    have e1 : ρ (.tmp 143) = .int .i64 t := by rw [hρ]; exact acts_eval_hit 2 rfl hd.2.1 (by rw [HSZ]; rfl) (by kernel_rfl)
                    clear hρ
                    go_simp
                  · rintro f a' W h10 hd ⟨hh, rfl, S⟩
                    have q150 : (acts [(0, 141, .slice (some ⟨wb, 0, none⟩) n n), (1, 142, .pointer (some ⟨w5.heap.size, 1, none⟩)), (2, 143, .int .i64 t), (3, 144, .slice (some ⟨wb, 0, none⟩) n n), (4, 145, .pointer (some ⟨w5.heap.size, 1, none⟩)), (5, 146, .int .i64 t), (6, 147, .pointer (some ⟨wb, t, none⟩)), (7, 148, .slice (some ⟨g, off, none⟩) l1 cap), (8, 149, .slice A9 (l1 - 1) (cap - 1)), (9, 150, .pointer (some ⟨wb, t, none⟩))] f a0).eval (.tmp 150) = .pointer (some ⟨wb, t, none⟩) := acts_eval_hit 9 rfl hd.1 (by rw [HSZ]; rfl) (by kernel_rfl)
                    have q149 : (acts [(0, 141, .slice (some ⟨wb, 0, none⟩) n n), (1, 142, .pointer (some ⟨w5.heap.size, 1, none⟩)), (2, 143, .int .i64 t), (3, 144, .slice (some ⟨wb, 0, none⟩) n n), (4, 145, .pointer (some ⟨w5.heap.size, 1, none⟩)), (5, 146, .int .i64 t), (6, 147, .pointer (some ⟨wb, t, none⟩)), (7, 148, .slice (some ⟨g, off, none⟩) l1 cap), (8, 149, .slice A9 (l1 - 1) (cap - 1)), (9, 150, .pointer (some ⟨wb, t, none⟩))] f a0).eval (.tmp 149) = .slice A9 (l1 - 1) (cap - 1) := acts_eval_hit 8 rfl hd.2.1 (by rw [HSZ]; rfl) (by kernel_rfl)
                    (simp only [h10, cond_false] at S; refine wpOp_list rfl ?_; refine st_set rfl _ _ _ rfl _ _ _ q150 q149 rfl _ _ S (by kernel_rfl) hCsT fun W' S' => ?_; exact ⟨fun _ => hd.2.2.2.2.2.2.2.2.2.1, (acts_none 10 (by kernel_rfl)).symm, S'⟩)
                · rintro a' W4 ⟨-, rfl, S11⟩
                  subst ha0
                  simp only [acts, if_true, Act.put, List.setIfInBounds_toArray, List.set_cons_succ, List.set_cons_zero]
                  simp only [cond_true] at S11
                  rw [HRR.out] at S11
                  have S12 := HCL.out G2 W4 _ _ _ (Sat.re S11 [2, 0, 3, 1, 4])
                  rw [← HS7.out.1] at S12
                  have hlst := ob_last S12.pull2
                  rw [HS7.out.2.1] at hlst
                  have c2 := S12.swap.cell 2
                  have HS12 := Lib.hid S12
                  clear S10 S11 S12 HSZ E5 E11
                  go_wp2_with fail
                  (with_reducible refine hlst.mono ?_)
                  rintro e w6 ⟨rfl, rfl⟩
                  clear hlst
                  go_wp2_with fail
                  go_roundw
                  case rel => exact ⟨k + 1, G2, s', by omega, by go_num, by rw [HS'.out.1], by rw [HS7.out.2.1], HS'.out.2.1, HS'.out.2.2.1, by rw [HS7.out.2.2]; exact HH.out.2.2.1, HS'.out.2.2.2.1, HS'.out.2.2.2.2, by rw [← HRP.out]; exact HS12.out.drop2⟩
                  case measure => simp [intOf]; omega
              · skip
                go_wp2_with fail
                go_quiet (fail)
                go_upto_region 23 with (fail)
                refine wp_world (HS9.out.drewQ _) fun W3 S10 => ?_
                clear z1 hcell e0 e1 e2 e3
                refine wp_act fun a0 ha0 => ?_
                have HSZ : a0.tmps.size = 224 := by rw [ha0]; rfl
                have E5 : a0.eval (.tmp 5) = .slice (some ⟨wb, 0, none⟩) n n := by rw [ha0]; rfl
                have E11 : a0.eval (.tmp 11) = .pointer (some ⟨w5.heap.size, 0, none⟩) := by rw [ha0]; rfl
                refine wp_region_J (by kernel_rfl) 11 (by kernel_rfl) [[], [], [1], [], [], [4], [3, 5], [6], [7], [0, 2, 0, 1, 2, 3, 4, 5, 6, 7, 8], [9, 8, 0, 1, 2, 3, 4, 5, 6, 7, 8]] (by kernel_rfl) (by kernel_rfl) (fun f a' W => (f 10 = true → f 7 = true) ∧ a' = acts [(0, 141, .slice (some ⟨wb, 0, none⟩) n n), (1, 142, .pointer (some ⟨w5.heap.size, 1, none⟩)), (2, 143, .int .i64 t), (3, 144, .slice (some ⟨wb, 0, none⟩) n n), (4, 145, .pointer (some ⟨w5.heap.size, 1, none⟩)), (5, 146, .int .i64 t), (6, 147, .pointer (some ⟨wb, t, none⟩)), (7, 148, .slice (some ⟨g, off, none⟩) l1 cap), (8, 149, .slice A9 (l1 - 1) (cap - 1)), (9, 150, .pointer (some ⟨wb, t, none⟩))] f a0 ∧ Sat G2 W (blk wb (cond (f 10) (C.setIfInBounds t (.slice A9 (l1 - 1) (cap - 1))) C) 43 :: blk w5.heap.size #[.int .i64 3, .int .i64 t, .int .i64 (2 * tk + 1), .int .i64 xn, .int .i64 d5] 45 :: RR)) ?_ ?_ ?_
                · exact ⟨fun h => (by cases h), rfl, S10.drew⟩
                · refine ⟨?_, ?_, ?_, ?_, ?_, ?_, ?_, ?_, ?_, ?_, ?_, trivial⟩
                  · rintro f a' W h0 hd ⟨hh, rfl, S⟩
                    refine wpOp_run (v := .slice (some ⟨wb, 0, none⟩) n n) rfl rfl (fun ρ hρ => ?_) ⟨hh, (acts_some 0 rfl (by kernel_rfl) (by kernel_rfl)).symm, S⟩
                    have e0 : ρ (.tmp 5) = .slice (some ⟨wb, 0, none⟩) n n := by rw [hρ]; exact (acts_eval_tmp 5 (by kernel_rfl)).trans E5
                    clear hρ
                    go_simp
                  · rintro f a' W h1 hd ⟨hh, rfl, S⟩
                    refine wpOp_run (v := .pointer (some ⟨w5.heap.size, 1, none⟩)) rfl rfl (fun ρ hρ => ?_) ⟨hh, (acts_some 1 rfl (by kernel_rfl) (by kernel_rfl)).symm, S⟩
                    have e0 : ρ (.tmp 11) = .pointer (some ⟨w5.heap.size, 0, none⟩) := by rw [hρ]; exact (acts_eval_tmp 11 (by kernel_rfl)).trans E11
                    clear hρ
                    go_simp
                  · rintro f a' W h2 hd ⟨hh, rfl, S⟩
                    refine wpOp_run (v := .int .i64 t) rfl rfl (fun ρ hρ => ?_) ⟨hh, (acts_some 2 rfl (by kernel_rfl) (by kernel_rfl)).symm, S⟩
                    have e0 : ρ (.tmp 142) = .pointer (some ⟨w5.heap.size, 1, none⟩) := by rw [hρ]; exact acts_eval_hit 1 rfl hd.1 (by rw [HSZ]; rfl) (by kernel_rfl)
                    clear hρ
                    (have z1 := S.swap.cell 1)
                    go_simp
                  · rintro f a' W h3 hd ⟨hh, rfl, S⟩
                    refine wpOp_run (v := .slice (some ⟨wb, 0, none⟩) n n) rfl rfl (fun ρ hρ => ?_) ⟨hh, (acts_some 3 rfl (by kernel_rfl) (by kernel_rfl)).symm, S⟩
                    have e0 : ρ (.tmp 5) = .slice (some ⟨wb, 0, none⟩) n n := by rw [hρ]; exact (acts_eval_tmp 5 (by kernel_rfl)).trans E5
                    clear hρ
                    go_simp
                  · rintro f a' W h4 hd ⟨hh, rfl, S⟩
                    refine wpOp_run (v := .pointer (some ⟨w5.heap.size, 1, none⟩)) rfl rfl (fun ρ hρ => ?_) ⟨hh, (acts_some 4 rfl (by kernel_rfl) (by kernel_rfl)).symm, S⟩
                    have e0 : ρ (.tmp 11) = .pointer (some ⟨w5.heap.size, 0, none⟩) := by rw [hρ]; exact (acts_eval_tmp 11 (by kernel_rfl)).trans E11
                    clear hρ
                    go_simp
                  · rintro f a' W h5 hd ⟨hh, rfl, S⟩
                    refine wpOp_run (v := .int .i64 t) rfl rfl (fun ρ hρ => ?_) ⟨hh, (acts_some 5 rfl (by kernel_rfl) (by kernel_rfl)).symm, S⟩
                    have e0 : ρ (.tmp 145) = .pointer (some ⟨w5.heap.size, 1, none⟩) := by rw [hρ]; exact acts_eval_hit 4 rfl hd.1 (by rw [HSZ]; rfl) (by kernel_rfl)
                    clear hρ
                    (have z1 := S.swap.cell 1)
                    go_simp
                  · rintro f a' W h6 hd ⟨hh, rfl, S⟩
                    refine wpOp_run (v := .pointer (some ⟨wb, t, none⟩)) rfl rfl (fun ρ hρ => ?_) ⟨hh, (acts_some 6 rfl (by kernel_rfl) (by kernel_rfl)).symm, S⟩
                    have e0 : ρ (.tmp 144) = .slice (some ⟨wb, 0, none⟩) n n := by rw [hρ]; exact acts_eval_hit 3 rfl hd.1 (by rw [HSZ]; rfl) (by kernel_rfl)
                    have e1 : ρ (.tmp 146) = .int .i64 t := by rw [hρ]; exact acts_eval_hit 5 rfl hd.2.1 (by rw [HSZ]; rfl) (by kernel_rfl)
                    clear hρ
                    go_simp
                  · rintro f a' W h7 hd ⟨hh, rfl, S⟩
                    (have z10 : f 10 = false := no_of hh h7)
                    refine wpOp_run (v := .slice (some ⟨g, off, none⟩) l1 cap) rfl rfl (fun ρ hρ => ?_) ⟨fun _ => rfl, (acts_some 7 rfl (by kernel_rfl) (by kernel_rfl)).symm, S⟩
                    have e0 : ρ (.tmp 147) = .pointer (some ⟨wb, t, none⟩) := by rw [hρ]; exact acts_eval_hit 6 rfl hd.1 (by rw [HSZ]; rfl) (by kernel_rfl)
                    clear hρ
                    (have z1 : W.cell? ⟨wb, t, none⟩ = some (.slice (some ⟨g, off, none⟩) l1 cap) := (by have h := S.cell t; rw [z10] at h; exact h.trans hCT))
                    go_simp
                  · rintro f a' W h8 hd ⟨hh, rfl, S⟩
                    refine wpOp_run (v := .slice A9 (l1 - 1) (cap - 1)) rfl rfl (fun ρ hρ => ?_) ⟨hh, (acts_some 8 rfl (by kernel_rfl) (by kernel_rfl)).symm, S⟩
                    have e0 : ρ (.tmp 148) = .slice (some ⟨g, off, none⟩) l1 cap := by rw [hρ]; exact acts_eval_hit 7 rfl hd.1 (by rw [HSZ]; rfl) (by kernel_rfl)
                    have ec : ∀ v, ρ (.const v) = v := by rw [hρ]; exact fun _ => rfl
                    clear hρ
                    go_simp
                  · rintro f a' W h9 hd ⟨hh, rfl, S⟩
                    refine wpOp_run (v := .pointer (some ⟨wb, t, none⟩)) rfl rfl (fun ρ hρ => ?_) ⟨hh, (acts_some 9 rfl (by kernel_rfl) (by kernel_rfl)).symm, S⟩
                    have e0 : ρ (.tmp 141) = .slice (some ⟨wb, 0, none⟩) n n := by rw [hρ]; exact acts_eval_hit 0 rfl hd.1 (by rw [HSZ]; rfl) (by kernel_rfl)
                    have e1 : ρ (.tmp 143) = .int .i64 t := by rw [hρ]; exact acts_eval_hit 2 rfl hd.2.1 (by rw [HSZ]; rfl) (by kernel_rfl)
                    clear hρ
                    go_simp
                  · rintro f a' W h10 hd ⟨hh, rfl, S⟩
                    have q150 : (acts [(0, 141, .slice (some ⟨wb, 0, none⟩) n n), (1, 142, .pointer (some ⟨w5.heap.size, 1, none⟩)), (2, 143, .int .i64 t), (3, 144, .slice (some ⟨wb, 0, none⟩) n n), (4, 145, .pointer (some ⟨w5.heap.size, 1, none⟩)), (5, 146, .int .i64 t), (6, 147, .pointer (some ⟨wb, t, none⟩)), (7, 148, .slice (some ⟨g, off, none⟩) l1 cap), (8, 149, .slice A9 (l1 - 1) (cap - 1)), (9, 150, .pointer (some ⟨wb, t, none⟩))] f a0).eval (.tmp 150) = .pointer (some ⟨wb, t, none⟩) := acts_eval_hit 9 rfl hd.1 (by rw [HSZ]; rfl) (by kernel_rfl)
                    have q149 : (acts [(0, 141, .slice (some ⟨wb, 0, none⟩) n n), (1, 142, .pointer (some ⟨w5.heap.size, 1, none⟩)), (2, 143, .int .i64 t), (3, 144, .slice (some ⟨wb, 0, none⟩) n n), (4, 145, .pointer (some ⟨w5.heap.size, 1, none⟩)), (5, 146, .int .i64 t), (6, 147, .pointer (some ⟨wb, t, none⟩)), (7, 148, .slice (some ⟨g, off, none⟩) l1 cap), (8, 149, .slice A9 (l1 - 1) (cap - 1)), (9, 150, .pointer (some ⟨wb, t, none⟩))] f a0).eval (.tmp 149) = .slice A9 (l1 - 1) (cap - 1) := acts_eval_hit 8 rfl hd.2.1 (by rw [HSZ]; rfl) (by kernel_rfl)
                    (simp only [h10, cond_false] at S; refine wpOp_list rfl ?_; refine st_set rfl _ _ _ rfl _ _ _ q150 q149 rfl _ _ S (by kernel_rfl) hCsT fun W' S' => ?_; exact ⟨fun _ => hd.2.2.2.2.2.2.2.2.2.1, (acts_none 10 (by kernel_rfl)).symm, S'⟩)
                · rintro a' W4 ⟨-, rfl, S11⟩
                  subst ha0
                  simp only [acts, if_true, Act.put, List.setIfInBounds_toArray, List.set_cons_succ, List.set_cons_zero]
                  simp only [cond_true] at S11
                  rw [HRR.out] at S11
                  have S12 := HCL.out G2 W4 _ _ _ (Sat.re S11 [2, 0, 3, 1, 4])
                  rw [← HS7.out.1] at S12
                  have hlst := ob_last S12.pull2
                  rw [HS7.out.2.1] at hlst
                  have c2 := S12.swap.cell 2
                  have HS12 := Lib.hid S12
                  clear S10 S11 S12 HSZ E5 E11
                  go_wp2_with fail
                  (with_reducible refine hlst.mono ?_)
                  rintro e w6 ⟨rfl, rfl⟩
                  clear hlst
                  go_wp2_with fail
                  go_roundw
                  case rel => exact ⟨k + 1, G2, s', by omega, by go_num, by rw [HS'.out.1], by rw [HS7.out.2.1], HS'.out.2.1, HS'.out.2.2.1, by rw [HS7.out.2.2]; exact HH.out.2.2.1, HS'.out.2.2.2.1, HS'.out.2.2.2.2, by rw [← HRP.out]; exact HS12.out.drop2⟩
                  case measure => simp [intOf]; omega
            · rw [hrl] at hlst
              have HS7 := Lib.hid (And.intro hq (And.intro hrl (And.intro hD' S7)))
              have hn1b : (d1 == 1) = false := by simpa using hn1
              clear hq hrl hD' S7
              by_cases hd3 : d1 = 3
              · subst hd3
                have hn3' : d3 ≠ 2 * tk + 1 := hn3.resolve_left (fun h => h rfl)
                have hn3b : (d3 == 2 * tk + 1) = false := by simpa using hn3'
                clear hn3
                go_wp2_with fail
                (with_reducible refine hlst.mono ?_)
                rintro e w6 ⟨rfl, rfl⟩
                clear hlst
                go_wp2_with fail
                go_roundw
                case rel => exact ⟨k + 1, G2, s', by omega, by go_num, by rw [HS'.out.1], by rw [HS7.out.2.1], HS'.out.2.1, HS'.out.2.2.1, by rw [HS7.out.2.2.1]; exact HH.out.2.2.1, HS'.out.2.2.2.1, HS'.out.2.2.2.2, by rw [HS7.out.1, ← HRP.out]; exact HS7.out.2.2.2.drop.swap⟩
                case measure => simp [intOf]; omega
              · have hd3b : (d1 == 3) = false := by simpa using hd3
                clear hn3
                go_wp2_with fail
                (with_reducible refine hlst.mono ?_)
                rintro e w6 ⟨rfl, rfl⟩
                clear hlst
                go_wp2_with fail
                go_roundw
                case rel => exact ⟨k + 1, G2, s', by omega, by go_num, by rw [HS'.out.1], by rw [HS7.out.2.1], HS'.out.2.1, HS'.out.2.2.1, by rw [HS7.out.2.2.1]; exact HH.out.2.2.1, HS'.out.2.2.2.1, HS'.out.2.2.2.2, by rw [HS7.out.1, ← HRP.out]; exact HS7.out.2.2.2.drop.swap⟩
                case measure => simp [intOf]; omega
        · have hk2b : (ok == 2) = false := by simpa using hk2
          have hlst := ob_last S5.pull2
          have HS5 := Lib.hid S5
          clear S5
          go_wp2_with fail
          (with_reducible refine hlst.mono ?_)
          rintro e w6 ⟨rfl, rfl⟩
          clear hlst
          go_wp2_with fail
          go_roundw
          case rel => exact ⟨k + 1, G1, s, by omega, by go_num, rfl, rfl, by omega, by have := HH.out.2.1; omega, HH.out.2.2.1, HH.out.2.2.2.1, HH.out.2.2.2.2, HS5.out.drop⟩
          case measure => simp [intOf]; omega
    · obtain rfl : m = k := by omega
      have hn64 := HB.out.2.1
      have hcn := HB.out.2.2.1
      have hfm : s.F.length ≤ 150 := by omega
      obtain ⟨RP, hRP⟩ : ∃ R : List Asrt, R = blk w.heap.size #[.int .i64 n, .int .i64 z, .int .i64 b, .int .i64 i_, .int .i64 q, .slice A m ca] 26 :: [] := ⟨_, rfl⟩
      have k0 := S4.pull2.cell 0
      have HH := Lib.hid (And.intro hfm (And.intro hI hG1))
      rw [← hRP] at S4
      have HRP := Lib.hid hRP
      clear hla hfe hD hI hG1 hRP
      go_wp2_with fail
      clear k0
      go_loopw [13, 161] (fun x i wr => ∃ t : Nat, t ≤ n ∧ i = .int .i64 t ∧ x = .int .i64 (lsum s.L t) ∧ Sat G1 wr (waA wb (qn s) :: outA o c s :: RP)) (fun _ i _ => n - (intOf i).toNat)
      case atStart => exact ⟨0, Nat.zero_le _, rfl, rfl, S4⟩
      case round =>
        obtain ⟨t, ht, rfl, rfl, S5⟩ := hrel
        clear S4
        have hsum := lsum_le HH.out.2.1 t (by omega)
        have hsb : lsum s.L t ≤ 9600 := Int.le_trans hsum.2 (by
          have h1 : (s.F.length : Int) * (t : Int) ≤ 150 * 64 := Int.mul_le_mul (by omega) (by omega) (by omega) (by decide)
          omega)
        by_cases htn : t < n
        · have htn2 : (t : Int) < (n : Int) := by omega
          have hst := ob_streams S5.swap HH.out.2.1.toOWf t
          have hlv := live_le' HH.out.2.1 (T := t) (by omega)
          obtain ⟨lv, hlv'⟩ : ∃ y, y = liveAt s.L t := ⟨_, rfl⟩
          rw [← hlv'] at hst hlv
          have HLV := Lib.hid hlv'
          obtain ⟨y, hy⟩ : ∃ y, y = lsum s.L t := ⟨_, rfl⟩
          rw [← hy] at hsum hsb ⊢
          have HY := Lib.hid hy
          have w1_ : IntKind.i64.wrap (y + lv) = y + lv := IntWalk.i64_in _ (by omega)
          have HS5 := Lib.hid S5
          clear hlv' hy S5
          go_wp2_with fail
          (with_reducible refine hst.mono ?_)
          rintro e w5 ⟨rfl, rfl⟩
          clear hst
          go_wp2_with fail
          go_roundw
          case rel => exact ⟨t + 1, by omega, by go_num, by rw [HY.out, HLV.out]; rfl, HS5.out⟩
          case measure => simp [intOf]; omega
        · obtain rfl : n = t := by omega
          have hem := ob_empty S5.swap HH.out.2.1
          obtain ⟨y, hy⟩ : ∃ y, y = lsum s.L n := ⟨_, rfl⟩
          rw [← hy] at hsum hsb ⊢
          have HY := Lib.hid hy
          obtain ⟨N, hN⟩ : ∃ N, N = emp s.Q c.ten := ⟨_, rfl⟩
          obtain ⟨s2, hs2⟩ : ∃ s2, s2 = ({ s with Q := List.replicate c.ten [] } : Os) := ⟨_, rfl⟩
          rw [← hN, ← hs2] at hem
          have hNl : N.length ≤ 262144 := by rw [hN]; exact Nat.le_trans (emp_len HH.out.2.1.q _) (by rw [hcn]; omega)
          have HS2 := Lib.hid (show OInv c s2 ∧ s2.L = s.L ∧ s2.Q = List.replicate c.ten [] ∧ N = emp s.Q n by rw [hs2, hN, hcn]; exact ⟨by rw [← hcn]; exact empty_inv HH.out.2.1, rfl, rfl, rfl⟩)
          clear hy hN hs2 S5
          go_wp2_with fail
          (with_reducible refine hem.mono ?_)
          rintro e w5 ⟨v, rfl, S6⟩
          clear hem
          obtain ⟨VD, vc, rfl, hvc1, hvc2, -⟩ := S6.ownGet
          have S7 := Sat.re S6 [2, 0, 1]
          obtain ⟨Nl, hNl'⟩ : ∃ x, x = N.length := ⟨_, rfl⟩
          rw [← hNl'] at S7 hvc1 hNl ⊢
          have HNL := Lib.hid hNl'
          have HY0 := Lib.hid (show y - lsum s.L 0 = y by show y - 0 = y; omega)
          clear S6 hNl'
          go_wp2_with fail
          go_loopw [13, 16, 174] (fun x kk i wr => ∃ t : Nat, t ≤ n ∧ i = .int .i64 t ∧ x = .int .i64 (y - lsum s.L t) ∧ kk = .int .i64 ((emp s.Q t).length : Nat) ∧ Sat G1 wr (waA wb (qn s) :: ownS 45 5 (.slice VD Nl vc) Nl (encs denc N) :: outA o c s2 :: RP)) (fun _ _ i _ => n - (intOf i).toNat)
          case atStart => exact ⟨0, Nat.zero_le _, rfl, by rw [HY0.out], rfl, S7⟩
          case round =>
            obtain ⟨t, ht, rfl, rfl, rfl, S8⟩ := hrel
            clear S7
            by_cases htn : t < n
            · have htn2 : (t : Int) < (n : Int) := by omega
              have hWl : t < (qn s).length := by show t < (s.Q.map _).length; rw [List.length_map, HH.out.2.1.ql, hcn]; exact htn
              obtain ⟨v, C, E, hCs, hCT, S9, -⟩ := wa_open S8 hWl
              obtain ⟨A2, c2, rfl, hc1, hc2, hget⟩ := S9.ownOGet
              have z1 := (S9.swap.cell t).trans hCT
              obtain ⟨Lt, hLt⟩ : ∃ L, L = (qn s).getD t [] := ⟨_, rfl⟩
              rw [← hLt] at z1 hc1 hget
              obtain ⟨ln, hln⟩ : ∃ x, x = (ints_w Lt).length := ⟨_, rfl⟩
              rw [← hln] at z1 hc1
              have hln2 : ln = (s.Q.getD t []).length := by rw [hln, List.length_map, hLt, qn_getD, List.length_map]
              have hln3 : ln ≤ 4096 := by
                rw [hln2]
                have h1 := (HH.out.2.1.q.at_ t).2
                have h2 := HB.out.2.2.2.2.2
                omega
              have HG := Lib.hid (And.intro hget (And.intro hln (And.intro hLt hln2)))
              have HS8 := Lib.hid S8
              obtain ⟨pe, hpe⟩ : ∃ x, x = (emp s.Q t).length := ⟨_, rfl⟩
              have hpe2 : pe + ln ≤ Nl := by
                have h1 := emp_mono (Q := s.Q) (show t + 1 ≤ n by omega)
                rw [emp_succ, List.length_append, empT_len, ← hln2, ← hpe, ← HS2.out.2.2.2, ← HNL.out] at h1
                exact h1
              rw [← hpe]
              have HPE := Lib.hid hpe
              clear S8 S9 hget hln hLt hln2 hpe hCT hCs hWl hsum hsb
              go_wp2_with fail
              go_loopw [16, 182] (fun kk i w' => ∃ j : Nat, j ≤ ln ∧ i = .int .i64 j ∧ kk = .int .i64 ((pe + j : Nat) : Int) ∧ w' = wr) (fun _ i _ => ln - (intOf i).toNat)
              case atStart => exact ⟨0, Nat.zero_le _, rfl, rfl, rfl⟩
              case round =>
                obtain ⟨j, hj, rfl, rfl, rfl⟩ := hrel
                by_cases hjl : j < ln
                · have hjl2 : (j : Int) < (ln : Int) := by omega
                  obtain ⟨x, hx⟩ : ∃ x, (s.Q.getD t [])[j]? = some x := ⟨_, List.getElem?_eq_getElem (by rw [← HG.out.2.2.2]; exact hjl)⟩
                  have hxl : (ints_w Lt)[j]? = some (.int .i64 x.1) := by rw [HG.out.2.2.1, qn_getD, List.getElem?_map, List.getElem?_map, hx]; rfl
                  obtain ⟨g, off, rfl, y1⟩ := HG.out.1 j _ hxl
                  have hNx : N[pe + j]? = some (t, x.1) := by rw [HS2.out.2.2.2, HPE.out]; exact emp_get htn hx
                  obtain ⟨VD', vc', hVD, -, -, hvg⟩ := (HS8.out.swap).ownGet
                  cases hVD
                  have hen := fun i hi => encs_get denc_len N (pe + j) _ hNx i hi
                  obtain ⟨gd, rfl, q0⟩ := hvg _ _ ((hen 0 (by decide)).trans rfl)
                  obtain ⟨g1, hg1, q1⟩ := hvg _ _ ((hen 1 (by decide)).trans rfl)
                  obtain ⟨g2, hg2, q2⟩ := hvg _ _ ((hen 2 (by decide)).trans rfl)
                  obtain ⟨g3, hg3, q3⟩ := hvg _ _ ((hen 3 (by decide)).trans rfl)
                  obtain ⟨g4, hg4, q4⟩ := hvg _ _ ((hen 4 (by decide)).trans rfl)
                  cases hg1
                  cases hg2
                  cases hg3
                  cases hg4
                  obtain ⟨p, hp⟩ : ∃ p, p = pe + j := ⟨_, rfl⟩
                  obtain ⟨xn, hxn⟩ : ∃ xn, xn = x.1 := ⟨_, rfl⟩
                  have hp2 : p < Nl := by omega
                  rw [← hp] at q0 q1 q2 q3 q4 ⊢
                  rw [← hxn] at y1 q3
                  rw [Nat.add_zero] at q0
                  have HP := Lib.hid hp
                  have ea := fun w => eq_did t xn w
                  have hp3 : (p : Int) < (Nl : Int) := by omega
                  have hp4 : ¬ ((Nl : Int) ≤ (p : Int)) := by omega
                  clear hx hxl hNx hvg hen hp hxn
                  go_wp2_with fail
                  go_roundw
                  case rel => exact ⟨j + 1, by omega, by go_num, by rw [HP.out]; go_num, by first | rfl | trivial⟩
                  case measure => simp [intOf]; omega
                · obtain rfl : ln = j := by omega
                  have S8 := HS8.out
                  have hst := ob_streams S8.pull2 HS2.out.1.toOWf t
                  rw [HS2.out.2.1] at hst
                  have hqd := ob_queued S8.pull2 HS2.out.1.toOWf t
                  rw [show qsz (qAt s2.Q (t : Int)) = 0 by rw [HS2.out.2.2.1]; unfold qAt; rw [if_pos (by omega), repD]; rfl] at hqd
                  have hlv := live_le' HH.out.2.1 (T := t) (by omega)
                  have hsum1 := lsum_le HH.out.2.1 t (by omega)
                  have hsb1 : lsum s.L t ≤ 9600 := Int.le_trans hsum1.2 (by
                    have h1 : (s.F.length : Int) * (t : Int) ≤ 150 * 64 := Int.mul_le_mul (by omega) (by omega) (by omega) (by decide)
                    omega)
                  have hsumn := lsum_le HH.out.2.1 n (by omega)
                  have hsbn : lsum s.L n ≤ 9600 := Int.le_trans hsumn.2 (by
                    have h1 : (s.F.length : Int) * (n : Int) ≤ 150 * 64 := Int.mul_le_mul (by omega) (by omega) (by omega) (by decide)
                    omega)
                  have hyy := HY.out
                  obtain ⟨lv, hlv'⟩ : ∃ y, y = liveAt s.L t := ⟨_, rfl⟩
                  rw [← hlv'] at hst hlv
                  have HLV := Lib.hid hlv'
                  have w1_ : IntKind.i64.wrap (y - lsum s.L t - lv) = y - lsum s.L t - lv := IntWalk.i64_in _ (by omega)
                  obtain ⟨u, hu⟩ : ∃ u, u = y - lsum s.L t := ⟨_, rfl⟩
                  rw [← hu] at w1_ ⊢
                  have HU := Lib.hid hu
                  clear hlv' hyy hu S8 hsum1 hsb1 hsumn hsbn
                  go_wp2_with fail
                  (with_reducible refine hst.mono ?_)
                  rintro e w6 ⟨rfl, rfl⟩
                  clear hst
                  go_wp2_with fail
                  (with_reducible refine hqd.mono ?_)
                  rintro e w6 ⟨rfl, rfl⟩
                  clear hqd
                  go_wp2_with fail
                  go_roundw
                  case rel => exact ⟨t + 1, by omega, by go_num, congrArg (Value.int .i64) (by rw [HU.out, HLV.out]; show _ = y - (lsum s.L t + liveAt s.L t); omega), congrArg (Value.int .i64) (by rw [emp_succ, List.length_append, empT_len, ← HG.out.2.2.2, HPE.out]; omega), HS8.out⟩
                  case measure => simp [intOf]; omega
            · obtain rfl : n = t := by omega
              rw [show y - lsum s.L n = 0 by have := HY.out; omega, show (emp s.Q n).length = Nl by rw [HNL.out, HS2.out.2.2.2]]
              have HS9 := Lib.hid S8
              have HT9 := Lib.hid (HT.out.mono HH.out.2.2)
              have HG9 := Lib.hid HH.out.2.2
              clear S8 hsum hsb
              go_wp2_with fail
              (with_reducible refine (law_awake HS9.out HT9.out).mono ?_); rintro e w9 ⟨rfl, G9, hG9, S9⟩; go_wp2_with fail; exact hK.out _ _ ⟨rfl, S9.above (HG9.out.trans hG9)⟩
end Go.Proofs.YtcecfhfbcdbofaaGreatDoor
