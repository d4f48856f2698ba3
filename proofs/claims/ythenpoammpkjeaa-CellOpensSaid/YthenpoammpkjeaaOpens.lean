/- The walk of the law CellOpens. -/
import Derived.Test.YthenpoammpkjeaaFills
import Derived.Test.YthenpoammpkjeaaOpensP
set_option linter.unusedSimpArgs false
set_option linter.unusedVariables false
namespace Go.Proofs.Ythenpoammpkjeaa
open Go.RowKit

set_option maxHeartbeats 16000000 in
set_option maxRecDepth 100000 in
theorem cellOpens_walk (w : World) (v0 v1 : Value) (h0 : ∃ d, ArgV w (.sl 48 (Ty.agg [.int .i64, .int .i64, .int .i64, .sl 1 (.int .u8)])) v0 d) (h1 : ∃ d, ArgV w (.int .i64) v1 d) :
    Calls Try.prog 7 #[v0, v1] w fun e w' => e = .returned (.bool true) ∧ Below w.heap.size w w' := by
  refine calls_any fun K hK => ?_
  obtain ⟨_, h0⟩ := h0
  obtain ⟨l, h0⟩ := arg_sl h0
  obtain ⟨fl, hfr⟩ := frames_of h0
  obtain ⟨_, h1⟩ := h1
  obtain ⟨n, rfl, hn⟩ := arg_int h1
  obtain ⟨n0, n1⟩ := bounds_i64 hn
  clear h0 h1 l hn
  change RFrs (Gnd.of w).ro v0 fl at hfr
  have HFR := Lib.hid hfr
  obtain ⟨A, c, rfl, hfl, hel⟩ := hfr
  have HEL := Lib.hid hel
  clear hel
  have S0 := Sat.start w
  have hG0 := Gnd.le.rfl' (G := Gnd.of w)
  go_enter Try.func7, Try.ntmps7
  go_wp2_with fail
  go_loopw [5, 6, 7, 19] (fun sz b kn i wr => ∃ (k : Nat), k ≤ fl.length ∧ i = .int .i64 k ∧ sz = .int .i64 (flat (fl.take k)).length ∧ (flat (fl.take k)).length ≤ 1500 ∧ b = .bool (bareB (fl.take k)) ∧ kn = .bool (knownB (fl.take k)) ∧ Sat (Gnd.of w) wr []) (fun _ _ _ i _ => fl.length - (intOf i).toNat)
  case atStart => exact ⟨0, Nat.zero_le _, rfl, rfl, by simp [flat], rfl, rfl, S0⟩
  case round =>
    obtain ⟨k, hk, rfl, rfl, hsz, rfl, rfl, S1⟩ := hrel
    clear S0
    by_cases hlt : k < fl.length
    · have hdk := List.getElem?_eq_getElem hlt
      obtain ⟨a, b, off, rfl, ha, p0, p1, p2, p3, hs, hbl⟩ := HEL.out k fl[k] hdk
      have q0 := S1.cellR p0
      have q1 := S1.cellR p1
      have q2 := S1.cellR p2
      have q3 := S1.cellR p3
      have hft := flat_take hdk
      have hbs := bare_snoc hdk
      have hks := known_snoc hdk
      have hlen2 : (flat (fl.take (k + 1))).length = (flat (fl.take k)).length + (9 + (fl[k]).bs.length) := by rw [hft, List.length_append, bytes_len]
      have HLN := Lib.hid hlen2
      have HBS := Lib.hid hbs
      have HKS := Lib.hid hks
      clear p0 p1 p2 p3 hdk hft hbs hks hlen2
      generalize fl[k] = d at *
      obtain ⟨dt, df, ds, dv, db⟩ := d
      simp only at q0 q1 q2 q3 hs hbl HLN HBS HKS
      obtain ⟨X, cx, rfl, -, -, -⟩ := hs.form
      have S2 := S1.newBlk #[.int .i64 dt, .int .i64 df, .int .i64 ds, .slice X db.length cx] 40
      have hrt := frame_right S2 dt df ds X db.length cx
      by_cases hbig : 1500 < ((flat (fl.take k)).length : Int) + (9 + db.length)
      · clear hrt
        generalize (flat (fl.take k)).length = sz at *
        generalize bareB (fl.take k) = bb at *
        generalize knownB (fl.take k) = kb at *
        clear hs S1
        go_wp2_with fail
        (with_reducible refine (awake_below _).mono ?_); rintro e w9 ⟨rfl, hb9⟩; go_wp2_with fail; exact hK.out _ _ ⟨rfl, ((S2).below hb9).above (hG0)⟩
      have c0 := S2.cell 0
      clear hs S1
      generalize (flat (fl.take k)).length = sz at *
      generalize hbb : bareB (fl.take k) = bb at *
      generalize hkb : knownB (fl.take k) = kb at *
      clear hbb hkb
      generalize hfrr : frRight dt df ds db.length = fr at *
      have HFRR := Lib.hid hfrr
      clear hfrr
      cases bb with
      | true =>
        cases kb with
        | true =>
          go_wp2_with fail
          (with_reducible refine hrt.mono ?_)
          clear hrt c0 S2
          rintro e w4 ⟨rfl, S3⟩
          have c0 := S3.cell 0
          go_wp2_with fail
          go_roundw
          case rel => exact ⟨k + 1, by omega, by go_num, by rw [HLN.out]; go_num, by rw [HLN.out]; omega, by rw [HBS.out]; first | rfl | simp, by rw [HKS.out]; first | rfl | simp, S3.drop⟩
          case measure => simp [intOf]; omega
        | false =>
          go_wp2_with fail
          (with_reducible refine hrt.mono ?_)
          clear hrt c0 S2
          rintro e w4 ⟨rfl, S3⟩
          have c0 := S3.cell 0
          go_wp2_with fail
          go_roundw
          case rel => exact ⟨k + 1, by omega, by go_num, by rw [HLN.out]; go_num, by rw [HLN.out]; omega, by rw [HBS.out]; first | rfl | simp, by rw [HKS.out]; first | rfl | simp, S3.drop⟩
          case measure => simp [intOf]; omega
      | false =>
        cases kb with
        | true =>
          clear hrt
          go_wp2_with fail
          go_roundw
          case rel => exact ⟨k + 1, by omega, by go_num, by rw [HLN.out]; go_num, by rw [HLN.out]; omega, by rw [HBS.out]; first | rfl | simp, by rw [HKS.out]; first | rfl | simp, S2.drop⟩
          case measure => simp [intOf]; omega
        | false =>
          clear hrt
          go_wp2_with fail
          go_roundw
          case rel => exact ⟨k + 1, by omega, by go_num, by rw [HLN.out]; go_num, by rw [HLN.out]; omega, by rw [HBS.out]; first | rfl | simp, by rw [HKS.out]; first | rfl | simp, S2.drop⟩
          case measure => simp [intOf]; omega
    · obtain rfl : k = fl.length := by omega
      rw [List.take_length] at *
      have hf := cell_frames S1 _ fl n HFR.out (by omega)
      have hrl := fun w => law_right n w
      cases hbb : bareB fl with
      | false =>
        have hna : ¬ AllR fl := fun h => by rw [(bare_iff fl).2 h] at hbb; cases hbb
        have HNA := Lib.hid hna
        clear hbb hna hrl S1
        go_wp2_with fail
        (with_reducible refine hf.mono ?_)
        clear hf
        rintro e w2 ⟨G, hG, S2, ⟨-, rfl⟩ | ⟨h, -⟩⟩
        rotate_left
        · exact absurd h HNA.out
        go_wp2_with fail
        (with_reducible refine (awake_below _).mono ?_); rintro e w9 ⟨rfl, hb9⟩; go_wp2_with fail; exact hK.out _ _ ⟨rfl, ((S2).below hb9).above (hG)⟩
      | true =>
        have hall := (bare_iff fl).1 hbb
        have HALL := Lib.hid hall
        clear hbb hall S1
        cases hr : clRight n with
        | false =>
          rw [hr] at hrl
          go_wp2_with fail
          (with_reducible refine hf.mono ?_)
          clear hf
          rintro e w2 ⟨G, hG, S2, ⟨h, -⟩ | ⟨-, h⟩⟩
          · exact absurd HALL.out h
          obtain rfl : e = .returned (.tuple #[.slice none 0 0, .int .i64 11]) := by
            rcases h with ⟨-, h⟩ | ⟨h, -⟩ | ⟨h, -⟩
            · exact h
            · rw [hr] at h; cases h
            · rw [hr] at h; cases h
          have hl1 := hrl w2
          clear hrl h hr
          go_wp2_with fail
          (with_reducible refine hl1.mono ?_)
          clear hl1
          rintro e w3 ⟨rfl, rfl⟩
          go_wp2_with fail
          (with_reducible refine (awake_below _).mono ?_); rintro e w9 ⟨rfl, hb9⟩; go_wp2_with fail; exact hK.out _ _ ⟨rfl, ((S2).below hb9).above (hG)⟩
        | true =>
          rw [hr] at hrl
          obtain ⟨b1, b2⟩ := right_bounds hr
          by_cases hlong : n + 9 < ((flat fl).length : Int)
          · go_wp2_with fail
            (with_reducible refine hf.mono ?_)
            clear hf
            rintro e w2 ⟨G, hG, S2, ⟨h, -⟩ | ⟨-, h⟩⟩
            · exact absurd HALL.out h
            obtain rfl : e = .returned (.tuple #[.slice none 0 0, .int .i64 15]) := by
              rcases h with ⟨h, -⟩ | ⟨-, -, h⟩ | ⟨-, z, h, -⟩
              · rw [hr] at h; cases h
              · exact h
              · omega
            have hl1 := hrl w2
            clear hrl h hr
            generalize (flat fl).length = sz at *
            go_wp2_with fail
            (with_reducible refine hl1.mono ?_)
            clear hl1
            rintro e w3 ⟨rfl, rfl⟩
            go_wp2_with fail
            (with_reducible refine (awake_below _).mono ?_); rintro e w9 ⟨rfl, hb9⟩; go_wp2_with fail; exact hK.out _ _ ⟨rfl, ((S2).below hb9).above (hG)⟩
          obtain ⟨N, rfl⟩ : ∃ N : Nat, n = N := ⟨n.toNat, by omega⟩
          go_wp2_with fail
          (with_reducible refine hf.mono ?_)
          clear hf
          rintro e w2 ⟨G, hG, S2, ⟨h, -⟩ | ⟨-, h⟩⟩
          · exact absurd HALL.out h
          obtain ⟨z, hz, u, rfl, hu⟩ : ∃ z : Nat, N + 9 = (flat fl).length + z ∧ ∃ u, e = .returned (.tuple #[u, .int .i64 0]) ∧ SlB (Go.Proofs.Ythenpoammpkjeaa.cellR G.ro) u (fillB (flat fl) z) := by
            rcases h with ⟨h, -⟩ | ⟨-, h, -⟩ | ⟨-, z, h, u, he, hu⟩
            · rw [hr] at h; cases h
            · omega
            · exact ⟨z, by omega, u, he, hu⟩
          have hlu : (fillB (flat fl) z).length = N + 18 := by rw [fillB_length]; omega
          have hop := cell_open S2 _ (fillB (flat fl) z) N hu (by omega)
          obtain ⟨U, cu, rfl, -, -, -⟩ := hu.form
          have hl1 := hrl w2
          have HZ := Lib.hid hz
          clear hrl h hu hz hr
          rw [hlu] at hop ⊢
          clear hlu
          generalize hsz0 : (flat fl).length = sz at *
          have HSZ0 := Lib.hid hsz0
          clear hsz0
          go_wp2_with fail
          (with_reducible refine hl1.mono ?_)
          clear hl1
          rintro e w3 ⟨rfl, rfl⟩
          go_wp2_with fail
          (with_reducible refine hop.mono ?_)
          clear hop S2
          rintro e w4 ⟨G2, hG2, hres, S4⟩
          obtain ⟨F, v', hback, rfl, O, co, rfl, ho1, ho2, hel2⟩ := back_of (by omega) (by omega) (by have h1 := HZ.out; have h2 := HSZ0.out; omega) HALL.out hres
          have ho3 : co ≤ 9223372036854775807 := ho2
          have HB := Lib.hid hback
          have HE2 := Lib.hid hel2
          clear hres hback hel2 ho2
          have hG02 := hG.trans hG2
          go_wp2_with fail
          go_loopw [14, 113] (fun kk i wr => ∃ (k : Nat), k ≤ fl.length ∧ i = .int .i64 k ∧ kk = .int .i64 ((F.take k).filter keep).length ∧ Sat G2 wr []) (fun _ i _ => fl.length - (intOf i).toNat)
          case atStart => exact ⟨0, Nat.zero_le _, rfl, rfl, S4⟩
          case round =>
            obtain ⟨k, hk, rfl, rfl, S5⟩ := hrel
            clear S4
            by_cases hlt : k < fl.length
            · have hdk := List.getElem?_eq_getElem hlt
              obtain ⟨a, b, off, rfl, ha, p0, p1, p2, p3, hs, hbl⟩ := HEL.out k fl[k] hdk
              have q0 := S5.cellR (cellR_mono hG02.ro p0)
              have q1 := S5.cellR (cellR_mono hG02.ro p1)
              have q2 := S5.cellR (cellR_mono hG02.ro p2)
              have q3 := S5.cellR (cellR_mono hG02.ro p3)
              have hs2 := hs.mono hG02
              obtain ⟨st1, st2⟩ := HB.out.step hdk
              have ST1 := Lib.hid st1
              have ST2 := Lib.hid st2
              clear p0 p1 p2 p3 hdk hs st1 st2
              generalize fl[k] = d at *
              obtain ⟨dt, df, ds, dv, db⟩ := d
              simp only at q0 q1 q2 q3 hs2 hbl ST1 ST2
              obtain ⟨X, cx, rfl, -, -, -⟩ := hs2.form
              have S6 := S5.newBlk #[.int .i64 dt, .int .i64 df, .int .i64 ds, .slice X db.length cx] 40
              clear S5
              by_cases hT : dt = 250
              · have hTb : (dt == 250) = true := beq_iff_eq.2 hT
                have HS1 := Lib.hid (ST1.out hT)
                clear hT hs2
                generalize ((F.take k).filter keep).length = kl at *
                go_wp2_with fail
                go_roundw
                case rel => exact ⟨k + 1, by omega, by go_num, by rw [HS1.out], S6.drop⟩
                case measure => simp [intOf]; omega
              · have hTb : (dt == 250) = false := beq_eq_false_iff_ne.2 hT
                obtain ⟨hkn, f, hfat, e1, e2, e3, hfb⟩ := ST2.out hT
                have hmlt := (List.getElem?_eq_some_iff.1 hfat).1
                obtain ⟨g, rfl, hq⟩ := HE2.out _ _ hfat
                have f0 := hq 0 (by decide)
                have f1 := hq 1 (by decide)
                have f2 := hq 2 (by decide)
                have f3 := hq 3 (by decide)
                obtain ⟨P, cp, hP, -, -, -⟩ := hfb.form
                rw [show (fc f)[0]? = some (.int .i64 dt) by rw [← e1]; rfl] at f0
                rw [show (fc f)[1]? = some (.int .i64 df) by rw [← e2]; rfl] at f1
                rw [show (fc f)[2]? = some (.int .i64 ds) by rw [← e3]; rfl] at f2
                rw [show (fc f)[3]? = some (.slice P db.length cp) by rw [← hP]; rfl] at f3
                rw [hP] at hfb
                rw [Nat.add_zero] at f0
                have HKN := Lib.hid hkn
                have HFB := Lib.hid hfb
                have HS2 := Lib.hid hs2
                clear hkn hfat e1 e2 e3 hfb hs2 hP hq hT
                generalize ((F.take k).filter keep).length = kl at *
                generalize (F.filter keep).length = mm at *
                go_upto_region 27 with fail
                generalize wr.heap.size = zz at S6 ⊢
                refine wp_world S6 fun W6 S7 => ?_
                clear S6 q0 q1 q2 q3
                refine wp_act fun a0 ha0 => ?_
                have HSZ : a0.tmps.size = 153 := by rw [ha0]; rfl
                have E12 : a0.eval (.tmp 12) = .slice (some ⟨g, 0, none⟩) mm co := by rw [ha0]; rfl
                have E14 : a0.eval (.tmp 14) = .int .i64 kl := by rw [ha0]; rfl
                have E16 : a0.eval (.tmp 16) = .pointer (some ⟨zz, 0, none⟩) := by rw [ha0]; rfl
                refine wp_region_J (by kernel_rfl) 13 (by kernel_rfl) [[], [], [1], [0, 2], [3], [4], [4], [5, 6, 4], [7, 4], [4], [8, 9, 4, 4], [10, 4], [4, 11]] (by kernel_rfl) (by kernel_rfl) (fun f a' W => a' = acts [(0, 120, .int .i64 kl), (1, 121, .slice (some ⟨g, 0, none⟩) mm co), (2, 122, .int .i64 mm), (3, 123, .bool false), (4, 124, .bool false), (5, 125, .slice (some ⟨g, 0, none⟩) mm co), (6, 126, .int .i64 kl), (7, 127, .pointer (some ⟨g, kl * 4, none⟩)), (8, 128, .agg #[.int .i64 dt, .int .i64 df, .int .i64 ds, .slice P db.length cp]), (9, 129, .agg #[.int .i64 dt, .int .i64 df, .int .i64 ds, .slice X db.length cx]), (10, 130, .bool true), (11, 131, .bool false), (12, 132, .bool false)] f a0 ∧ Sat G2 W [blk zz #[.int .i64 dt, .int .i64 df, .int .i64 ds, .slice X db.length cx] 40]) ?_ ?_ ?_
                · exact ⟨rfl, S7.drew⟩
                · refine ⟨?_, ?_, ?_, ?_, ?_, ?_, ?_, ?_, ?_, ?_, ?_, ?_, ?_, trivial⟩
                  · rintro f a' W h0 hd ⟨rfl, S⟩
                    refine wpOp_run (v := .int .i64 kl) rfl rfl (fun ρ hρ => ?_) ⟨(acts_some 0 rfl (by kernel_rfl) (by kernel_rfl)).symm, S⟩
                    have e0 : ρ (.tmp 14) = .int .i64 kl := by rw [hρ]; exact (acts_eval_tmp 14 (by kernel_rfl)).trans E14
                    clear hρ
                    go_simp
                  · rintro f a' W h1 hd ⟨rfl, S⟩
                    refine wpOp_run (v := .slice (some ⟨g, 0, none⟩) mm co) rfl rfl (fun ρ hρ => ?_) ⟨(acts_some 1 rfl (by kernel_rfl) (by kernel_rfl)).symm, S⟩
                    have e0 : ρ (.tmp 12) = .slice (some ⟨g, 0, none⟩) mm co := by rw [hρ]; exact (acts_eval_tmp 12 (by kernel_rfl)).trans E12
                    clear hρ
                    go_simp
                  · rintro f a' W h2 hd ⟨rfl, S⟩
                    refine wpOp_run (v := .int .i64 mm) rfl rfl (fun ρ hρ => ?_) ⟨(acts_some 2 rfl (by kernel_rfl) (by kernel_rfl)).symm, S⟩
                    have e0 : ρ (.tmp 121) = .slice (some ⟨g, 0, none⟩) mm co := by rw [hρ]; exact acts_eval_hit 1 rfl hd.1 (by rw [HSZ]; rfl) (by kernel_rfl)
                    clear hρ
                    go_simp
                  · rintro f a' W h3 hd ⟨rfl, S⟩
                    refine wpOp_run (v := .bool false) rfl rfl (fun ρ hρ => ?_) ⟨(acts_some 3 rfl (by kernel_rfl) (by kernel_rfl)).symm, S⟩
                    have e0 : ρ (.tmp 120) = .int .i64 kl := by rw [hρ]; exact acts_eval_hit 0 rfl hd.1 (by rw [HSZ]; rfl) (by kernel_rfl)
                    have e1 : ρ (.tmp 122) = .int .i64 mm := by rw [hρ]; exact acts_eval_hit 2 rfl hd.2.1 (by rw [HSZ]; rfl) (by kernel_rfl)
                    clear hρ
                    go_simp
                  · rintro f a' W h4 hd ⟨rfl, S⟩
                    refine wpOp_run (v := .bool false) rfl rfl (fun ρ hρ => ?_) ⟨(acts_some 4 rfl (by kernel_rfl) (by kernel_rfl)).symm, S⟩
                    have e0 : ρ (.tmp 123) = .bool false := by rw [hρ]; exact acts_eval_hit 3 rfl hd.1 (by rw [HSZ]; rfl) (by kernel_rfl)
                    clear hρ
                    go_simp
                  · rintro f a' W h5 hd ⟨rfl, S⟩
                    refine wpOp_runG (v := .slice (some ⟨g, 0, none⟩) mm co) rfl ?_ (fun ρ hρ => ?_) ⟨(acts_some 5 rfl (by kernel_rfl) (by kernel_rfl)).symm, S⟩
                    · exact wanted_hit (t := 124) rfl rfl (acts_eval_hit 4 rfl hd.1 (by rw [HSZ]; rfl) (by kernel_rfl))
                    · skip
                      have e0 : ρ (.tmp 12) = .slice (some ⟨g, 0, none⟩) mm co := by rw [hρ]; exact (acts_eval_tmp 12 (by kernel_rfl)).trans E12
                      clear hρ
                      go_simp
                  · rintro f a' W h6 hd ⟨rfl, S⟩
                    refine wpOp_runG (v := .int .i64 kl) rfl ?_ (fun ρ hρ => ?_) ⟨(acts_some 6 rfl (by kernel_rfl) (by kernel_rfl)).symm, S⟩
                    · exact wanted_hit (t := 124) rfl rfl (acts_eval_hit 4 rfl hd.1 (by rw [HSZ]; rfl) (by kernel_rfl))
                    · skip
                      have e0 : ρ (.tmp 14) = .int .i64 kl := by rw [hρ]; exact (acts_eval_tmp 14 (by kernel_rfl)).trans E14
                      clear hρ
                      go_simp
                  · rintro f a' W h7 hd ⟨rfl, S⟩
                    refine wpOp_runG (v := .pointer (some ⟨g, kl * 4, none⟩)) rfl ?_ (fun ρ hρ => ?_) ⟨(acts_some 7 rfl (by kernel_rfl) (by kernel_rfl)).symm, S⟩
                    · exact wanted_hit (t := 124) rfl rfl (acts_eval_hit 4 rfl hd.2.2.1 (by rw [HSZ]; rfl) (by kernel_rfl))
                    · skip
                      have e0 : ρ (.tmp 125) = .slice (some ⟨g, 0, none⟩) mm co := by rw [hρ]; exact acts_eval_hit 5 rfl hd.1 (by rw [HSZ]; rfl) (by kernel_rfl)
                      have e1 : ρ (.tmp 126) = .int .i64 kl := by rw [hρ]; exact acts_eval_hit 6 rfl hd.2.1 (by rw [HSZ]; rfl) (by kernel_rfl)
                      clear hρ
                      go_simp
                  · rintro f a' W h8 hd ⟨rfl, S⟩
                    refine wpOp_runG (v := .agg #[.int .i64 dt, .int .i64 df, .int .i64 ds, .slice P db.length cp]) rfl ?_ (fun ρ hρ => ?_) ⟨(acts_some 8 rfl (by kernel_rfl) (by kernel_rfl)).symm, S⟩
                    · exact wanted_hit (t := 124) rfl rfl (acts_eval_hit 4 rfl hd.2.1 (by rw [HSZ]; rfl) (by kernel_rfl))
                    · skip
                      have e0 : ρ (.tmp 127) = .pointer (some ⟨g, kl * 4, none⟩) := by rw [hρ]; exact acts_eval_hit 7 rfl hd.1 (by rw [HSZ]; rfl) (by kernel_rfl)
                      clear hρ
                      (have d0 := S.cellR f0; have d1 := S.cellR f1; have d2 := S.cellR f2; have d3 := S.cellR f3)
                      go_simp
                  · rintro f a' W h9 hd ⟨rfl, S⟩
                    refine wpOp_runG (v := .agg #[.int .i64 dt, .int .i64 df, .int .i64 ds, .slice X db.length cx]) rfl ?_ (fun ρ hρ => ?_) ⟨(acts_some 9 rfl (by kernel_rfl) (by kernel_rfl)).symm, S⟩
                    · exact wanted_hit (t := 124) rfl rfl (acts_eval_hit 4 rfl hd.1 (by rw [HSZ]; rfl) (by kernel_rfl))
                    · skip
                      have e0 : ρ (.tmp 16) = .pointer (some ⟨zz, 0, none⟩) := by rw [hρ]; exact (acts_eval_tmp 16 (by kernel_rfl)).trans E16
                      clear hρ
                      (have d0 := S.cell 0; have d1 := S.cell 1; have d2 := S.cell 2; have d3 := S.cell 3)
                      go_simp
                  · rintro f a' W h10 hd ⟨rfl, S⟩
                    (have hq := frame_equal S dt df ds dt df ds _ _ db db (fun W SW => (HFB.out.sat SW).1) (fun W SW => (HS2.out.sat SW).1); rw [decide_eq_true ⟨rfl, rfl, rfl, rfl⟩] at hq)
                    refine wpOp_callG rfl (wanted_hit (t := 124) rfl rfl (acts_eval_hit 4 rfl hd.2.2.1 (by rw [HSZ]; rfl) (by kernel_rfl))) (fun ρ hρ => ?_) (hq) ?_
                    · skip
                      have e0 : ρ (.tmp 128) = .agg #[.int .i64 dt, .int .i64 df, .int .i64 ds, .slice P db.length cp] := by rw [hρ]; exact acts_eval_hit 8 rfl hd.1 (by rw [HSZ]; rfl) (by kernel_rfl)
                      have e1 : ρ (.tmp 129) = .agg #[.int .i64 dt, .int .i64 df, .int .i64 ds, .slice X db.length cx] := by rw [hρ]; exact acts_eval_hit 9 rfl hd.2.1 (by rw [HSZ]; rfl) (by kernel_rfl)
                      have ef : ρ (.func 21) = .func (.func 21) #[] #[] := by rw [hρ]; rfl
                      clear hρ
                      go_simp
                    · (rintro e W' ⟨rfl, S'⟩; exact ⟨_, rfl, acts_swap rfl (k := 10) rfl (by kernel_rfl) (by kernel_rfl), S'⟩)
                  · rintro f a' W h11 hd ⟨rfl, S⟩
                    refine wpOp_runG (v := .bool false) rfl ?_ (fun ρ hρ => ?_) ⟨(acts_some 11 rfl (by kernel_rfl) (by kernel_rfl)).symm, S⟩
                    · exact wanted_hit (t := 124) rfl rfl (acts_eval_hit 4 rfl hd.2.1 (by rw [HSZ]; rfl) (by kernel_rfl))
                    · skip
                      have e0 : ρ (.tmp 130) = .bool true := by rw [hρ]; exact acts_eval_hit 10 rfl hd.1 (by rw [HSZ]; rfl) (by kernel_rfl)
                      clear hρ
                      go_simp
                  · rintro f a' W h12 hd ⟨rfl, S⟩
                    refine wpOp_run (v := .bool false) rfl rfl (fun ρ hρ => ?_) ⟨(acts_some 12 rfl (by kernel_rfl) (by kernel_rfl)).symm, S⟩
                    have e0 : ρ (.tmp 124) = .bool false := by rw [hρ]; exact acts_eval_hit 4 rfl hd.1 (by rw [HSZ]; rfl) (by kernel_rfl)
                    have e1 : ρ (.tmp 131) = .bool false := by rw [hρ]; exact acts_eval_hit 11 rfl hd.2.1 (by rw [HSZ]; rfl) (by kernel_rfl)
                    have ec : ∀ v, ρ (.const v) = v := by rw [hρ]; exact fun _ => rfl
                    clear hρ
                    go_simp
                · rintro a' W ⟨rfl, S8⟩
                  subst ha0
                  simp only [acts, if_true, Act.put, List.setIfInBounds_toArray, List.set_cons_succ, List.set_cons_zero]
                  clear S7 HSZ E12 E14 E16 f0 f1 f2 f3
                  go_wp2_with fail
                  go_roundw
                  case rel => exact ⟨k + 1, by omega, by go_num, by rw [HKN.out]; go_num, S8.drop⟩
                  case measure => simp [intOf]; omega
            · obtain rfl : k = fl.length := by omega
              have hend := HB.out.end_
              cases hkb : knownB fl with
              | true =>
                have hkn := HB.out.known hkb
                rw [hend] at hkn
                rw [hend, hkn] at *
                clear hend hkn hkb HEL HE2 HB
                generalize fl.length = mm at *
                go_wp2_with fail
                (with_reducible refine (awake_below _).mono ?_); rintro e w9 ⟨rfl, hb9⟩; go_wp2_with fail; exact hK.out _ _ ⟨rfl, ((S5).below hb9).above (hG02)⟩
              | false =>
                rw [hend] at *
                clear hend hkb HEL HE2 HB
                generalize (F.filter keep).length = mm at *
                go_wp2_with fail
                (with_reducible refine (awake_below _).mono ?_); rintro e w9 ⟨rfl, hb9⟩; go_wp2_with fail; exact hK.out _ _ ⟨rfl, ((S5).below hb9).above (hG02)⟩
end Go.Proofs.Ythenpoammpkjeaa
