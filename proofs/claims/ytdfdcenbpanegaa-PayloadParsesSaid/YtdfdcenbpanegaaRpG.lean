/- Chapter 10: the reference's Parse, walked: frames of type 4. -/
import Derived.Test.YtdfdcenbpanegaaRp0
set_option linter.unusedSimpArgs false
set_option linter.unusedVariables false
namespace Go.Proofs.Ytdfdcenbpanegaa
open Go.RowKit

def HQp (f : Nat → Bool) : Prop := (f 9 = true → True) ∧ (f 10 = true → f 9 = true) ∧ (f 10 = true → f 1 = true) ∧ (f 12 = true → f 10 = true)
section
variable {G : Gnd} {w : World} {l : List Asrt}
set_option maxHeartbeats 4000000 in
set_option maxRecDepth 100000 in
theorem rp_4 (H : Sat G w l) (fl : Nat) (hfl : fl < 256) (s : Int) (bs : List UInt8) (hn : bs.length ≤ 1000) : Calls Try.prog 10 #[.int .i64 4, .int .i64 fl, .int .i64 s, .string (bstr bs)] w fun e w' => ∃ u G', G.le G' ∧ e = .returned (refOut (parseS 4 fl s bs) u) ∧ RPr G'.ro u (parseS 4 fl s bs).ps ∧ Sat G' w' l := by
  refine calls_any fun K hK => ?_
  have hsz := bstr_size bs
  have S1 := ((H.newBlk #[.int .i64 0, .int .i64 0, .string (bstr []), .int .i64 0, .int .i64 0, .int .i64 0, .int .i64 0, .int .i64 0, .int .i64 0, .int .i64 0, .int .i64 0, .int .i64 0, .int .i64 0, .int .i64 0, .slice none 0 0] 35).newBlk #[.int .i64 4, .int .i64 s, .string (bstr []), .int .i64 0, .int .i64 0, .int .i64 0, .int .i64 0, .int .i64 0, .int .i64 0, .int .i64 0, .int .i64 0, .int .i64 0, .int .i64 0, .int .i64 0, .slice none 0 0] 35).newBlk #[.int .i64 4, .int .i64 s, .string (bstr []), .int .i64 0, .int .i64 0, .int .i64 0, .int .i64 0, .int .i64 0, .int .i64 0, .int .i64 0, .int .i64 0, .int .i64 0, .int .i64 0, .int .i64 0, .slice none 0 0] 35
  simp only [World.size_alloc] at S1
  clear H
  by_cases hz : s = 0
  · subst hz
    have hzb : ((0 : Int) == 0) = true := rfl
    obtain ⟨q6, hq6⟩ : ∃ q6, q6 = bs.length % 6 := ⟨_, rfl⟩
    have htm : Int.tmod (bs.length : Int) 6 = ((bs.length % 6 : Nat) : Int) := by rw [Int.tmod_eq_emod_of_nonneg (by omega)]; rfl
    have hfg : ∀ W, Calls Try.prog 21 #[.int .i64 fl, .int .i64 1] W fun e w' => e = .returned (.int .i64 (b2i (hasF fl 1))) ∧ W = w' := fun W => ref_flag fl hfl 1 (.inl rfl) W
    by_cases h6 : ¬ bs.length % 6 = 0
    · rw [← hq6] at htm
      have hqb : ((q6 : Int) != 0) = true := by rw [bne_iff_ne]; omega
      rw [show parseS 4 fl 0 bs = (⟨(106, true), ⟨4, 0, false, false, false, 0, 0, 0, 0, 0, 0, false, false⟩, [], []⟩ : RdRes) from by simp [parseS, placeBad, lenF, readS, bareR, bareS, ownF, h6]] at hK
      clear h6 hq6 hfg
      go_enter Try.func10, Try.ntmps10
      go_upto_region 13 with fail
      generalize w.heap.size + 1 + 1 = r12 at *; generalize w.heap.size + 1 = r11 at *; generalize w.heap.size = r8 at *
      refine wp_world S1 fun w2 S2 => ?_
      clear S1
      have S3 := S2.swap; clear S2; refine wp_region_lit ?_; refine st_load rfl _ _ rfl r11 rfl _ _ S3 _ Try.underlying35 rfl (by kernel_rfl) ?_; refine st_store rfl _ _ _ rfl r8 _ rfl rfl _ _ (S3.re [2, 0, 1]) (by kernel_rfl) rfl (by simp [Value.oneCell']) fun w5 S6 => ?_; have HS := Lib.hid S6; clear S3 S6; go_wp2_with fail; exact bodyPost_ret (results_cell_tt rfl _ _ _ _ _ _ rfl (HS.out).blk_at Try.underlying35 rfl (by kernel_rfl)) rfl (hK.out _ _ ⟨_, G, Gnd.le.rfl', rfl, RPr.nil _, HS.out.drop.drop.drop⟩)
    replace h6 : bs.length % 6 = 0 := by omega
    rw [h6] at htm
    clear hq6
    cases hf : hasF fl 1 with
    | true =>
      by_cases h0 : 0 < bs.length
      · have hgt0 : (0 : Int) < (bs.length : Int) := by omega
        rw [show parseS 4 fl 0 bs = (⟨(106, true), ⟨4, 0, false, false, false, 0, 0, 0, 0, 0, 0, false, false⟩, [], []⟩ : RdRes) from by simp [parseS, placeBad, lenF, readS, bareR, bareS, ownF, hf, h0, h6]] at hK
        rw [hf] at hfg
        clear hf
        go_enter Try.func10, Try.ntmps10
        go_wp2_with fail
        (with_reducible refine (hfg _).mono ?_); rintro e w1 ⟨rfl, rfl⟩
        clear hfg
        go_upto_region 13 with fail
        generalize w.heap.size + 1 + 1 = r12 at *; generalize w.heap.size + 1 = r11 at *; generalize w.heap.size = r8 at *
        refine wp_world S1 fun w2 S2 => ?_
        clear S1
        have S3 := S2.swap; clear S2; refine wp_region_lit ?_; refine st_load rfl _ _ rfl r11 rfl _ _ S3 _ Try.underlying35 rfl (by kernel_rfl) ?_; refine st_store rfl _ _ _ rfl r8 _ rfl rfl _ _ (S3.re [2, 0, 1]) (by kernel_rfl) rfl (by simp [Value.oneCell']) fun w5 S6 => ?_; have HS := Lib.hid S6; clear S3 S6; go_wp2_with fail; exact bodyPost_ret (results_cell_tt rfl _ _ _ _ _ _ rfl (HS.out).blk_at Try.underlying35 rfl (by kernel_rfl)) rfl (hK.out _ _ ⟨_, G, Gnd.le.rfl', rfl, RPr.nil _, HS.out.drop.drop.drop⟩)
      · have hgt0 : ¬ (0 : Int) < (bs.length : Int) := by omega
        have hfz : (hasF fl 1 && decide (0 < bs.length)) = false := by rw [hf, decide_eq_false h0]; rfl
        rw [show parseS 4 fl 0 bs = (⟨(0, false), ⟨4, 0, false, false, hasF fl 1, 0, 0, 0, 0, 0, 0, false, false⟩, [], pairsIn bs⟩ : RdRes) from by simp [parseS, placeBad, lenF, readS, bareR, bareS, ownF, h6, hfz]] at hK
        rw [hf] at hfg hK
        go_enter Try.func10, Try.ntmps10
        go_upto_region 11 with fail
        generalize w.heap.size + 1 + 1 = r12 at *; generalize w.heap.size + 1 = r11 at *; generalize w.heap.size = r8 at *
        refine wp_world S1 fun w2 S2 => ?_
        clear S1
        have c12 : w2.cell? ⟨r12, 12, none⟩ = some (.int .i64 0) := S2.cell 12
        go_wp2_with fail
        (with_reducible refine (hfg _).mono ?_); rintro e w1 ⟨rfl, rfl⟩
        go_wp2_with fail
        (with_reducible refine (hfg _).mono ?_); rintro e w1 ⟨rfl, rfl⟩
        have f5 := S2.frozen 5
        have d5 := S2.cell 5
        have S3 := S2.setCell 5 (.int .i64 (b2i true))
        go_upto_region 42 with fail
        refine wp_world S3 fun w3 S4 => ?_
        clear S2 S3 f5 d5 c12 hfg
        have S5 : Sat G w3 (blk r12 #[.int .i64 4, .int .i64 0, .string (bstr []), .int .i64 0, .int .i64 0, .int .i64 (b2i true), .int .i64 0, .int .i64 0, .int .i64 0, .int .i64 0, .int .i64 0, .int .i64 0, .int .i64 0, .int .i64 0, .slice none 0 0] 35 :: ownS 50 2 (.slice none 0 0) 0 [] :: blk r11 #[.int .i64 4, .int .i64 0, .string (bstr []), .int .i64 0, .int .i64 0, .int .i64 0, .int .i64 0, .int .i64 0, .int .i64 0, .int .i64 0, .int .i64 0, .int .i64 0, .int .i64 0, .int .i64 0, .slice none 0 0] 35 :: blk r8 #[.int .i64 0, .int .i64 0, .string (bstr []), .int .i64 0, .int .i64 0, .int .i64 0, .int .i64 0, .int .i64 0, .int .i64 0, .int .i64 0, .int .i64 0, .int .i64 0, .int .i64 0, .int .i64 0, .slice none 0 0] 35 :: l) := ((Sat.ownNil (l := _ :: _) S4 50 2).re [1, 0])
        clear S4
        have hpl := pairsIn_len bs
        have HPL := Lib.hid hpl
        have HN := Lib.hid hn
        clear hpl hn htm hgt0
        go_loopw [3] (fun sv wr => ∃ (rest : List UInt8) (ps : List (Int × Int)) (u : Value), sv = .string (bstr rest) ∧ pairsIn bs = ps ++ pairsIn rest ∧ rest.length % 6 = 0 ∧ rest.length ≤ 1000 ∧ Sat G wr (blk r12 #[.int .i64 4, .int .i64 0, .string (bstr []), .int .i64 0, .int .i64 0, .int .i64 (b2i true), .int .i64 0, .int .i64 0, .int .i64 0, .int .i64 0, .int .i64 0, .int .i64 0, .int .i64 0, .int .i64 0, u] 35 :: ownS 50 2 u ps.length (encs prc ps) :: blk r11 #[.int .i64 4, .int .i64 0, .string (bstr []), .int .i64 0, .int .i64 0, .int .i64 0, .int .i64 0, .int .i64 0, .int .i64 0, .int .i64 0, .int .i64 0, .int .i64 0, .int .i64 0, .int .i64 0, .slice none 0 0] 35 :: blk r8 #[.int .i64 0, .int .i64 0, .string (bstr []), .int .i64 0, .int .i64 0, .int .i64 0, .int .i64 0, .int .i64 0, .int .i64 0, .int .i64 0, .int .i64 0, .int .i64 0, .int .i64 0, .int .i64 0, .slice none 0 0] 35 :: l)) (fun sv _ => (match sv with | .string b => b.size | _ => 0))
        case atStart => exact ⟨bs, [], _, rfl, rfl, h6, HN.out, S5⟩
        case round =>
          obtain ⟨rest, ps, u, rfl, hps, hr6, hrn, S4⟩ := hrel
          clear S5 hsz h6
          have hszr := bstr_size rest
          obtain ⟨M, hM⟩ : ∃ M, M = rest.length := ⟨_, rfl⟩
          rw [← hM] at hszr hr6 hrn
          have HPS := Lib.hid hps
          have HM := Lib.hid hM
          clear hps hM
          by_cases hlt : 0 < M
          · have h6r : 6 ≤ M := by omega
            have hgt : (0 : Int) < (M : Int) := by omega
            obtain ⟨n, hn⟩ : ∃ n, n = ps.length := ⟨_, rfl⟩
            have hps2 := HPS.out
            rw [pairsIn_step (bs := rest) (by have := HM.out; omega)] at hps2
            have HBK : Hid (n + 1 ≤ 1000000001) := Lib.hid (by
              have h1 := HPL.out
              have h2 := HN.out
              rw [hps2, List.length_append, List.length_cons] at h1
              omega)
            have h2l : (rest.take 2).length ≤ 4 := by rw [List.length_take]; omega
            have h4l : ((rest.drop 2).take 4).length ≤ 4 := by rw [List.length_take]; omega
            have HW1 := Lib.hid fun W => ref_word (rest.take 2) h2l W
            have HW2 := Lib.hid fun W => ref_word ((rest.drop 2).take 4) h4l W
            obtain ⟨z1, hz1⟩ : ∃ z1, z1 = (numOf (rest.take 2) : Int) := ⟨_, rfl⟩
            obtain ⟨z2, hz2⟩ : ∃ z2, z2 = (numOf ((rest.drop 2).take 4) : Int) := ⟨_, rfl⟩
            rw [← hz1] at HW1
            rw [← hz2] at HW2
            obtain ⟨xs, hxs⟩ : ∃ xs, xs = encs prc ps := ⟨_, rfl⟩
            have HS2 : Hid (pairsIn bs = (ps ++ [(z1, z2)]) ++ pairsIn (rest.drop 6)) := Lib.hid (by rw [hps2, hz1, hz2, List.drop_drop]; simp)
            have HE2 : Hid (encs prc (ps ++ [(z1, z2)]) = xs ++ [.int .i64 z1, .int .i64 z2]) := Lib.hid (by rw [encs_append, encs_one, hxs]; rfl)
            have HLN : Hid ((rest.drop 6).length = M - 6) := Lib.hid (by rw [List.length_drop, ← HM.out])
            have HNP : Hid (n + 1 = (ps ++ [(z1, z2)]).length) := Lib.hid (by simp [hn])
            have ht2 := bstr_take rest 2
            have hsl : (bstr rest).extract 2 6 = bstr ((rest.drop 2).take 4) := by unfold bstr; rw [Go.ByteArray.extract_mk]
            have hdr := bstr_drop rest 6 M HM.out.symm
            have hi2 : (2 : Int) ≤ (M : Int) := by omega
            have hi6 : (6 : Int) ≤ (M : Int) := by omega
            have S5 := S4
            rw [← hn, ← hxs] at S5
            clear S4 hps2 hz1 hz2 hxs hn h2l h4l
            go_upto_region 43 with fail
            refine wp_act fun a0 ha0 => ?_
            have HSZ : a0.tmps.size = 245 := by rw [ha0]; rfl
            have E12 : a0.eval (.tmp 12) = .pointer (some ⟨r12, 0, none⟩) := by rw [ha0]; rfl
            have E3 : a0.eval (.tmp 3) = .string (bstr rest) := by rw [ha0]; rfl
            refine wp_region_J (by kernel_rfl) 13 (by kernel_rfl) [[], [0], [], [2], [3], [], [5], [6, 4], [4, 7], [8], [1, 9, 7], [0, 1, 2, 3, 4, 5, 6, 7, 8, 9, 10], [11, 10, 10, 0, 1, 2, 3, 4, 5, 6, 7, 8, 9, 10]] (by kernel_rfl) (by kernel_rfl) (fun f a' W => ∃ g v', HQp f ∧ a' = acts [(0, 189, .pointer (some ⟨r12, 14, none⟩)), (1, 190, u), (2, 191, .string (bstr rest)), (3, 192, .string (bstr (rest.take 2))), (4, 193, .int .i64 z1), (5, 194, .string (bstr rest)), (6, 195, .string (bstr ((rest.drop 2).take 4))), (7, 196, .int .i64 z2), (8, 197, .agg #[.int .i64 z1, .int .i64 z2]), (9, 198, .slice (some ⟨g, 0, none⟩) 1 1), (10, 199, v'), (11, 200, .pointer (some ⟨r12, 14, none⟩))] f a0 ∧ Sat G W (opt (f 9) (blk g #[.int .i64 z1, .int .i64 z2] 50) :: blk r12 #[.int .i64 4, .int .i64 0, .string (bstr []), .int .i64 0, .int .i64 0, .int .i64 (b2i true), .int .i64 0, .int .i64 0, .int .i64 0, .int .i64 0, .int .i64 0, .int .i64 0, .int .i64 0, .int .i64 0, cond (f 12) v' u] 35 :: ownS 50 2 (cond (f 10) v' u) (cond (f 10) (n + 1) n) (cond (f 10) (xs ++ [.int .i64 z1, .int .i64 z2]) xs) :: blk r11 #[.int .i64 4, .int .i64 0, .string (bstr []), .int .i64 0, .int .i64 0, .int .i64 0, .int .i64 0, .int .i64 0, .int .i64 0, .int .i64 0, .int .i64 0, .int .i64 0, .int .i64 0, .int .i64 0, .slice none 0 0] 35 :: blk r8 #[.int .i64 0, .int .i64 0, .string (bstr []), .int .i64 0, .int .i64 0, .int .i64 0, .int .i64 0, .int .i64 0, .int .i64 0, .int .i64 0, .int .i64 0, .int .i64 0, .int .i64 0, .int .i64 0, .slice none 0 0] 35 :: l)) ?_ ?_ ?_
            · exact ⟨0, undef, (by unfold HQp; decide), rfl, S5.drew.opt0⟩
            · refine ⟨?_, ?_, ?_, ?_, ?_, ?_, ?_, ?_, ?_, ?_, ?_, ?_, ?_, trivial⟩
              · rintro f a' W h0 hd ⟨g, v', hh, rfl, S⟩
                refine wpOp_run (v := .pointer (some ⟨r12, 14, none⟩)) rfl rfl (fun ρ hρ => ?_) ⟨g, v', hh, (acts_some 0 rfl (by kernel_rfl) (by kernel_rfl)).symm, S⟩
                have e0 : ρ (.tmp 12) = .pointer (some ⟨r12, 0, none⟩) := by rw [hρ]; exact (acts_eval_tmp 12 (by kernel_rfl)).trans E12
                clear hρ
                go_simp
              · rintro f a' W h1 hd ⟨g, v', hh, rfl, S⟩
                (have z10 := no_of2 hh.2.2.1 h1; have z12 := no_of2 hh.2.2.2 z10)
                refine wpOp_run (v := u) rfl rfl (fun ρ hρ => ?_) ⟨g, v', ⟨hh.1, hh.2.1, fun _ => rfl, hh.2.2.2⟩, (acts_some 1 rfl (by kernel_rfl) (by kernel_rfl)).symm, S⟩
                have e0 : ρ (.tmp 189) = .pointer (some ⟨r12, 14, none⟩) := by rw [hρ]; exact acts_eval_hit 0 rfl hd.1 (by rw [HSZ]; rfl) (by kernel_rfl)
                clear hρ
                (have hcl : W.cell? ⟨r12, 14, none⟩ = some u := (by have := S.swap.cell 14; rw [z12] at this; exact this))
                go_simp
              · rintro f a' W h2 hd ⟨g, v', hh, rfl, S⟩
                refine wpOp_run (v := .string (bstr rest)) rfl rfl (fun ρ hρ => ?_) ⟨g, v', hh, (acts_some 2 rfl (by kernel_rfl) (by kernel_rfl)).symm, S⟩
                have e0 : ρ (.tmp 3) = .string (bstr rest) := by rw [hρ]; exact (acts_eval_tmp 3 (by kernel_rfl)).trans E3
                clear hρ
                go_simp
              · rintro f a' W h3 hd ⟨g, v', hh, rfl, S⟩
                refine wpOp_run (v := .string (bstr (rest.take 2))) rfl rfl (fun ρ hρ => ?_) ⟨g, v', hh, (acts_some 3 rfl (by kernel_rfl) (by kernel_rfl)).symm, S⟩
                have e0 : ρ (.tmp 191) = .string (bstr rest) := by rw [hρ]; exact acts_eval_hit 2 rfl hd.1 (by rw [HSZ]; rfl) (by kernel_rfl)
                have ec : ∀ v, ρ (.const v) = v := by rw [hρ]; exact fun _ => rfl
                clear hρ
                go_simp
              · rintro f a' W h4 hd ⟨g, v', hh, rfl, S⟩
                refine wpOp_call rfl rfl (fun ρ hρ => ?_) ((HW1.out W)) ?_
                · skip
                  have e0 : ρ (.tmp 192) = .string (bstr (rest.take 2)) := by rw [hρ]; exact acts_eval_hit 3 rfl hd.1 (by rw [HSZ]; rfl) (by kernel_rfl)
                  have ef : ρ (.func 23) = .func (.func 23) #[] #[] := by rw [hρ]; rfl
                  clear hρ
                  go_simp
                · (rintro e W' ⟨rfl, rfl⟩; exact ⟨_, rfl, g, v', hh, acts_swap rfl (k := 4) rfl (by kernel_rfl) (by kernel_rfl), S⟩)
              · rintro f a' W h5 hd ⟨g, v', hh, rfl, S⟩
                refine wpOp_run (v := .string (bstr rest)) rfl rfl (fun ρ hρ => ?_) ⟨g, v', hh, (acts_some 5 rfl (by kernel_rfl) (by kernel_rfl)).symm, S⟩
                have e0 : ρ (.tmp 3) = .string (bstr rest) := by rw [hρ]; exact (acts_eval_tmp 3 (by kernel_rfl)).trans E3
                clear hρ
                go_simp
              · rintro f a' W h6 hd ⟨g, v', hh, rfl, S⟩
                refine wpOp_run (v := .string (bstr ((rest.drop 2).take 4))) rfl rfl (fun ρ hρ => ?_) ⟨g, v', hh, (acts_some 6 rfl (by kernel_rfl) (by kernel_rfl)).symm, S⟩
                have e0 : ρ (.tmp 194) = .string (bstr rest) := by rw [hρ]; exact acts_eval_hit 5 rfl hd.1 (by rw [HSZ]; rfl) (by kernel_rfl)
                have ec : ∀ v, ρ (.const v) = v := by rw [hρ]; exact fun _ => rfl
                clear hρ
                go_simp
              · rintro f a' W h7 hd ⟨g, v', hh, rfl, S⟩
                refine wpOp_call rfl rfl (fun ρ hρ => ?_) ((HW2.out W)) ?_
                · skip
                  have e0 : ρ (.tmp 195) = .string (bstr ((rest.drop 2).take 4)) := by rw [hρ]; exact acts_eval_hit 6 rfl hd.1 (by rw [HSZ]; rfl) (by kernel_rfl)
                  have ef : ρ (.func 23) = .func (.func 23) #[] #[] := by rw [hρ]; rfl
                  clear hρ
                  go_simp
                · (rintro e W' ⟨rfl, rfl⟩; exact ⟨_, rfl, g, v', hh, acts_swap rfl (k := 7) rfl (by kernel_rfl) (by kernel_rfl), S⟩)
              · rintro f a' W h8 hd ⟨g, v', hh, rfl, S⟩
                refine wpOp_run (v := .agg #[.int .i64 z1, .int .i64 z2]) rfl rfl (fun ρ hρ => ?_) ⟨g, v', hh, (acts_some 8 rfl (by kernel_rfl) (by kernel_rfl)).symm, S⟩
                have e0 : ρ (.tmp 193) = .int .i64 z1 := by rw [hρ]; exact acts_eval_hit 4 rfl hd.1 (by rw [HSZ]; rfl) (by kernel_rfl)
                have e1 : ρ (.tmp 196) = .int .i64 z2 := by rw [hρ]; exact acts_eval_hit 7 rfl hd.2.1 (by rw [HSZ]; rfl) (by kernel_rfl)
                clear hρ
                go_simp
              · rintro f a' W h9 hd ⟨g, v', hh, rfl, S⟩
                (have z10 := no_of2 hh.2.1 h9)
                refine wpOp_mem (v := .slice (some ⟨W.heap.size, 0, none⟩) 1 1) (w' := W.alloc (.cells #[.int .i64 z1, .int .i64 z2] 50)) rfl rfl (fun ρ hρ => ?_) (⟨W.heap.size, v', ⟨fun _ => trivial, fun _ => rfl, hh.2.2⟩, acts_swap (by simp only [acts, h9, Bool.false_eq_true, if_false]) (k := 9) rfl (by kernel_rfl) (by kernel_rfl), Sat.optI rfl (S.newBlk _ _).drop2⟩)
                have e0 : ρ (.tmp 197) = .agg #[.int .i64 z1, .int .i64 z2] := by rw [hρ]; exact acts_eval_hit 8 rfl hd.1 (by rw [HSZ]; rfl) (by kernel_rfl)
                clear hρ
                go_simp
              · rintro f a' W h10 hd ⟨g, v', hh, rfl, S⟩
                have q190 : (acts [(0, 189, .pointer (some ⟨r12, 14, none⟩)), (1, 190, u), (2, 191, .string (bstr rest)), (3, 192, .string (bstr (rest.take 2))), (4, 193, .int .i64 z1), (5, 194, .string (bstr rest)), (6, 195, .string (bstr ((rest.drop 2).take 4))), (7, 196, .int .i64 z2), (8, 197, .agg #[.int .i64 z1, .int .i64 z2]), (9, 198, .slice (some ⟨g, 0, none⟩) 1 1), (10, 199, v'), (11, 200, .pointer (some ⟨r12, 14, none⟩))] f a0).eval (.tmp 190) = u := acts_eval_hit 1 rfl hd.1 (by rw [HSZ]; rfl) (by kernel_rfl)
                have q198 : (acts [(0, 189, .pointer (some ⟨r12, 14, none⟩)), (1, 190, u), (2, 191, .string (bstr rest)), (3, 192, .string (bstr (rest.take 2))), (4, 193, .int .i64 z1), (5, 194, .string (bstr rest)), (6, 195, .string (bstr ((rest.drop 2).take 4))), (7, 196, .int .i64 z2), (8, 197, .agg #[.int .i64 z1, .int .i64 z2]), (9, 198, .slice (some ⟨g, 0, none⟩) 1 1), (10, 199, v'), (11, 200, .pointer (some ⟨r12, 14, none⟩))] f a0).eval (.tmp 198) = .slice (some ⟨g, 0, none⟩) 1 1 := acts_eval_hit 9 rfl hd.2.1 (by rw [HSZ]; rfl) (by kernel_rfl)
                (have z12 := no_of2 hh.2.2.2 h10; simp only [hd.2.1, h10, z12, cond_false] at S; have S2 := S.pull2; have hbk := HBK.out; refine wpOp_list rfl ?_; refine st_append rfl _ _ 26 rfl 50 (.agg #[.int .i64 0, .int .i64 0]) 2 16 Try.underlying26 info_pr rfl (by omega) u n xs q190 S2 ⟨g, 0, none⟩ 1 1 [.int .i64 z1, .int .i64 z2] q198 rfl (fun j y hj => blk_cells (opt_iff.1 S) j y hj) rfl (Nat.le_trans hbk (by decide)) (by omega) ?_; intro v2 w2 S3; refine ⟨g, v2, ⟨fun _ => trivial, fun _ => hd.2.1, fun _ => hd.1, fun _ => rfl⟩, acts_swap (by simp only [acts, h10, Bool.false_eq_true, if_false]) (k := 10) rfl (by kernel_rfl) (by kernel_rfl), ?_⟩; show Sat G w2 (opt (f 9) _ :: blk r12 #[_, _, _, _, _, _, _, _, _, _, _, _, _, _, cond (f 12) _ _] _ :: _); rw [hd.2.1, z12]; exact S3.push2)
              · rintro f a' W h11 hd ⟨g, v', hh, rfl, S⟩
                refine wpOp_run (v := .pointer (some ⟨r12, 14, none⟩)) rfl rfl (fun ρ hρ => ?_) ⟨g, v', hh, (acts_some 11 rfl (by kernel_rfl) (by kernel_rfl)).symm, S⟩
                have e0 : ρ (.tmp 12) = .pointer (some ⟨r12, 0, none⟩) := by rw [hρ]; exact (acts_eval_tmp 12 (by kernel_rfl)).trans E12
                clear hρ
                go_simp
              · rintro f a' W h12 hd ⟨g, v', hh, rfl, S⟩
                have q200 : (acts [(0, 189, .pointer (some ⟨r12, 14, none⟩)), (1, 190, u), (2, 191, .string (bstr rest)), (3, 192, .string (bstr (rest.take 2))), (4, 193, .int .i64 z1), (5, 194, .string (bstr rest)), (6, 195, .string (bstr ((rest.drop 2).take 4))), (7, 196, .int .i64 z2), (8, 197, .agg #[.int .i64 z1, .int .i64 z2]), (9, 198, .slice (some ⟨g, 0, none⟩) 1 1), (10, 199, v'), (11, 200, .pointer (some ⟨r12, 14, none⟩))] f a0).eval (.tmp 200) = .pointer (some ⟨r12, 14, none⟩) := acts_eval_hit 11 rfl hd.1 (by rw [HSZ]; rfl) (by kernel_rfl)
                have q199 : (acts [(0, 189, .pointer (some ⟨r12, 14, none⟩)), (1, 190, u), (2, 191, .string (bstr rest)), (3, 192, .string (bstr (rest.take 2))), (4, 193, .int .i64 z1), (5, 194, .string (bstr rest)), (6, 195, .string (bstr ((rest.drop 2).take 4))), (7, 196, .int .i64 z2), (8, 197, .agg #[.int .i64 z1, .int .i64 z2]), (9, 198, .slice (some ⟨g, 0, none⟩) 1 1), (10, 199, v'), (11, 200, .pointer (some ⟨r12, 14, none⟩))] f a0).eval (.tmp 199) = v' := acts_eval_hit 10 rfl hd.2.1 (by rw [HSZ]; rfl) (by kernel_rfl)
                (have z10 : f 10 = true := hd.2.1; simp only [z10, h12, cond_true, cond_false] at S; obtain ⟨A', c', rfl, -⟩ := (S.pull2).ownSlice; refine wpOp_list rfl ?_; refine st_set rfl _ _ _ rfl _ _ _ q200 q199 rfl _ _ S.swap (by kernel_rfl) (by simp) fun W' S' => ?_; refine ⟨g, _, ⟨hh.1, hh.2.1, hh.2.2.1, fun _ => z10⟩, (acts_none 12 (by kernel_rfl)).symm, ?_⟩; show Sat G W' (opt (f 9) _ :: _ :: ownS _ _ (cond (f 10) _ _) (cond (f 10) _ _) (cond (f 10) _ _) :: _); rw [z10]; exact S'.swap)
            · rintro a' W ⟨g, v', -, rfl, S6⟩
              subst ha0
              simp only [acts, if_true, Act.put, List.setIfInBounds_toArray, List.set_cons_succ, List.set_cons_zero]
              have S7 : Sat G W (blk r12 #[.int .i64 4, .int .i64 0, .string (bstr []), .int .i64 0, .int .i64 0, .int .i64 (b2i true), .int .i64 0, .int .i64 0, .int .i64 0, .int .i64 0, .int .i64 0, .int .i64 0, .int .i64 0, .int .i64 0, v'] 35 :: ownS 50 2 v' (n + 1) (xs ++ [.int .i64 z1, .int .i64 z2]) :: blk r11 #[.int .i64 4, .int .i64 0, .string (bstr []), .int .i64 0, .int .i64 0, .int .i64 0, .int .i64 0, .int .i64 0, .int .i64 0, .int .i64 0, .int .i64 0, .int .i64 0, .int .i64 0, .int .i64 0, .slice none 0 0] 35 :: blk r8 #[.int .i64 0, .int .i64 0, .string (bstr []), .int .i64 0, .int .i64 0, .int .i64 0, .int .i64 0, .int .i64 0, .int .i64 0, .int .i64 0, .int .i64 0, .int .i64 0, .int .i64 0, .int .i64 0, .slice none 0 0] 35 :: l) := S6.drop
              rw [← HE2.out, HNP.out] at S7
              have HS := Lib.hid S7
              clear S5 S6 S7 HSZ E12 E3
              go_wp2_with fail
              go_roundw
              case rel => exact ⟨rest.drop 6, ps ++ [(z1, z2)], v', rfl, HS2.out, by rw [HLN.out]; omega, by rw [HLN.out]; omega, HS.out⟩
              case measure => show (bstr (rest.drop 6)).size < (bstr rest).size; rw [bstr_size, bstr_size, HLN.out, ← HM.out]; omega
          · have hgt : ¬ (0 : Int) < (M : Int) := by omega
            have hnil : rest = [] := List.length_eq_zero_iff.1 (by rw [← HM.out]; omega)
            have hp : ps = pairsIn bs := by
              have h1 := HPS.out
              rw [hnil] at h1
              rw [h1]
              simp [pairsIn]
            have S5 := S4.swap
            rw [hp] at S5
            obtain ⟨G2, hG2, S6, hu⟩ := rpr_of S5
            obtain ⟨A, c, rfl, -⟩ := id hu
            have hup : RPr G2.ro (.slice A (pairsIn bs).length c) (pairsIn bs) := hu
            have c12 : wr.cell? ⟨r12, 12, none⟩ = some (.int .i64 0) := S6.cell 12
            obtain ⟨PN, hPN⟩ : ∃ PN, PN = (pairsIn bs).length := ⟨_, rfl⟩
            rw [← hPN] at S6 hup
            clear S4 S5 hu hp hnil hPN
            go_upto_region 61 with fail
            have S2 := S6
            clear S6
            refine wp_region_lit ?_; refine st_load rfl _ _ rfl r12 rfl _ _ S2 _ Try.underlying35 rfl (by kernel_rfl) ?_; refine st_store rfl _ _ _ rfl r8 _ rfl rfl _ _ (S2.re [2, 0, 1]) (by kernel_rfl) rfl (by simp [Value.oneCell']) fun w5 S7 => ?_; have HS := Lib.hid S7; clear S2 S7; go_wp2_with fail; exact bodyPost_ret (results_cell_tt rfl _ _ _ _ _ _ rfl (HS.out).blk_at Try.underlying35 rfl (by kernel_rfl)) rfl (hK.out _ _ ⟨_, G2, hG2, rfl, hup, HS.out.drop.drop.drop⟩)
    | false =>
      have hfz : (hasF fl 1 && decide (0 < bs.length)) = false := by rw [hf]; rfl
      have hgt0 : True := trivial
      rw [show parseS 4 fl 0 bs = (⟨(0, false), ⟨4, 0, false, false, hasF fl 1, 0, 0, 0, 0, 0, 0, false, false⟩, [], pairsIn bs⟩ : RdRes) from by simp [parseS, placeBad, lenF, readS, bareR, bareS, ownF, h6, hfz]] at hK
      rw [hf] at hfg hK
      go_enter Try.func10, Try.ntmps10
      go_upto_region 11 with fail
      generalize w.heap.size + 1 + 1 = r12 at *; generalize w.heap.size + 1 = r11 at *; generalize w.heap.size = r8 at *
      refine wp_world S1 fun w2 S2 => ?_
      clear S1
      have c12 : w2.cell? ⟨r12, 12, none⟩ = some (.int .i64 0) := S2.cell 12
      go_wp2_with fail
      (with_reducible refine (hfg _).mono ?_); rintro e w1 ⟨rfl, rfl⟩
      go_wp2_with fail
      (with_reducible refine (hfg _).mono ?_); rintro e w1 ⟨rfl, rfl⟩
      have f5 := S2.frozen 5
      have d5 := S2.cell 5
      have S3 := S2.setCell 5 (.int .i64 (b2i false))
      go_upto_region 42 with fail
      refine wp_world S3 fun w3 S4 => ?_
      clear S2 S3 f5 d5 c12 hfg
      have S5 : Sat G w3 (blk r12 #[.int .i64 4, .int .i64 0, .string (bstr []), .int .i64 0, .int .i64 0, .int .i64 (b2i false), .int .i64 0, .int .i64 0, .int .i64 0, .int .i64 0, .int .i64 0, .int .i64 0, .int .i64 0, .int .i64 0, .slice none 0 0] 35 :: ownS 50 2 (.slice none 0 0) 0 [] :: blk r11 #[.int .i64 4, .int .i64 0, .string (bstr []), .int .i64 0, .int .i64 0, .int .i64 0, .int .i64 0, .int .i64 0, .int .i64 0, .int .i64 0, .int .i64 0, .int .i64 0, .int .i64 0, .int .i64 0, .slice none 0 0] 35 :: blk r8 #[.int .i64 0, .int .i64 0, .string (bstr []), .int .i64 0, .int .i64 0, .int .i64 0, .int .i64 0, .int .i64 0, .int .i64 0, .int .i64 0, .int .i64 0, .int .i64 0, .int .i64 0, .int .i64 0, .slice none 0 0] 35 :: l) := ((Sat.ownNil (l := _ :: _) S4 50 2).re [1, 0])
      clear S4
      have hpl := pairsIn_len bs
      have HPL := Lib.hid hpl
      have HN := Lib.hid hn
      clear hpl hn htm hgt0
      go_loopw [3] (fun sv wr => ∃ (rest : List UInt8) (ps : List (Int × Int)) (u : Value), sv = .string (bstr rest) ∧ pairsIn bs = ps ++ pairsIn rest ∧ rest.length % 6 = 0 ∧ rest.length ≤ 1000 ∧ Sat G wr (blk r12 #[.int .i64 4, .int .i64 0, .string (bstr []), .int .i64 0, .int .i64 0, .int .i64 (b2i false), .int .i64 0, .int .i64 0, .int .i64 0, .int .i64 0, .int .i64 0, .int .i64 0, .int .i64 0, .int .i64 0, u] 35 :: ownS 50 2 u ps.length (encs prc ps) :: blk r11 #[.int .i64 4, .int .i64 0, .string (bstr []), .int .i64 0, .int .i64 0, .int .i64 0, .int .i64 0, .int .i64 0, .int .i64 0, .int .i64 0, .int .i64 0, .int .i64 0, .int .i64 0, .int .i64 0, .slice none 0 0] 35 :: blk r8 #[.int .i64 0, .int .i64 0, .string (bstr []), .int .i64 0, .int .i64 0, .int .i64 0, .int .i64 0, .int .i64 0, .int .i64 0, .int .i64 0, .int .i64 0, .int .i64 0, .int .i64 0, .int .i64 0, .slice none 0 0] 35 :: l)) (fun sv _ => (match sv with | .string b => b.size | _ => 0))
      case atStart => exact ⟨bs, [], _, rfl, rfl, h6, HN.out, S5⟩
      case round =>
        obtain ⟨rest, ps, u, rfl, hps, hr6, hrn, S4⟩ := hrel
        clear S5 hsz h6
        have hszr := bstr_size rest
        obtain ⟨M, hM⟩ : ∃ M, M = rest.length := ⟨_, rfl⟩
        rw [← hM] at hszr hr6 hrn
        have HPS := Lib.hid hps
        have HM := Lib.hid hM
        clear hps hM
        by_cases hlt : 0 < M
        · have h6r : 6 ≤ M := by omega
          have hgt : (0 : Int) < (M : Int) := by omega
          obtain ⟨n, hn⟩ : ∃ n, n = ps.length := ⟨_, rfl⟩
          have hps2 := HPS.out
          rw [pairsIn_step (bs := rest) (by have := HM.out; omega)] at hps2
          have HBK : Hid (n + 1 ≤ 1000000001) := Lib.hid (by
            have h1 := HPL.out
            have h2 := HN.out
            rw [hps2, List.length_append, List.length_cons] at h1
            omega)
          have h2l : (rest.take 2).length ≤ 4 := by rw [List.length_take]; omega
          have h4l : ((rest.drop 2).take 4).length ≤ 4 := by rw [List.length_take]; omega
          have HW1 := Lib.hid fun W => ref_word (rest.take 2) h2l W
          have HW2 := Lib.hid fun W => ref_word ((rest.drop 2).take 4) h4l W
          obtain ⟨z1, hz1⟩ : ∃ z1, z1 = (numOf (rest.take 2) : Int) := ⟨_, rfl⟩
          obtain ⟨z2, hz2⟩ : ∃ z2, z2 = (numOf ((rest.drop 2).take 4) : Int) := ⟨_, rfl⟩
          rw [← hz1] at HW1
          rw [← hz2] at HW2
          obtain ⟨xs, hxs⟩ : ∃ xs, xs = encs prc ps := ⟨_, rfl⟩
          have HS2 : Hid (pairsIn bs = (ps ++ [(z1, z2)]) ++ pairsIn (rest.drop 6)) := Lib.hid (by rw [hps2, hz1, hz2, List.drop_drop]; simp)
          have HE2 : Hid (encs prc (ps ++ [(z1, z2)]) = xs ++ [.int .i64 z1, .int .i64 z2]) := Lib.hid (by rw [encs_append, encs_one, hxs]; rfl)
          have HLN : Hid ((rest.drop 6).length = M - 6) := Lib.hid (by rw [List.length_drop, ← HM.out])
          have HNP : Hid (n + 1 = (ps ++ [(z1, z2)]).length) := Lib.hid (by simp [hn])
          have ht2 := bstr_take rest 2
          have hsl : (bstr rest).extract 2 6 = bstr ((rest.drop 2).take 4) := by unfold bstr; rw [Go.ByteArray.extract_mk]
          have hdr := bstr_drop rest 6 M HM.out.symm
          have hi2 : (2 : Int) ≤ (M : Int) := by omega
          have hi6 : (6 : Int) ≤ (M : Int) := by omega
          have S5 := S4
          rw [← hn, ← hxs] at S5
          clear S4 hps2 hz1 hz2 hxs hn h2l h4l
          go_upto_region 43 with fail
          refine wp_act fun a0 ha0 => ?_
          have HSZ : a0.tmps.size = 245 := by rw [ha0]; rfl
          have E12 : a0.eval (.tmp 12) = .pointer (some ⟨r12, 0, none⟩) := by rw [ha0]; rfl
          have E3 : a0.eval (.tmp 3) = .string (bstr rest) := by rw [ha0]; rfl
          refine wp_region_J (by kernel_rfl) 13 (by kernel_rfl) [[], [0], [], [2], [3], [], [5], [6, 4], [4, 7], [8], [1, 9, 7], [0, 1, 2, 3, 4, 5, 6, 7, 8, 9, 10], [11, 10, 10, 0, 1, 2, 3, 4, 5, 6, 7, 8, 9, 10]] (by kernel_rfl) (by kernel_rfl) (fun f a' W => ∃ g v', HQp f ∧ a' = acts [(0, 189, .pointer (some ⟨r12, 14, none⟩)), (1, 190, u), (2, 191, .string (bstr rest)), (3, 192, .string (bstr (rest.take 2))), (4, 193, .int .i64 z1), (5, 194, .string (bstr rest)), (6, 195, .string (bstr ((rest.drop 2).take 4))), (7, 196, .int .i64 z2), (8, 197, .agg #[.int .i64 z1, .int .i64 z2]), (9, 198, .slice (some ⟨g, 0, none⟩) 1 1), (10, 199, v'), (11, 200, .pointer (some ⟨r12, 14, none⟩))] f a0 ∧ Sat G W (opt (f 9) (blk g #[.int .i64 z1, .int .i64 z2] 50) :: blk r12 #[.int .i64 4, .int .i64 0, .string (bstr []), .int .i64 0, .int .i64 0, .int .i64 (b2i false), .int .i64 0, .int .i64 0, .int .i64 0, .int .i64 0, .int .i64 0, .int .i64 0, .int .i64 0, .int .i64 0, cond (f 12) v' u] 35 :: ownS 50 2 (cond (f 10) v' u) (cond (f 10) (n + 1) n) (cond (f 10) (xs ++ [.int .i64 z1, .int .i64 z2]) xs) :: blk r11 #[.int .i64 4, .int .i64 0, .string (bstr []), .int .i64 0, .int .i64 0, .int .i64 0, .int .i64 0, .int .i64 0, .int .i64 0, .int .i64 0, .int .i64 0, .int .i64 0, .int .i64 0, .int .i64 0, .slice none 0 0] 35 :: blk r8 #[.int .i64 0, .int .i64 0, .string (bstr []), .int .i64 0, .int .i64 0, .int .i64 0, .int .i64 0, .int .i64 0, .int .i64 0, .int .i64 0, .int .i64 0, .int .i64 0, .int .i64 0, .int .i64 0, .slice none 0 0] 35 :: l)) ?_ ?_ ?_
          · exact ⟨0, undef, (by unfold HQp; decide), rfl, S5.drew.opt0⟩
          · refine ⟨?_, ?_, ?_, ?_, ?_, ?_, ?_, ?_, ?_, ?_, ?_, ?_, ?_, trivial⟩
            · rintro f a' W h0 hd ⟨g, v', hh, rfl, S⟩
              refine wpOp_run (v := .pointer (some ⟨r12, 14, none⟩)) rfl rfl (fun ρ hρ => ?_) ⟨g, v', hh, (acts_some 0 rfl (by kernel_rfl) (by kernel_rfl)).symm, S⟩
              have e0 : ρ (.tmp 12) = .pointer (some ⟨r12, 0, none⟩) := by rw [hρ]; exact (acts_eval_tmp 12 (by kernel_rfl)).trans E12
              clear hρ
              go_simp
            · rintro f a' W h1 hd ⟨g, v', hh, rfl, S⟩
              (have z10 := no_of2 hh.2.2.1 h1; have z12 := no_of2 hh.2.2.2 z10)
              refine wpOp_run (v := u) rfl rfl (fun ρ hρ => ?_) ⟨g, v', ⟨hh.1, hh.2.1, fun _ => rfl, hh.2.2.2⟩, (acts_some 1 rfl (by kernel_rfl) (by kernel_rfl)).symm, S⟩
              have e0 : ρ (.tmp 189) = .pointer (some ⟨r12, 14, none⟩) := by rw [hρ]; exact acts_eval_hit 0 rfl hd.1 (by rw [HSZ]; rfl) (by kernel_rfl)
              clear hρ
              (have hcl : W.cell? ⟨r12, 14, none⟩ = some u := (by have := S.swap.cell 14; rw [z12] at this; exact this))
              go_simp
            · rintro f a' W h2 hd ⟨g, v', hh, rfl, S⟩
              refine wpOp_run (v := .string (bstr rest)) rfl rfl (fun ρ hρ => ?_) ⟨g, v', hh, (acts_some 2 rfl (by kernel_rfl) (by kernel_rfl)).symm, S⟩
              have e0 : ρ (.tmp 3) = .string (bstr rest) := by rw [hρ]; exact (acts_eval_tmp 3 (by kernel_rfl)).trans E3
              clear hρ
              go_simp
            · rintro f a' W h3 hd ⟨g, v', hh, rfl, S⟩
              refine wpOp_run (v := .string (bstr (rest.take 2))) rfl rfl (fun ρ hρ => ?_) ⟨g, v', hh, (acts_some 3 rfl (by kernel_rfl) (by kernel_rfl)).symm, S⟩
              have e0 : ρ (.tmp 191) = .string (bstr rest) := by rw [hρ]; exact acts_eval_hit 2 rfl hd.1 (by rw [HSZ]; rfl) (by kernel_rfl)
              have ec : ∀ v, ρ (.const v) = v := by rw [hρ]; exact fun _ => rfl
              clear hρ
              go_simp
            · rintro f a' W h4 hd ⟨g, v', hh, rfl, S⟩
              refine wpOp_call rfl rfl (fun ρ hρ => ?_) ((HW1.out W)) ?_
              · skip
                have e0 : ρ (.tmp 192) = .string (bstr (rest.take 2)) := by rw [hρ]; exact acts_eval_hit 3 rfl hd.1 (by rw [HSZ]; rfl) (by kernel_rfl)
                have ef : ρ (.func 23) = .func (.func 23) #[] #[] := by rw [hρ]; rfl
                clear hρ
                go_simp
              · (rintro e W' ⟨rfl, rfl⟩; exact ⟨_, rfl, g, v', hh, acts_swap rfl (k := 4) rfl (by kernel_rfl) (by kernel_rfl), S⟩)
            · rintro f a' W h5 hd ⟨g, v', hh, rfl, S⟩
              refine wpOp_run (v := .string (bstr rest)) rfl rfl (fun ρ hρ => ?_) ⟨g, v', hh, (acts_some 5 rfl (by kernel_rfl) (by kernel_rfl)).symm, S⟩
              have e0 : ρ (.tmp 3) = .string (bstr rest) := by rw [hρ]; exact (acts_eval_tmp 3 (by kernel_rfl)).trans E3
              clear hρ
              go_simp
            · rintro f a' W h6 hd ⟨g, v', hh, rfl, S⟩
              refine wpOp_run (v := .string (bstr ((rest.drop 2).take 4))) rfl rfl (fun ρ hρ => ?_) ⟨g, v', hh, (acts_some 6 rfl (by kernel_rfl) (by kernel_rfl)).symm, S⟩
              have e0 : ρ (.tmp 194) = .string (bstr rest) := by rw [hρ]; exact acts_eval_hit 5 rfl hd.1 (by rw [HSZ]; rfl) (by kernel_rfl)
              have ec : ∀ v, ρ (.const v) = v := by rw [hρ]; exact fun _ => rfl
              clear hρ
              go_simp
            · rintro f a' W h7 hd ⟨g, v', hh, rfl, S⟩
              refine wpOp_call rfl rfl (fun ρ hρ => ?_) ((HW2.out W)) ?_
              · skip
                have e0 : ρ (.tmp 195) = .string (bstr ((rest.drop 2).take 4)) := by rw [hρ]; exact acts_eval_hit 6 rfl hd.1 (by rw [HSZ]; rfl) (by kernel_rfl)
                have ef : ρ (.func 23) = .func (.func 23) #[] #[] := by rw [hρ]; rfl
                clear hρ
                go_simp
              · (rintro e W' ⟨rfl, rfl⟩; exact ⟨_, rfl, g, v', hh, acts_swap rfl (k := 7) rfl (by kernel_rfl) (by kernel_rfl), S⟩)
            · rintro f a' W h8 hd ⟨g, v', hh, rfl, S⟩
              refine wpOp_run (v := .agg #[.int .i64 z1, .int .i64 z2]) rfl rfl (fun ρ hρ => ?_) ⟨g, v', hh, (acts_some 8 rfl (by kernel_rfl) (by kernel_rfl)).symm, S⟩
              have e0 : ρ (.tmp 193) = .int .i64 z1 := by rw [hρ]; exact acts_eval_hit 4 rfl hd.1 (by rw [HSZ]; rfl) (by kernel_rfl)
              have e1 : ρ (.tmp 196) = .int .i64 z2 := by rw [hρ]; exact acts_eval_hit 7 rfl hd.2.1 (by rw [HSZ]; rfl) (by kernel_rfl)
              clear hρ
              go_simp
            · rintro f a' W h9 hd ⟨g, v', hh, rfl, S⟩
              (have z10 := no_of2 hh.2.1 h9)
              refine wpOp_mem (v := .slice (some ⟨W.heap.size, 0, none⟩) 1 1) (w' := W.alloc (.cells #[.int .i64 z1, .int .i64 z2] 50)) rfl rfl (fun ρ hρ => ?_) (⟨W.heap.size, v', ⟨fun _ => trivial, fun _ => rfl, hh.2.2⟩, acts_swap (by simp only [acts, h9, Bool.false_eq_true, if_false]) (k := 9) rfl (by kernel_rfl) (by kernel_rfl), Sat.optI rfl (S.newBlk _ _).drop2⟩)
              have e0 : ρ (.tmp 197) = .agg #[.int .i64 z1, .int .i64 z2] := by rw [hρ]; exact acts_eval_hit 8 rfl hd.1 (by rw [HSZ]; rfl) (by kernel_rfl)
              clear hρ
              go_simp
            · rintro f a' W h10 hd ⟨g, v', hh, rfl, S⟩
              have q190 : (acts [(0, 189, .pointer (some ⟨r12, 14, none⟩)), (1, 190, u), (2, 191, .string (bstr rest)), (3, 192, .string (bstr (rest.take 2))), (4, 193, .int .i64 z1), (5, 194, .string (bstr rest)), (6, 195, .string (bstr ((rest.drop 2).take 4))), (7, 196, .int .i64 z2), (8, 197, .agg #[.int .i64 z1, .int .i64 z2]), (9, 198, .slice (some ⟨g, 0, none⟩) 1 1), (10, 199, v'), (11, 200, .pointer (some ⟨r12, 14, none⟩))] f a0).eval (.tmp 190) = u := acts_eval_hit 1 rfl hd.1 (by rw [HSZ]; rfl) (by kernel_rfl)
              have q198 : (acts [(0, 189, .pointer (some ⟨r12, 14, none⟩)), (1, 190, u), (2, 191, .string (bstr rest)), (3, 192, .string (bstr (rest.take 2))), (4, 193, .int .i64 z1), (5, 194, .string (bstr rest)), (6, 195, .string (bstr ((rest.drop 2).take 4))), (7, 196, .int .i64 z2), (8, 197, .agg #[.int .i64 z1, .int .i64 z2]), (9, 198, .slice (some ⟨g, 0, none⟩) 1 1), (10, 199, v'), (11, 200, .pointer (some ⟨r12, 14, none⟩))] f a0).eval (.tmp 198) = .slice (some ⟨g, 0, none⟩) 1 1 := acts_eval_hit 9 rfl hd.2.1 (by rw [HSZ]; rfl) (by kernel_rfl)
              (have z12 := no_of2 hh.2.2.2 h10; simp only [hd.2.1, h10, z12, cond_false] at S; have S2 := S.pull2; have hbk := HBK.out; refine wpOp_list rfl ?_; refine st_append rfl _ _ 26 rfl 50 (.agg #[.int .i64 0, .int .i64 0]) 2 16 Try.underlying26 info_pr rfl (by omega) u n xs q190 S2 ⟨g, 0, none⟩ 1 1 [.int .i64 z1, .int .i64 z2] q198 rfl (fun j y hj => blk_cells (opt_iff.1 S) j y hj) rfl (Nat.le_trans hbk (by decide)) (by omega) ?_; intro v2 w2 S3; refine ⟨g, v2, ⟨fun _ => trivial, fun _ => hd.2.1, fun _ => hd.1, fun _ => rfl⟩, acts_swap (by simp only [acts, h10, Bool.false_eq_true, if_false]) (k := 10) rfl (by kernel_rfl) (by kernel_rfl), ?_⟩; show Sat G w2 (opt (f 9) _ :: blk r12 #[_, _, _, _, _, _, _, _, _, _, _, _, _, _, cond (f 12) _ _] _ :: _); rw [hd.2.1, z12]; exact S3.push2)
            · rintro f a' W h11 hd ⟨g, v', hh, rfl, S⟩
              refine wpOp_run (v := .pointer (some ⟨r12, 14, none⟩)) rfl rfl (fun ρ hρ => ?_) ⟨g, v', hh, (acts_some 11 rfl (by kernel_rfl) (by kernel_rfl)).symm, S⟩
              have e0 : ρ (.tmp 12) = .pointer (some ⟨r12, 0, none⟩) := by rw [hρ]; exact (acts_eval_tmp 12 (by kernel_rfl)).trans E12
              clear hρ
              go_simp
            · rintro f a' W h12 hd ⟨g, v', hh, rfl, S⟩
              have q200 : (acts [(0, 189, .pointer (some ⟨r12, 14, none⟩)), (1, 190, u), (2, 191, .string (bstr rest)), (3, 192, .string (bstr (rest.take 2))), (4, 193, .int .i64 z1), (5, 194, .string (bstr rest)), (6, 195, .string (bstr ((rest.drop 2).take 4))), (7, 196, .int .i64 z2), (8, 197, .agg #[.int .i64 z1, .int .i64 z2]), (9, 198, .slice (some ⟨g, 0, none⟩) 1 1), (10, 199, v'), (11, 200, .pointer (some ⟨r12, 14, none⟩))] f a0).eval (.tmp 200) = .pointer (some ⟨r12, 14, none⟩) := acts_eval_hit 11 rfl hd.1 (by rw [HSZ]; rfl) (by kernel_rfl)
              have q199 : (acts [(0, 189, .pointer (some ⟨r12, 14, none⟩)), (1, 190, u), (2, 191, .string (bstr rest)), (3, 192, .string (bstr (rest.take 2))), (4, 193, .int .i64 z1), (5, 194, .string (bstr rest)), (6, 195, .string (bstr ((rest.drop 2).take 4))), (7, 196, .int .i64 z2), (8, 197, .agg #[.int .i64 z1, .int .i64 z2]), (9, 198, .slice (some ⟨g, 0, none⟩) 1 1), (10, 199, v'), (11, 200, .pointer (some ⟨r12, 14, none⟩))] f a0).eval (.tmp 199) = v' := acts_eval_hit 10 rfl hd.2.1 (by rw [HSZ]; rfl) (by kernel_rfl)
              (have z10 : f 10 = true := hd.2.1; simp only [z10, h12, cond_true, cond_false] at S; obtain ⟨A', c', rfl, -⟩ := (S.pull2).ownSlice; refine wpOp_list rfl ?_; refine st_set rfl _ _ _ rfl _ _ _ q200 q199 rfl _ _ S.swap (by kernel_rfl) (by simp) fun W' S' => ?_; refine ⟨g, _, ⟨hh.1, hh.2.1, hh.2.2.1, fun _ => z10⟩, (acts_none 12 (by kernel_rfl)).symm, ?_⟩; show Sat G W' (opt (f 9) _ :: _ :: ownS _ _ (cond (f 10) _ _) (cond (f 10) _ _) (cond (f 10) _ _) :: _); rw [z10]; exact S'.swap)
          · rintro a' W ⟨g, v', -, rfl, S6⟩
            subst ha0
            simp only [acts, if_true, Act.put, List.setIfInBounds_toArray, List.set_cons_succ, List.set_cons_zero]
            have S7 : Sat G W (blk r12 #[.int .i64 4, .int .i64 0, .string (bstr []), .int .i64 0, .int .i64 0, .int .i64 (b2i false), .int .i64 0, .int .i64 0, .int .i64 0, .int .i64 0, .int .i64 0, .int .i64 0, .int .i64 0, .int .i64 0, v'] 35 :: ownS 50 2 v' (n + 1) (xs ++ [.int .i64 z1, .int .i64 z2]) :: blk r11 #[.int .i64 4, .int .i64 0, .string (bstr []), .int .i64 0, .int .i64 0, .int .i64 0, .int .i64 0, .int .i64 0, .int .i64 0, .int .i64 0, .int .i64 0, .int .i64 0, .int .i64 0, .int .i64 0, .slice none 0 0] 35 :: blk r8 #[.int .i64 0, .int .i64 0, .string (bstr []), .int .i64 0, .int .i64 0, .int .i64 0, .int .i64 0, .int .i64 0, .int .i64 0, .int .i64 0, .int .i64 0, .int .i64 0, .int .i64 0, .int .i64 0, .slice none 0 0] 35 :: l) := S6.drop
            rw [← HE2.out, HNP.out] at S7
            have HS := Lib.hid S7
            clear S5 S6 S7 HSZ E12 E3
            go_wp2_with fail
            go_roundw
            case rel => exact ⟨rest.drop 6, ps ++ [(z1, z2)], v', rfl, HS2.out, by rw [HLN.out]; omega, by rw [HLN.out]; omega, HS.out⟩
            case measure => show (bstr (rest.drop 6)).size < (bstr rest).size; rw [bstr_size, bstr_size, HLN.out, ← HM.out]; omega
        · have hgt : ¬ (0 : Int) < (M : Int) := by omega
          have hnil : rest = [] := List.length_eq_zero_iff.1 (by rw [← HM.out]; omega)
          have hp : ps = pairsIn bs := by
            have h1 := HPS.out
            rw [hnil] at h1
            rw [h1]
            simp [pairsIn]
          have S5 := S4.swap
          rw [hp] at S5
          obtain ⟨G2, hG2, S6, hu⟩ := rpr_of S5
          obtain ⟨A, c, rfl, -⟩ := id hu
          have hup : RPr G2.ro (.slice A (pairsIn bs).length c) (pairsIn bs) := hu
          have c12 : wr.cell? ⟨r12, 12, none⟩ = some (.int .i64 0) := S6.cell 12
          obtain ⟨PN, hPN⟩ : ∃ PN, PN = (pairsIn bs).length := ⟨_, rfl⟩
          rw [← hPN] at S6 hup
          clear S4 S5 hu hp hnil hPN
          go_upto_region 61 with fail
          have S2 := S6
          clear S6
          refine wp_region_lit ?_; refine st_load rfl _ _ rfl r12 rfl _ _ S2 _ Try.underlying35 rfl (by kernel_rfl) ?_; refine st_store rfl _ _ _ rfl r8 _ rfl rfl _ _ (S2.re [2, 0, 1]) (by kernel_rfl) rfl (by simp [Value.oneCell']) fun w5 S7 => ?_; have HS := Lib.hid S7; clear S2 S7; go_wp2_with fail; exact bodyPost_ret (results_cell_tt rfl _ _ _ _ _ _ rfl (HS.out).blk_at Try.underlying35 rfl (by kernel_rfl)) rfl (hK.out _ _ ⟨_, G2, hG2, rfl, hup, HS.out.drop.drop.drop⟩)
  · have hzb : (s == 0) = false := beq_eq_false_iff_ne.2 hz
    rw [show parseS 4 fl s bs = (⟨(101, true), ⟨4, s, false, false, false, 0, 0, 0, 0, 0, 0, false, false⟩, [], []⟩ : RdRes) from by simp [parseS, placeBad, lenF, readS, bareR, bareS, ownF, hz]] at hK
    go_enter Try.func10, Try.ntmps10
    go_upto_region 8 with fail
    generalize w.heap.size + 1 + 1 = r12 at *; generalize w.heap.size + 1 = r11 at *; generalize w.heap.size = r8 at *
    refine wp_world S1 fun w2 S2 => ?_
    clear S1
    have S3 := S2.swap; clear S2; refine wp_region_lit ?_; refine st_load rfl _ _ rfl r11 rfl _ _ S3 _ Try.underlying35 rfl (by kernel_rfl) ?_; refine st_store rfl _ _ _ rfl r8 _ rfl rfl _ _ (S3.re [2, 0, 1]) (by kernel_rfl) rfl (by simp [Value.oneCell']) fun w5 S6 => ?_; have HS := Lib.hid S6; clear S3 S6; go_wp2_with fail; exact bodyPost_ret (results_cell_tt rfl _ _ _ _ _ _ rfl (HS.out).blk_at Try.underlying35 rfl (by kernel_rfl)) rfl (hK.out _ _ ⟨_, G, Gnd.le.rfl', rfl, RPr.nil _, HS.out.drop.drop.drop⟩)
end
end Go.Proofs.Ytdfdcenbpanegaa
