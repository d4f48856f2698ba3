/- Chapter 10: the reference's Parse, walked: frames of type 2. -/
import Derived.Test.YtdfdcenbpanegaaRp0
set_option linter.unusedSimpArgs false
set_option linter.unusedVariables false
namespace Go.Proofs.Ytdfdcenbpanegaa
open Go.RowKit

section
variable {G : Gnd} {w : World} {l : List Asrt}
set_option maxHeartbeats 4000000 in
set_option maxRecDepth 100000 in
theorem rp_2 (H : Sat G w l) (fl : Nat) (hfl : fl < 256) (s : Int) (bs : List UInt8) (hn : bs.length ≤ 1000) : Calls Try.prog 10 #[.int .i64 2, .int .i64 fl, .int .i64 s, .string (bstr bs)] w fun e w' => ∃ u G', G.le G' ∧ e = .returned (refOut (parseS 2 fl s bs) u) ∧ RPr G'.ro u (parseS 2 fl s bs).ps ∧ Sat G' w' l := by
  refine calls_any fun K hK => ?_
  have hsz := bstr_size bs
  have S1 := ((H.newBlk #[.int .i64 0, .int .i64 0, .string (bstr []), .int .i64 0, .int .i64 0, .int .i64 0, .int .i64 0, .int .i64 0, .int .i64 0, .int .i64 0, .int .i64 0, .int .i64 0, .int .i64 0, .int .i64 0, .slice none 0 0] 35).newBlk #[.int .i64 2, .int .i64 s, .string (bstr []), .int .i64 0, .int .i64 0, .int .i64 0, .int .i64 0, .int .i64 0, .int .i64 0, .int .i64 0, .int .i64 0, .int .i64 0, .int .i64 0, .int .i64 0, .slice none 0 0] 35).newBlk #[.int .i64 2, .int .i64 s, .string (bstr []), .int .i64 0, .int .i64 0, .int .i64 0, .int .i64 0, .int .i64 0, .int .i64 0, .int .i64 0, .int .i64 0, .int .i64 0, .int .i64 0, .int .i64 0, .slice none 0 0] 35
  simp only [World.size_alloc] at S1
  clear H
  by_cases hz : s = 0
  · have hzb : (s == 0) = true := beq_iff_eq.2 hz
    rw [show parseS 2 fl s bs = (⟨(101, true), ⟨2, s, false, false, false, 0, 0, 0, 0, 0, 0, false, false⟩, [], []⟩ : RdRes) from by simp [parseS, placeBad, lenF, readS, bareR, bareS, ownF, hz]] at hK
    clear hz
    go_enter Try.func10, Try.ntmps10
    go_upto_region 10 with fail
    generalize w.heap.size + 1 + 1 = r12 at *; generalize w.heap.size + 1 = r11 at *; generalize w.heap.size = r8 at *
    refine wp_world S1 fun w2 S2 => ?_
    clear S1
    have S3 := S2.swap; clear S2; refine wp_region_lit ?_; refine st_load rfl _ _ rfl r11 rfl _ _ S3 _ Try.underlying35 rfl (by kernel_rfl) ?_; refine st_store rfl _ _ _ rfl r8 _ rfl rfl _ _ (S3.re [2, 0, 1]) (by kernel_rfl) rfl (by simp [Value.oneCell']) fun w5 S6 => ?_; have HS := Lib.hid S6; clear S3 S6; go_wp2_with fail; exact bodyPost_ret (results_cell_tt rfl _ _ _ _ _ _ rfl (HS.out).blk_at Try.underlying35 rfl (by kernel_rfl)) rfl (hK.out _ _ ⟨_, G, Gnd.le.rfl', rfl, RPr.nil _, HS.out.drop.drop.drop⟩)
  have hzb : (s == 0) = false := beq_eq_false_iff_ne.2 hz
  by_cases hl : ¬ bs.length = 5
  · rw [show parseS 2 fl s bs = (⟨(106, false), ⟨2, s, false, false, false, 0, 0, 0, 0, 0, 0, false, false⟩, [], []⟩ : RdRes) from by simp [parseS, placeBad, lenF, readS, bareR, bareS, ownF, hz, hl]] at hK
    go_enter Try.func10, Try.ntmps10
    go_upto_region 15 with fail
    generalize w.heap.size + 1 + 1 = r12 at *; generalize w.heap.size + 1 = r11 at *; generalize w.heap.size = r8 at *
    refine wp_world S1 fun w2 S2 => ?_
    clear S1
    have S3 := S2.swap; clear S2; refine wp_region_lit ?_; refine st_load rfl _ _ rfl r11 rfl _ _ S3 _ Try.underlying35 rfl (by kernel_rfl) ?_; refine st_store rfl _ _ _ rfl r8 _ rfl rfl _ _ (S3.re [2, 0, 1]) (by kernel_rfl) rfl (by simp [Value.oneCell']) fun w5 S6 => ?_; have HS := Lib.hid S6; clear S3 S6; go_wp2_with fail; exact bodyPost_ret (results_cell_tt rfl _ _ _ _ _ _ rfl (HS.out).blk_at Try.underlying35 rfl (by kernel_rfl)) rfl (hK.out _ _ ⟨_, G, Gnd.le.rfl', rfl, RPr.nil _, HS.out.drop.drop.drop⟩)
  replace hl : bs.length = 5 := by omega
  obtain ⟨D, hD⟩ : ∃ D, D = (numOf (bs.take 4) : Int) % 2147483648 := ⟨_, rfl⟩
  obtain ⟨Wt, hWt⟩ : ∃ Wt, Wt = (numOf ((bs.drop 4).take 1) : Int) + 1 := ⟨_, rfl⟩
  obtain ⟨ex, hex⟩ : ∃ ex, ex = decide (2147483647 < (numOf (bs.take 4) : Int)) := ⟨_, rfl⟩
  obtain ⟨Ex, hEx⟩ : ∃ Ex, Ex = b2i (decide (2147483647 < (numOf (bs.take 4) : Int))) := ⟨_, rfl⟩
  have hRR : parseS 2 fl s bs = if D = s then (⟨(101, false), ⟨2, s, false, false, false, 0, 0, 0, 0, 0, 0, false, false⟩, [], []⟩ : RdRes) else (⟨(0, false), ⟨2, s, false, false, false, 0, 0, 0, 0, D, Wt, true, ex⟩, [], []⟩ : RdRes) := by
    by_cases hds : D = s
    · rw [if_pos hds]; rw [hD] at hds; simp [parseS, placeBad, lenF, readS, bareR, bareS, ownF, wghS, hz, hl, hds]
    · rw [if_neg hds]; rw [hD] at hds; simp [parseS, placeBad, lenF, readS, bareR, bareS, ownF, wghS, hz, hl, hds, hD, hWt, hex]
  have hwg : ∀ W l, Sat G W l → Calls Try.prog 22 #[.agg #[.int .i64 2, .int .i64 s, .string (bstr []), .int .i64 0, .int .i64 0, .int .i64 0, .int .i64 0, .int .i64 0, .int .i64 0, .int .i64 0, .int .i64 0, .int .i64 0, .int .i64 0, .int .i64 0, .slice none 0 0], .string (bstr bs)] W fun e w' => e = .returned (.agg #[.int .i64 2, .int .i64 s, .string (bstr []), .int .i64 0, .int .i64 0, .int .i64 0, .int .i64 0, .int .i64 0, .int .i64 0, .int .i64 0, .int .i64 D, .int .i64 Wt, .int .i64 1, .int .i64 Ex, .slice none 0 0]) ∧ Sat G w' l := fun W l S => by
    have := ref_weigh S ⟨2, s, false, false, false, 0, 0, 0, 0, 0, 0, false, false⟩ [] bs none 0 0 (by omega) hn
    rw [hD, hWt, hEx]
    exact this
  have hEx2 : Ex = b2i ex := by rw [hEx, hex]
  rw [hRR] at hK
  clear hRR hD hWt hEx hex
  by_cases hds : D = s
  · rw [if_pos hds] at hK
    have hdb : (D == s) = true := beq_iff_eq.2 hds
    clear hds hEx2
    go_enter Try.func10, Try.ntmps10
    go_upto_region 11 with fail
    generalize w.heap.size + 1 + 1 = r12 at *; generalize w.heap.size + 1 = r11 at *; generalize w.heap.size = r8 at *
    refine wp_world S1 fun w2 S2 => ?_
    clear S1
    have c12 : w2.cell? ⟨r12, 12, none⟩ = some (.int .i64 0) := S2.cell 12
    go_upto_region 35 with fail
    refine wp_region_lit ?_
    refine st_load rfl _ _ rfl r12 rfl _ _ S2 _ Try.underlying35 rfl (by kernel_rfl) ?_
    refine st_run rfl (.string (bstr bs)) (by go_simp) ?_
    refine st_call rfl (f := 22) (args := #[.agg #[.int .i64 2, .int .i64 s, .string (bstr []), .int .i64 0, .int .i64 0, .int .i64 0, .int .i64 0, .int .i64 0, .int .i64 0, .int .i64 0, .int .i64 0, .int .i64 0, .int .i64 0, .int .i64 0, .slice none 0 0], .string (bstr bs)]) (by go_simp) (hwg _ _ S2) ?_
    rintro e w4 ⟨rfl, S3⟩
    refine ⟨_, rfl, ?_⟩
    refine st_store rfl _ _ _ rfl r12 _ rfl rfl _ _ S3 (by kernel_rfl) rfl (by simp [Value.oneCell']) fun w5 S4 => ?_
    clear S2 S3 hwg c12
    have S2 := S4
    clear S4
    have c12 : w5.cell? ⟨r12, 12, none⟩ = some (.int .i64 1) := S2.cell 12
    have c10 : w5.cell? ⟨r12, 10, none⟩ = some (.int .i64 D) := S2.cell 10
    go_upto_region 37 with fail
    have S3 := S2.swap; clear S2; refine wp_region_lit ?_; refine st_load rfl _ _ rfl r11 rfl _ _ S3 _ Try.underlying35 rfl (by kernel_rfl) ?_; refine st_store rfl _ _ _ rfl r8 _ rfl rfl _ _ (S3.re [2, 0, 1]) (by kernel_rfl) rfl (by simp [Value.oneCell']) fun w5 S6 => ?_; have HS := Lib.hid S6; clear S3 S6; go_wp2_with fail; exact bodyPost_ret (results_cell_tt rfl _ _ _ _ _ _ rfl (HS.out).blk_at Try.underlying35 rfl (by kernel_rfl)) rfl (hK.out _ _ ⟨_, G, Gnd.le.rfl', rfl, RPr.nil _, HS.out.drop.drop.drop⟩)
  · rw [if_neg hds] at hK
    have hdb : (D == s) = false := beq_eq_false_iff_ne.2 hds
    go_enter Try.func10, Try.ntmps10
    go_upto_region 11 with fail
    generalize w.heap.size + 1 + 1 = r12 at *; generalize w.heap.size + 1 = r11 at *; generalize w.heap.size = r8 at *
    refine wp_world S1 fun w2 S2 => ?_
    clear S1
    have c12 : w2.cell? ⟨r12, 12, none⟩ = some (.int .i64 0) := S2.cell 12
    go_upto_region 35 with fail
    refine wp_region_lit ?_
    refine st_load rfl _ _ rfl r12 rfl _ _ S2 _ Try.underlying35 rfl (by kernel_rfl) ?_
    refine st_run rfl (.string (bstr bs)) (by go_simp) ?_
    refine st_call rfl (f := 22) (args := #[.agg #[.int .i64 2, .int .i64 s, .string (bstr []), .int .i64 0, .int .i64 0, .int .i64 0, .int .i64 0, .int .i64 0, .int .i64 0, .int .i64 0, .int .i64 0, .int .i64 0, .int .i64 0, .int .i64 0, .slice none 0 0], .string (bstr bs)]) (by go_simp) (hwg _ _ S2) ?_
    rintro e w4 ⟨rfl, S3⟩
    refine ⟨_, rfl, ?_⟩
    refine st_store rfl _ _ _ rfl r12 _ rfl rfl _ _ S3 (by kernel_rfl) rfl (by simp [Value.oneCell']) fun w5 S4 => ?_
    clear S2 S3 hwg c12
    have S2 := S4
    clear S4
    have c12 : w5.cell? ⟨r12, 12, none⟩ = some (.int .i64 1) := S2.cell 12
    have c10 : w5.cell? ⟨r12, 10, none⟩ = some (.int .i64 D) := S2.cell 10
    go_upto_region 61 with fail
    subst hEx2
    refine wp_region_lit ?_; refine st_load rfl _ _ rfl r12 rfl _ _ S2 _ Try.underlying35 rfl (by kernel_rfl) ?_; refine st_store rfl _ _ _ rfl r8 _ rfl rfl _ _ (S2.re [2, 0, 1]) (by kernel_rfl) rfl (by simp [Value.oneCell']) fun w5 S6 => ?_; have HS := Lib.hid S6; clear S2 S6; go_wp2_with fail; exact bodyPost_ret (results_cell_tt rfl _ _ _ _ _ _ rfl (HS.out).blk_at Try.underlying35 rfl (by kernel_rfl)) rfl (hK.out _ _ ⟨_, G, Gnd.le.rfl', rfl, RPr.nil _, HS.out.drop.drop.drop⟩)
end
end Go.Proofs.Ytdfdcenbpanegaa
