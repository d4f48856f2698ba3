/- Chapter 10: the reference's Parse, walked: frames of type 6. -/
import Derived.Test.YtdfdcenbpanegaaRp0
set_option linter.unusedSimpArgs false
set_option linter.unusedVariables false
namespace Go.Proofs.Ytdfdcenbpanegaa
open Go.RowKit

section
variable {G : Gnd} {w : World} {l : List Asrt}
set_option maxHeartbeats 4000000 in
set_option maxRecDepth 100000 in
theorem rp_6 (H : Sat G w l) (fl : Nat) (hfl : fl < 256) (s : Int) (bs : List UInt8) (hn : bs.length ≤ 1000) : Calls Try.prog 10 #[.int .i64 6, .int .i64 fl, .int .i64 s, .string (bstr bs)] w fun e w' => ∃ u G', G.le G' ∧ e = .returned (refOut (parseS 6 fl s bs) u) ∧ RPr G'.ro u (parseS 6 fl s bs).ps ∧ Sat G' w' l := by
  refine calls_any fun K hK => ?_
  have hsz := bstr_size bs
  have S1 := ((H.newBlk #[.int .i64 0, .int .i64 0, .string (bstr []), .int .i64 0, .int .i64 0, .int .i64 0, .int .i64 0, .int .i64 0, .int .i64 0, .int .i64 0, .int .i64 0, .int .i64 0, .int .i64 0, .int .i64 0, .slice none 0 0] 35).newBlk #[.int .i64 6, .int .i64 s, .string (bstr []), .int .i64 0, .int .i64 0, .int .i64 0, .int .i64 0, .int .i64 0, .int .i64 0, .int .i64 0, .int .i64 0, .int .i64 0, .int .i64 0, .int .i64 0, .slice none 0 0] 35).newBlk #[.int .i64 6, .int .i64 s, .string (bstr []), .int .i64 0, .int .i64 0, .int .i64 0, .int .i64 0, .int .i64 0, .int .i64 0, .int .i64 0, .int .i64 0, .int .i64 0, .int .i64 0, .int .i64 0, .slice none 0 0] 35
  simp only [World.size_alloc] at S1
  clear H
  by_cases hz : s = 0
  · subst hz
    have hzb : ((0 : Int) == 0) = true := rfl
    by_cases hl : ¬ bs.length = 8
    · rw [show parseS 6 fl 0 bs = (⟨(106, true), ⟨6, 0, false, false, false, 0, 0, 0, 0, 0, 0, false, false⟩, [], []⟩ : RdRes) from by simp [parseS, placeBad, lenF, readS, bareR, bareS, ownF, hl]] at hK
      go_enter Try.func10, Try.ntmps10
      go_upto_region 13 with fail
      generalize w.heap.size + 1 + 1 = r12 at *; generalize w.heap.size + 1 = r11 at *; generalize w.heap.size = r8 at *
      refine wp_world S1 fun w2 S2 => ?_
      clear S1
      have S3 := S2.swap; clear S2; refine wp_region_lit ?_; refine st_load rfl _ _ rfl r11 rfl _ _ S3 _ Try.underlying35 rfl (by kernel_rfl) ?_; refine st_store rfl _ _ _ rfl r8 _ rfl rfl _ _ (S3.re [2, 0, 1]) (by kernel_rfl) rfl (by simp [Value.oneCell']) fun w5 S6 => ?_; have HS := Lib.hid S6; clear S3 S6; go_wp2_with fail; exact bodyPost_ret (results_cell_tt rfl _ _ _ _ _ _ rfl (HS.out).blk_at Try.underlying35 rfl (by kernel_rfl)) rfl (hK.out _ _ ⟨_, G, Gnd.le.rfl', rfl, RPr.nil _, HS.out.drop.drop.drop⟩)
    replace hl : bs.length = 8 := by omega
    rw [show parseS 6 fl 0 bs = (⟨(0, false), ⟨6, 0, false, false, hasF fl 1, 0, 0, 0, 0, 0, 0, false, false⟩, bs, []⟩ : RdRes) from by simp [parseS, placeBad, lenF, readS, bareR, bareS, ownF, hl]] at hK
    have hfg : ∀ W, Calls Try.prog 21 #[.int .i64 fl, .int .i64 1] W fun e w' => e = .returned (.int .i64 (b2i (hasF fl 1))) ∧ W = w' := fun W => ref_flag fl hfl 1 (.inl rfl) W
    generalize hasF fl 1 = b1 at *
    go_enter Try.func10, Try.ntmps10
    go_upto_region 11 with fail
    generalize w.heap.size + 1 + 1 = r12 at *; generalize w.heap.size + 1 = r11 at *; generalize w.heap.size = r8 at *
    refine wp_world S1 fun w2 S2 => ?_
    clear S1
    have c12 : w2.cell? ⟨r12, 12, none⟩ = some (.int .i64 0) := S2.cell 12
    go_wp2_with fail
    (with_reducible refine (hfg _).mono ?_); rintro e w1 ⟨rfl, rfl⟩
    clear hfg
    have f5 := S2.frozen 5
    have d5 := S2.cell 5
    have f2 := S2.frozen 2
    have d2 := S2.cell 2
    have S3 := (S2.setCell 5 (.int .i64 (b2i b1))).setCell 2 (.string (bstr bs))
    go_upto_region 61 with fail
    refine wp_world S3 fun w3 S4 => ?_
    clear S2 S3
    have S2 : Sat G w3 (blk r12 #[.int .i64 6, .int .i64 0, .string (bstr bs), .int .i64 0, .int .i64 0, .int .i64 (b2i b1), .int .i64 0, .int .i64 0, .int .i64 0, .int .i64 0, .int .i64 0, .int .i64 0, .int .i64 0, .int .i64 0, .slice none 0 0] _ :: _) := S4
    clear S4
    refine wp_region_lit ?_; refine st_load rfl _ _ rfl r12 rfl _ _ S2 _ Try.underlying35 rfl (by kernel_rfl) ?_; refine st_store rfl _ _ _ rfl r8 _ rfl rfl _ _ (S2.re [2, 0, 1]) (by kernel_rfl) rfl (by simp [Value.oneCell']) fun w5 S6 => ?_; have HS := Lib.hid S6; clear S2 S6; go_wp2_with fail; exact bodyPost_ret (results_cell_tt rfl _ _ _ _ _ _ rfl (HS.out).blk_at Try.underlying35 rfl (by kernel_rfl)) rfl (hK.out _ _ ⟨_, G, Gnd.le.rfl', rfl, RPr.nil _, HS.out.drop.drop.drop⟩)
  · have hzb : (s == 0) = false := beq_eq_false_iff_ne.2 hz
    rw [show parseS 6 fl s bs = (⟨(101, true), ⟨6, s, false, false, false, 0, 0, 0, 0, 0, 0, false, false⟩, [], []⟩ : RdRes) from by simp [parseS, placeBad, lenF, readS, bareR, bareS, ownF, hz]] at hK
    go_enter Try.func10, Try.ntmps10
    go_upto_region 8 with fail
    generalize w.heap.size + 1 + 1 = r12 at *; generalize w.heap.size + 1 = r11 at *; generalize w.heap.size = r8 at *
    refine wp_world S1 fun w2 S2 => ?_
    clear S1
    have S3 := S2.swap; clear S2; refine wp_region_lit ?_; refine st_load rfl _ _ rfl r11 rfl _ _ S3 _ Try.underlying35 rfl (by kernel_rfl) ?_; refine st_store rfl _ _ _ rfl r8 _ rfl rfl _ _ (S3.re [2, 0, 1]) (by kernel_rfl) rfl (by simp [Value.oneCell']) fun w5 S6 => ?_; have HS := Lib.hid S6; clear S3 S6; go_wp2_with fail; exact bodyPost_ret (results_cell_tt rfl _ _ _ _ _ _ rfl (HS.out).blk_at Try.underlying35 rfl (by kernel_rfl)) rfl (hK.out _ _ ⟨_, G, Gnd.le.rfl', rfl, RPr.nil _, HS.out.drop.drop.drop⟩)
end
end Go.Proofs.Ytdfdcenbpanegaa
