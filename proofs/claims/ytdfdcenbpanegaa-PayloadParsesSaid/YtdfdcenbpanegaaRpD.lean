/- Chapter 10: the reference's Parse, walked: frames of type 7. -/
import Derived.Test.YtdfdcenbpanegaaRp0
set_option linter.unusedSimpArgs false
set_option linter.unusedVariables false
namespace Go.Proofs.Ytdfdcenbpanegaa
open Go.RowKit


section
variable {G : Gnd} {w : World} {l : List Asrt}
set_option maxHeartbeats 4000000 in
set_option maxRecDepth 100000 in
theorem rp_7 (H : Sat G w l) (fl : Nat) (hfl : fl < 256) (s : Int) (bs : List UInt8) (hn : bs.length ≤ 1000) : Calls Try.prog 10 #[.int .i64 7, .int .i64 fl, .int .i64 s, .string (bstr bs)] w fun e w' => ∃ u G', G.le G' ∧ e = .returned (refOut (parseS 7 fl s bs) u) ∧ RPr G'.ro u (parseS 7 fl s bs).ps ∧ Sat G' w' l := by
  refine calls_any fun K hK => ?_
  have hsz := bstr_size bs
  have S1 := ((H.newBlk #[.int .i64 0, .int .i64 0, .string (bstr []), .int .i64 0, .int .i64 0, .int .i64 0, .int .i64 0, .int .i64 0, .int .i64 0, .int .i64 0, .int .i64 0, .int .i64 0, .int .i64 0, .int .i64 0, .slice none 0 0] 35).newBlk #[.int .i64 7, .int .i64 s, .string (bstr []), .int .i64 0, .int .i64 0, .int .i64 0, .int .i64 0, .int .i64 0, .int .i64 0, .int .i64 0, .int .i64 0, .int .i64 0, .int .i64 0, .int .i64 0, .slice none 0 0] 35).newBlk #[.int .i64 7, .int .i64 s, .string (bstr []), .int .i64 0, .int .i64 0, .int .i64 0, .int .i64 0, .int .i64 0, .int .i64 0, .int .i64 0, .int .i64 0, .int .i64 0, .int .i64 0, .int .i64 0, .slice none 0 0] 35
  simp only [World.size_alloc] at S1
  clear H
  by_cases hz : s = 0
  · subst hz
    have hzb : ((0 : Int) == 0) = true := rfl
    by_cases hl : bs.length < 8
    · rw [show parseS 7 fl 0 bs = (⟨(106, true), ⟨7, 0, false, false, false, 0, 0, 0, 0, 0, 0, false, false⟩, [], []⟩ : RdRes) from by simp [parseS, placeBad, lenF, readS, bareR, bareS, ownF, hl]] at hK
      go_enter Try.func10, Try.ntmps10
      go_upto_region 13 with fail
      generalize w.heap.size + 1 + 1 = r12 at *; generalize w.heap.size + 1 = r11 at *; generalize w.heap.size = r8 at *
      refine wp_world S1 fun w2 S2 => ?_
      clear S1
      have S3 := S2.swap; clear S2; refine wp_region_lit ?_; refine st_load rfl _ _ rfl r11 rfl _ _ S3 _ Try.underlying35 rfl (by kernel_rfl) ?_; refine st_store rfl _ _ _ rfl r8 _ rfl rfl _ _ (S3.re [2, 0, 1]) (by kernel_rfl) rfl (by simp [Value.oneCell']) fun w5 S6 => ?_; have HS := Lib.hid S6; clear S3 S6; go_wp2_with fail; exact bodyPost_ret (results_cell_tt rfl _ _ _ _ _ _ rfl (HS.out).blk_at Try.underlying35 rfl (by kernel_rfl)) rfl (hK.out _ _ ⟨_, G, Gnd.le.rfl', rfl, RPr.nil _, HS.out.drop.drop.drop⟩)
    have hl2 : ¬ (bs.length < 8) := hl
    replace hl : 8 ≤ bs.length := by omega
    rw [show parseS 7 fl 0 bs = (⟨(0, false), ⟨7, 0, false, false, false, 0, (numOf ((bs.drop 4).take 4) : Int), (numOf (bs.take 4) : Int) % 2147483648, 0, 0, 0, false, false⟩, bs.drop 8, []⟩ : RdRes) from by simp [parseS, placeBad, lenF, readS, bareR, bareS, ownF, hl, hl2]] at hK
    have ht4 := bstr_take bs 4
    have hsl : (bstr bs).extract 4 8 = bstr ((bs.drop 4).take 4) := by unfold bstr; rw [Go.ByteArray.extract_mk]
    have hdr := bstr_drop bs 8 bs.length rfl
    have hl1 : (bs.take 4).length ≤ 4 := by rw [List.length_take]; omega
    have hl3 : ((bs.drop 4).take 4).length ≤ 4 := by rw [List.length_take]; omega
    have hwd := fun W => ref_word (bs.take 4) hl1 W
    have hwd2 := fun W => ref_word ((bs.drop 4).take 4) hl3 W
    have hm := num4_lt hl1
    clear hl1 hl3
    generalize numOf (bs.take 4) = m at *
    generalize numOf ((bs.drop 4).take 4) = m2 at *
    have hr : Int.tmod (m : Int) 2147483648 = (m : Int) % 2147483648 := Int.tmod_eq_emod_of_nonneg (by omega)
    have hw1 : IntKind.i64.wrap ((m : Int) % 2147483648) = (m : Int) % 2147483648 := IntWalk.i64_in _ (by omega)
    have hl4 : (8 : Int) ≤ bs.length := by omega
    go_enter Try.func10, Try.ntmps10
    go_upto_region 11 with fail
    generalize w.heap.size + 1 + 1 = r12 at *; generalize w.heap.size + 1 = r11 at *; generalize w.heap.size = r8 at *
    refine wp_world S1 fun w2 S2 => ?_
    clear S1
    have c12 : w2.cell? ⟨r12, 12, none⟩ = some (.int .i64 0) := S2.cell 12
    go_wp2_with fail
    (with_reducible refine (hwd _).mono ?_); rintro e w1 ⟨rfl, rfl⟩
    clear hwd
    have f8 := S2.frozen 8
    have d8 := S2.cell 8
    have f7 := S2.frozen 7
    have d7 := S2.cell 7
    have f2 := S2.frozen 2
    have d2 := S2.cell 2
    have S3 := ((S2.setCell 8 (.int .i64 ((m : Int) % 2147483648))).setCell 7 (.int .i64 m2)).setCell 2 (.string (bstr (bs.drop 8)))
    go_wp2_with fail
    (with_reducible refine (hwd2 _).mono ?_); rintro e w1 ⟨rfl, rfl⟩
    clear hwd2
    go_upto_region 61 with fail
    refine wp_world S3 fun w3 S4 => ?_
    clear S2 S3
    have S2 : Sat G w3 (blk r12 #[.int .i64 7, .int .i64 0, .string (bstr (bs.drop 8)), .int .i64 0, .int .i64 0, .int .i64 0, .int .i64 0, .int .i64 m2, .int .i64 ((m : Int) % 2147483648), .int .i64 0, .int .i64 0, .int .i64 0, .int .i64 0, .int .i64 0, .slice none 0 0] _ :: _) := S4
    clear S4
    refine wp_region_lit ?_; refine st_load rfl _ _ rfl r12 rfl _ _ S2 _ Try.underlying35 rfl (by kernel_rfl) ?_; refine st_store rfl _ _ _ rfl r8 _ rfl rfl _ _ (S2.re [2, 0, 1]) (by kernel_rfl) rfl (by simp [Value.oneCell']) fun w5 S6 => ?_; have HS := Lib.hid S6; clear S2 S6; go_wp2_with fail; exact bodyPost_ret (results_cell_tt rfl _ _ _ _ _ _ rfl (HS.out).blk_at Try.underlying35 rfl (by kernel_rfl)) rfl (hK.out _ _ ⟨_, G, Gnd.le.rfl', rfl, RPr.nil _, HS.out.drop.drop.drop⟩)
  · have hzb : (s == 0) = false := beq_eq_false_iff_ne.2 hz
    rw [show parseS 7 fl s bs = (⟨(101, true), ⟨7, s, false, false, false, 0, 0, 0, 0, 0, 0, false, false⟩, [], []⟩ : RdRes) from by simp [parseS, placeBad, lenF, readS, bareR, bareS, ownF, hz]] at hK
    go_enter Try.func10, Try.ntmps10
    go_upto_region 8 with fail
    generalize w.heap.size + 1 + 1 = r12 at *; generalize w.heap.size + 1 = r11 at *; generalize w.heap.size = r8 at *
    refine wp_world S1 fun w2 S2 => ?_
    clear S1
    have S3 := S2.swap; clear S2; refine wp_region_lit ?_; refine st_load rfl _ _ rfl r11 rfl _ _ S3 _ Try.underlying35 rfl (by kernel_rfl) ?_; refine st_store rfl _ _ _ rfl r8 _ rfl rfl _ _ (S3.re [2, 0, 1]) (by kernel_rfl) rfl (by simp [Value.oneCell']) fun w5 S6 => ?_; have HS := Lib.hid S6; clear S3 S6; go_wp2_with fail; exact bodyPost_ret (results_cell_tt rfl _ _ _ _ _ _ rfl (HS.out).blk_at Try.underlying35 rfl (by kernel_rfl)) rfl (hK.out _ _ ⟨_, G, Gnd.le.rfl', rfl, RPr.nil _, HS.out.drop.drop.drop⟩)
end
end Go.Proofs.Ytdfdcenbpanegaa
