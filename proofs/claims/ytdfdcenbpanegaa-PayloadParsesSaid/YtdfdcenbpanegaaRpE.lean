/- Chapter 10: the reference's Parse, walked: frames of type 8. -/
import Derived.Test.YtdfdcenbpanegaaRp0
set_option linter.unusedSimpArgs false
set_option linter.unusedVariables false
namespace Go.Proofs.Ytdfdcenbpanegaa
open Go.RowKit

section
variable {G : Gnd} {w : World} {l : List Asrt}
set_option maxHeartbeats 4000000 in
set_option maxRecDepth 100000 in
theorem rp_8 (H : Sat G w l) (fl : Nat) (hfl : fl < 256) (s : Int) (bs : List UInt8) (hn : bs.length ≤ 1000) : Calls Try.prog 10 #[.int .i64 8, .int .i64 fl, .int .i64 s, .string (bstr bs)] w fun e w' => ∃ u G', G.le G' ∧ e = .returned (refOut (parseS 8 fl s bs) u) ∧ RPr G'.ro u (parseS 8 fl s bs).ps ∧ Sat G' w' l := by
  refine calls_any fun K hK => ?_
  have hsz := bstr_size bs
  have S1 := ((H.newBlk #[.int .i64 0, .int .i64 0, .string (bstr []), .int .i64 0, .int .i64 0, .int .i64 0, .int .i64 0, .int .i64 0, .int .i64 0, .int .i64 0, .int .i64 0, .int .i64 0, .int .i64 0, .int .i64 0, .slice none 0 0] 35).newBlk #[.int .i64 8, .int .i64 s, .string (bstr []), .int .i64 0, .int .i64 0, .int .i64 0, .int .i64 0, .int .i64 0, .int .i64 0, .int .i64 0, .int .i64 0, .int .i64 0, .int .i64 0, .int .i64 0, .slice none 0 0] 35).newBlk #[.int .i64 8, .int .i64 s, .string (bstr []), .int .i64 0, .int .i64 0, .int .i64 0, .int .i64 0, .int .i64 0, .int .i64 0, .int .i64 0, .int .i64 0, .int .i64 0, .int .i64 0, .int .i64 0, .slice none 0 0] 35
  simp only [World.size_alloc] at S1
  clear H
  by_cases hl : ¬ bs.length = 4
  · rw [show parseS 8 fl s bs = (⟨(106, true), ⟨8, s, false, false, false, 0, 0, 0, 0, 0, 0, false, false⟩, [], []⟩ : RdRes) from by simp [parseS, placeBad, lenF, readS, bareR, bareS, ownF, hl]] at hK
    go_enter Try.func10, Try.ntmps10
    go_upto_region 13 with fail
    generalize w.heap.size + 1 + 1 = r12 at *; generalize w.heap.size + 1 = r11 at *; generalize w.heap.size = r8 at *
    refine wp_world S1 fun w2 S2 => ?_
    clear S1
    have S3 := S2.swap; clear S2; refine wp_region_lit ?_; refine st_load rfl _ _ rfl r11 rfl _ _ S3 _ Try.underlying35 rfl (by kernel_rfl) ?_; refine st_store rfl _ _ _ rfl r8 _ rfl rfl _ _ (S3.re [2, 0, 1]) (by kernel_rfl) rfl (by simp [Value.oneCell']) fun w5 S6 => ?_; have HS := Lib.hid S6; clear S3 S6; go_wp2_with fail; exact bodyPost_ret (results_cell_tt rfl _ _ _ _ _ _ rfl (HS.out).blk_at Try.underlying35 rfl (by kernel_rfl)) rfl (hK.out _ _ ⟨_, G, Gnd.le.rfl', rfl, RPr.nil _, HS.out.drop.drop.drop⟩)
  replace hl : bs.length = 4 := by omega
  have ht : bs.take 4 = bs := List.take_of_length_le (by omega)
  by_cases hi : (numOf bs : Int) % 2147483648 = 0
  · by_cases hz : s = 0
    · rw [show parseS 8 fl s bs = (⟨(101, true), ⟨8, s, false, false, false, 0, 0, 0, 0, 0, 0, false, false⟩, [], []⟩ : RdRes) from by simp [parseS, placeBad, lenF, readS, bareR, bareS, ownF, hl, ht, hi, hz]] at hK
      have hzb : (s == 0) = true := beq_iff_eq.2 hz
      have hwd := fun W => ref_word bs (by omega) W
      have hm := num4_lt (show bs.length ≤ 4 by omega)
      generalize numOf bs = m at *
      have hr : Int.tmod (m : Int) 2147483648 = (m : Int) % 2147483648 := Int.tmod_eq_emod_of_nonneg (by omega)
      have hw1 : IntKind.i64.wrap ((m : Int) % 2147483648) = (m : Int) % 2147483648 := IntWalk.i64_in _ (by omega)
      generalize (m : Int) % 2147483648 = i at *
      have hib : (i == 0) = true := beq_iff_eq.2 hi
      clear hz hi
      go_enter Try.func10, Try.ntmps10
      go_upto_region 11 with fail
      generalize w.heap.size + 1 + 1 = r12 at *; generalize w.heap.size + 1 = r11 at *; generalize w.heap.size = r8 at *
      refine wp_world S1 fun w2 S2 => ?_
      clear S1
      have c12 : w2.cell? ⟨r12, 12, none⟩ = some (.int .i64 0) := S2.cell 12
      go_wp2_with fail
      (with_reducible refine (hwd _).mono ?_); rintro e w1 ⟨rfl, rfl⟩
      clear hwd
      have f9 := S2.frozen 9
      have d9 := S2.cell 9
      have S3 := S2.setCell 9 (.int .i64 i)
      go_upto_region 54 with fail
      refine wp_world S3 fun w3 S4 => ?_
      clear S2 S3 c12 f9 d9
      have S2 : Sat G w3 (blk r12 #[.int .i64 8, .int .i64 s, .string (bstr []), .int .i64 0, .int .i64 0, .int .i64 0, .int .i64 0, .int .i64 0, .int .i64 0, .int .i64 i, .int .i64 0, .int .i64 0, .int .i64 0, .int .i64 0, .slice none 0 0] _ :: _) := S4
      clear S4
      have c9 : w3.cell? ⟨r12, 9, none⟩ = some (.int .i64 i) := S2.cell 9
      go_upto_region 56 with fail
      have S3 := S2.swap; clear S2; refine wp_region_lit ?_; refine st_load rfl _ _ rfl r11 rfl _ _ S3 _ Try.underlying35 rfl (by kernel_rfl) ?_; refine st_store rfl _ _ _ rfl r8 _ rfl rfl _ _ (S3.re [2, 0, 1]) (by kernel_rfl) rfl (by simp [Value.oneCell']) fun w5 S6 => ?_; have HS := Lib.hid S6; clear S3 S6; go_wp2_with fail; exact bodyPost_ret (results_cell_tt rfl _ _ _ _ _ _ rfl (HS.out).blk_at Try.underlying35 rfl (by kernel_rfl)) rfl (hK.out _ _ ⟨_, G, Gnd.le.rfl', rfl, RPr.nil _, HS.out.drop.drop.drop⟩)
    · rw [show parseS 8 fl s bs = (⟨(101, false), ⟨8, s, false, false, false, 0, 0, 0, 0, 0, 0, false, false⟩, [], []⟩ : RdRes) from by simp [parseS, placeBad, lenF, readS, bareR, bareS, ownF, hl, ht, hi, hz]] at hK
      have hzb : (s == 0) = false := beq_eq_false_iff_ne.2 hz
      have hwd := fun W => ref_word bs (by omega) W
      have hm := num4_lt (show bs.length ≤ 4 by omega)
      generalize numOf bs = m at *
      have hr : Int.tmod (m : Int) 2147483648 = (m : Int) % 2147483648 := Int.tmod_eq_emod_of_nonneg (by omega)
      have hw1 : IntKind.i64.wrap ((m : Int) % 2147483648) = (m : Int) % 2147483648 := IntWalk.i64_in _ (by omega)
      generalize (m : Int) % 2147483648 = i at *
      have hib : (i == 0) = true := beq_iff_eq.2 hi
      clear hi
      go_enter Try.func10, Try.ntmps10
      go_upto_region 11 with fail
      generalize w.heap.size + 1 + 1 = r12 at *; generalize w.heap.size + 1 = r11 at *; generalize w.heap.size = r8 at *
      refine wp_world S1 fun w2 S2 => ?_
      clear S1
      have c12 : w2.cell? ⟨r12, 12, none⟩ = some (.int .i64 0) := S2.cell 12
      go_wp2_with fail
      (with_reducible refine (hwd _).mono ?_); rintro e w1 ⟨rfl, rfl⟩
      clear hwd
      have f9 := S2.frozen 9
      have d9 := S2.cell 9
      have S3 := S2.setCell 9 (.int .i64 i)
      go_upto_region 54 with fail
      refine wp_world S3 fun w3 S4 => ?_
      clear S2 S3 c12 f9 d9
      have S2 : Sat G w3 (blk r12 #[.int .i64 8, .int .i64 s, .string (bstr []), .int .i64 0, .int .i64 0, .int .i64 0, .int .i64 0, .int .i64 0, .int .i64 0, .int .i64 i, .int .i64 0, .int .i64 0, .int .i64 0, .int .i64 0, .slice none 0 0] _ :: _) := S4
      clear S4
      have c9 : w3.cell? ⟨r12, 9, none⟩ = some (.int .i64 i) := S2.cell 9
      go_upto_region 57 with fail
      have S3 := S2.swap; clear S2; refine wp_region_lit ?_; refine st_load rfl _ _ rfl r11 rfl _ _ S3 _ Try.underlying35 rfl (by kernel_rfl) ?_; refine st_store rfl _ _ _ rfl r8 _ rfl rfl _ _ (S3.re [2, 0, 1]) (by kernel_rfl) rfl (by simp [Value.oneCell']) fun w5 S6 => ?_; have HS := Lib.hid S6; clear S3 S6; go_wp2_with fail; exact bodyPost_ret (results_cell_tt rfl _ _ _ _ _ _ rfl (HS.out).blk_at Try.underlying35 rfl (by kernel_rfl)) rfl (hK.out _ _ ⟨_, G, Gnd.le.rfl', rfl, RPr.nil _, HS.out.drop.drop.drop⟩)
  · rw [show parseS 8 fl s bs = (⟨(0, false), ⟨8, s, false, false, false, 0, 0, 0, (numOf bs : Int) % 2147483648, 0, 0, false, false⟩, [], []⟩ : RdRes) from by simp [parseS, placeBad, lenF, readS, bareR, bareS, ownF, hl, ht, hi]] at hK
    have hwd := fun W => ref_word bs (by omega) W
    have hm := num4_lt (show bs.length ≤ 4 by omega)
    generalize numOf bs = m at *
    have hr : Int.tmod (m : Int) 2147483648 = (m : Int) % 2147483648 := Int.tmod_eq_emod_of_nonneg (by omega)
    have hw1 : IntKind.i64.wrap ((m : Int) % 2147483648) = (m : Int) % 2147483648 := IntWalk.i64_in _ (by omega)
    generalize (m : Int) % 2147483648 = i at *
    have hib : (i == 0) = false := beq_eq_false_iff_ne.2 hi
    go_enter Try.func10, Try.ntmps10
    go_upto_region 11 with fail
    generalize w.heap.size + 1 + 1 = r12 at *; generalize w.heap.size + 1 = r11 at *; generalize w.heap.size = r8 at *
    refine wp_world S1 fun w2 S2 => ?_
    clear S1
    have c12 : w2.cell? ⟨r12, 12, none⟩ = some (.int .i64 0) := S2.cell 12
    go_wp2_with fail
    (with_reducible refine (hwd _).mono ?_); rintro e w1 ⟨rfl, rfl⟩
    clear hwd
    have f9 := S2.frozen 9
    have d9 := S2.cell 9
    have S3 := S2.setCell 9 (.int .i64 i)
    go_upto_region 54 with fail
    refine wp_world S3 fun w3 S4 => ?_
    clear S2 S3 c12 f9 d9
    have S2 : Sat G w3 (blk r12 #[.int .i64 8, .int .i64 s, .string (bstr []), .int .i64 0, .int .i64 0, .int .i64 0, .int .i64 0, .int .i64 0, .int .i64 0, .int .i64 i, .int .i64 0, .int .i64 0, .int .i64 0, .int .i64 0, .slice none 0 0] _ :: _) := S4
    clear S4
    have c9 : w3.cell? ⟨r12, 9, none⟩ = some (.int .i64 i) := S2.cell 9
    have c12 : w3.cell? ⟨r12, 12, none⟩ = some (.int .i64 0) := S2.cell 12
    go_upto_region 61 with fail
    refine wp_region_lit ?_; refine st_load rfl _ _ rfl r12 rfl _ _ S2 _ Try.underlying35 rfl (by kernel_rfl) ?_; refine st_store rfl _ _ _ rfl r8 _ rfl rfl _ _ (S2.re [2, 0, 1]) (by kernel_rfl) rfl (by simp [Value.oneCell']) fun w5 S6 => ?_; have HS := Lib.hid S6; clear S2 S6; go_wp2_with fail; exact bodyPost_ret (results_cell_tt rfl _ _ _ _ _ _ rfl (HS.out).blk_at Try.underlying35 rfl (by kernel_rfl)) rfl (hK.out _ _ ⟨_, G, Gnd.le.rfl', rfl, RPr.nil _, HS.out.drop.drop.drop⟩)
end
end Go.Proofs.Ytdfdcenbpanegaa
