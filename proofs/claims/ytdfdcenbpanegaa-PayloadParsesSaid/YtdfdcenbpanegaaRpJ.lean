/- Chapter 10: the reference's Parse, walked: frames of type 1 (1nv). -/
import Derived.Test.YtdfdcenbpanegaaRp0
set_option linter.unusedSimpArgs false
set_option linter.unusedVariables false
namespace Go.Proofs.Ytdfdcenbpanegaa
open Go.RowKit


section
variable {G : Gnd} {w : World} {l : List Asrt}
set_option maxHeartbeats 8000000 in
set_option maxRecDepth 100000 in
theorem rp_1nv (H : Sat G w l) (fl : Nat) (hfl : fl < 256) (s : Int) (bs : List UInt8) (hn : bs.length ≤ 1000) (h8 : hasF fl 8 = false) (h32 : hasF fl 32 = false) : Calls Try.prog 10 #[.int .i64 1, .int .i64 fl, .int .i64 s, .string (bstr bs)] w fun e w' => ∃ u G', G.le G' ∧ e = .returned (refOut (parseS 1 fl s bs) u) ∧ RPr G'.ro u (parseS 1 fl s bs).ps ∧ Sat G' w' l := by
  refine calls_any fun K hK => ?_
  have hsz := bstr_size bs
  obtain ⟨N, hN⟩ : ∃ N, N = bs.length := ⟨_, rfl⟩
  rw [← hN] at hsz hn
  have S1 := ((H.newBlk #[.int .i64 0, .int .i64 0, .string (bstr []), .int .i64 0, .int .i64 0, .int .i64 0, .int .i64 0, .int .i64 0, .int .i64 0, .int .i64 0, .int .i64 0, .int .i64 0, .int .i64 0, .int .i64 0, .slice none 0 0] 35).newBlk #[.int .i64 1, .int .i64 s, .string (bstr []), .int .i64 0, .int .i64 0, .int .i64 0, .int .i64 0, .int .i64 0, .int .i64 0, .int .i64 0, .int .i64 0, .int .i64 0, .int .i64 0, .int .i64 0, .slice none 0 0] 35).newBlk #[.int .i64 1, .int .i64 s, .string (bstr []), .int .i64 0, .int .i64 0, .int .i64 0, .int .i64 0, .int .i64 0, .int .i64 0, .int .i64 0, .int .i64 0, .int .i64 0, .int .i64 0, .int .i64 0, .slice none 0 0] 35
  simp only [World.size_alloc] at S1
  clear H
  by_cases hz : s = 0
  · rw [show parseS 1 fl s bs = (⟨(101, true), ⟨1, s, false, false, false, 0, 0, 0, 0, 0, 0, false, false⟩, [], []⟩ : RdRes) from by simp [parseS, placeBad, lenF, readS, bareR, bareS, ownF, readP, padS, padW, padE, h8, h32, hz, hN]] at hK
    have hzb : (s == 0) = true := beq_iff_eq.2 hz
    clear hz h8 hN h32
    go_enter Try.func10, Try.ntmps10
    go_upto_region 10 with fail
    generalize w.heap.size + 1 + 1 = r12 at *; generalize w.heap.size + 1 = r11 at *; generalize w.heap.size = r8 at *
    refine wp_world S1 fun w2 S1 => ?_
    have S2 : Sat G w2 (blk r12 #[.int .i64 1, .int .i64 s, .string (bstr []), .int .i64 0, .int .i64 0, .int .i64 0, .int .i64 0, .int .i64 0, .int .i64 0, .int .i64 0, .int .i64 0, .int .i64 0, .int .i64 0, .int .i64 0, .slice none 0 0] 35 :: blk r11 #[.int .i64 1, .int .i64 s, .string (bstr []), .int .i64 0, .int .i64 0, .int .i64 0, .int .i64 0, .int .i64 0, .int .i64 0, .int .i64 0, .int .i64 0, .int .i64 0, .int .i64 0, .int .i64 0, .slice none 0 0] 35 :: blk r8 #[.int .i64 0, .int .i64 0, .string (bstr []), .int .i64 0, .int .i64 0, .int .i64 0, .int .i64 0, .int .i64 0, .int .i64 0, .int .i64 0, .int .i64 0, .int .i64 0, .int .i64 0, .int .i64 0, .slice none 0 0] 35 :: l) := S1
    clear S1
    have S3 := S2.swap; clear S2; refine wp_region_lit ?_; refine st_load rfl _ _ rfl r11 rfl _ _ S3 _ Try.underlying35 rfl (by kernel_rfl) ?_; refine st_store rfl _ _ _ rfl r8 _ rfl rfl _ _ (S3.re [2, 0, 1]) (by kernel_rfl) rfl (by simp [Value.oneCell']) fun w5 S6 => ?_; have HS := Lib.hid S6; clear S3 S6; go_wp2_with fail; exact bodyPost_ret (results_cell_tt rfl _ _ _ _ _ _ rfl (HS.out).blk_at Try.underlying35 rfl (by kernel_rfl)) rfl (hK.out _ _ ⟨_, G, Gnd.le.rfl', rfl, RPr.nil _, HS.out.drop.drop.drop⟩)
  have hzb : (s == 0) = false := beq_eq_false_iff_ne.2 hz
  have hfg : ∀ W, Calls Try.prog 21 #[.int .i64 fl, .int .i64 1] W fun e w' => e = .returned (.int .i64 (b2i (hasF fl 1))) ∧ W = w' := fun W => ref_flag fl hfl 1 (.inl rfl) W
  have hfg4 : ∀ W, Calls Try.prog 21 #[.int .i64 fl, .int .i64 4] W fun e w' => e = .returned (.int .i64 (b2i (hasF fl 4))) ∧ W = w' := fun W => ref_flag fl hfl 4 (.inr (.inl rfl)) W
  have hfg8 : ∀ W, Calls Try.prog 21 #[.int .i64 fl, .int .i64 8] W fun e w' => e = .returned (.int .i64 (b2i (hasF fl 8))) ∧ W = w' := fun W => ref_flag fl hfl 8 (.inr (.inr (.inl rfl))) W
  have hfg32 : ∀ W, Calls Try.prog 21 #[.int .i64 fl, .int .i64 32] W fun e w' => e = .returned (.int .i64 (b2i (hasF fl 32))) ∧ W = w' := fun W => ref_flag fl hfl 32 (.inr (.inr (.inr rfl))) W
  rw [h8] at hfg8
  rw [h32] at hfg32
  have hpi : ¬ (N : Int) < 0 := by omega
  have hwm : IntKind.i64.wrap (N : Int) = N := IntWalk.i64_in _ (by omega)
  have htk := bstr_take (bs) N
  rw [show parseS 1 fl s bs = (⟨(0, false), ⟨1, s, hasF fl 1, hasF fl 4, false, 0, 0, 0, 0, 0, 0, false, false⟩, bs.take N, []⟩ : RdRes) from by simp [parseS, placeBad, lenF, readS, bareR, bareS, ownF, readP, padS, padW, padE, h8, h32, hz, hN]] at hK
  clear hN h8 h32
  generalize hasF fl 1 = b1 at *
  generalize hasF fl 4 = b4 at *
  go_enter Try.func10, Try.ntmps10
  go_upto_region 11 with fail
  generalize w.heap.size + 1 + 1 = r12 at *; generalize w.heap.size + 1 = r11 at *; generalize w.heap.size = r8 at *
  refine wp_world S1 fun w2 S1 => ?_
  have S2 : Sat G w2 (blk r12 #[.int .i64 1, .int .i64 s, .string (bstr []), .int .i64 0, .int .i64 0, .int .i64 0, .int .i64 0, .int .i64 0, .int .i64 0, .int .i64 0, .int .i64 0, .int .i64 0, .int .i64 0, .int .i64 0, .slice none 0 0] 35 :: blk r11 #[.int .i64 1, .int .i64 s, .string (bstr []), .int .i64 0, .int .i64 0, .int .i64 0, .int .i64 0, .int .i64 0, .int .i64 0, .int .i64 0, .int .i64 0, .int .i64 0, .int .i64 0, .int .i64 0, .slice none 0 0] 35 :: blk r8 #[.int .i64 0, .int .i64 0, .string (bstr []), .int .i64 0, .int .i64 0, .int .i64 0, .int .i64 0, .int .i64 0, .int .i64 0, .int .i64 0, .int .i64 0, .int .i64 0, .int .i64 0, .int .i64 0, .slice none 0 0] 35 :: l) := S1
  clear S1
  have c12 : w2.cell? ⟨r12, 12, none⟩ = some (.int .i64 0) := S2.cell 12
  go_wp2_with fail
  (with_reducible refine (hfg8 _).mono ?_); rintro e w1 ⟨rfl, rfl⟩
  clear hfg8
  go_wp2_with fail
  (with_reducible refine (hfg32 _).mono ?_); rintro e w1 ⟨rfl, rfl⟩
  have f2 := S2.frozen 2
  have d2 := S2.cell 2
  have f3 := S2.frozen 3
  have d3 := S2.cell 3
  have f4 := S2.frozen 4
  have d4 := S2.cell 4
  have S3 := (((S2.setCell 2 (.string (bstr (bs.take N)))).setCell 3 (.int .i64 (b2i b1))).setCell 4 (.int .i64 (b2i b4)))
  go_wp2_with fail
  (with_reducible refine (hfg _).mono ?_); rintro e w1 ⟨rfl, rfl⟩
  clear hfg
  go_wp2_with fail
  (with_reducible refine (hfg4 _).mono ?_); rintro e w1 ⟨rfl, rfl⟩
  clear hfg4
  go_upto_region 61 with fail
  refine wp_world S3 fun w6 S3 => ?_
  clear S2
  have S2 : Sat G w6 (blk r12 #[.int .i64 1, .int .i64 s, .string (bstr (bs.take N)), .int .i64 (b2i b1), .int .i64 (b2i b4), .int .i64 0, .int .i64 0, .int .i64 0, .int .i64 0, .int .i64 0, .int .i64 0, .int .i64 0, .int .i64 0, .int .i64 0, .slice none 0 0] 35 :: blk r11 #[.int .i64 1, .int .i64 s, .string (bstr []), .int .i64 0, .int .i64 0, .int .i64 0, .int .i64 0, .int .i64 0, .int .i64 0, .int .i64 0, .int .i64 0, .int .i64 0, .int .i64 0, .int .i64 0, .slice none 0 0] 35 :: blk r8 #[.int .i64 0, .int .i64 0, .string (bstr []), .int .i64 0, .int .i64 0, .int .i64 0, .int .i64 0, .int .i64 0, .int .i64 0, .int .i64 0, .int .i64 0, .int .i64 0, .int .i64 0, .int .i64 0, .slice none 0 0] 35 :: l) := S3
  clear S3
  refine wp_region_lit ?_; refine st_load rfl _ _ rfl r12 rfl _ _ S2 _ Try.underlying35 rfl (by kernel_rfl) ?_; refine st_store rfl _ _ _ rfl r8 _ rfl rfl _ _ (S2.re [2, 0, 1]) (by kernel_rfl) rfl (by simp [Value.oneCell']) fun w5 S6 => ?_; have HS := Lib.hid S6; clear S2 S6; go_wp2_with fail; exact bodyPost_ret (results_cell_tt rfl _ _ _ _ _ _ rfl (HS.out).blk_at Try.underlying35 rfl (by kernel_rfl)) rfl (hK.out _ _ ⟨_, G, Gnd.le.rfl', rfl, RPr.nil _, HS.out.drop.drop.drop⟩)
end
end Go.Proofs.Ytdfdcenbpanegaa
