/- The walk over awake. -/
import Derived.Test.YtohknaoklcehaaaPairs
import Derived.Deep.Cut
set_option linter.unusedSimpArgs false
set_option linter.unusedVariables false
namespace Go.Proofs.Ytohknaoklcehaaa
open Go.RowKit

theorem Gnd.le.ro' {G G' : Gnd} (h : G.le G') : ∀ k o, G.ro k = some o → G'.ro k = some o := h.ro
/-- Pairs that were just written down. -/
theorem RPairs.of_new {G : Gnd} {w : World} {l : List Asrt} {b : Nat} {ps : List (Int × Int)} (H : Sat G w (blk b (pcells ps).toArray 31 :: l)) (hm : ps.length ≤ maxLen) : ∃ G', G.le G' ∧ Sat G' w l ∧ RPairs G'.ro (.slice (some ⟨b, 0, none⟩) ps.length ps.length) ps :=
  RPairs.of_own (l := l) (by have := H.ownBlk (size := 2) ps.length (by simpa using pcells_length ps) hm; simpa using this)
theorem set_ack (w : World) : Calls Try.prog 20 #[] w fun e w' => e = .returned (.agg #[.int .i64 4, .int .i64 1, .int .i64 0, .slice none 0 0]) ∧ Below w.heap.size w w' := by
  refine calls_any fun K hK => ?_
  go_enter Try.func20, Try.ntmps20
  go_wp2_with fail
  have S := (Sat.start w).newBlk #[.int .i64 4, .int .i64 1, .int .i64 0, .slice none 0 0] 49
  exact ret_cell S 0 _ rfl _ rfl rfl rfl rfl rfl (hK.out _ _ ⟨rfl, (Below.refl _ _).alloc (Nat.le_refl _) _⟩)
def a6 : S6 := ⟨4096, 1, 10, 100, 16384, 4294967295⟩
theorem apply_a : apply6 first6 [(4, 100), (3, 10)] = (a6, 0) := by rfl
theorem apply_b : apply6 a6 [(2, 2)] = (a6, 101) := by rfl
set_option maxHeartbeats 4000000 in
set_option maxRecDepth 100000 in
theorem law_awake {G : Gnd} {w : World} {l : List Asrt} (H : Sat G w l) :
    Calls Try.prog 8 #[] w fun e w' => ∃ G', e = .returned (.bool true) ∧ G.le G' ∧ Sat G' w' l := by
  refine calls_any fun K hK => ?_
  go_enter Try.func8, Try.ntmps8
  go_wp2_with fail
  (with_reducible refine (set_first _).mono ?_)
  rintro e w1 ⟨rfl, hb1⟩
  have S1 := H.below hb1
  clear hb1 H
  obtain ⟨G1, hG1, S2, hp⟩ := RPairs.of_new (ps := [(4, 100), (3, 10)]) (S1.newBlk #[.int .i64 4, .int .i64 100, .int .i64 3, .int .i64 10] 31) (by decide)
  have hap := set_apply S2 first6 _ _ hp
  rw [apply_a] at hap
  change Calls _ _ #[_, .slice _ 2 2] _ _ at hap
  clear hp S1 S2
  go_wp2_with fail
  (with_reducible refine hap.mono ?_)
  clear hap
  rintro e w2 ⟨rfl, S2⟩
  simp only [cells6, change, fault, a6, first6, if_true]
  have S3 := ((S2.newBlk (cells6 a6) 26).newBlk #[.int .i64 65535, .int .i64 100] 35).newBlk #[.int .i64 0, .bool false] 38
  simp only [World.size_alloc, cells6, a6] at S3
  obtain ⟨G2, hG2, S4, hp⟩ := RPairs.of_new (ps := [(2, 2)]) (S3.newBlk #[.int .i64 2, .int .i64 2] 31) (by decide)
  have hap := set_apply S4 a6 _ _ hp
  rw [apply_b] at hap
  change Calls _ _ #[_, .slice _ 1 1] _ _ at hap
  simp only [World.size_alloc, cells6, a6, change, fault] at hap
  clear S2 S3 S4 hp
  go_wp2_with fail
  (with_reducible refine hap.mono ?_)
  clear hap
  rintro e w3 ⟨rfl, S3⟩
  rw [show (if (101 : Int) = 0 then (100 : Int) else 0) = 0 from rfl, show ((101 : Int) != 0) = true from rfl]
  generalize w2.heap.size = q at *
  have S4 := ((S3.newBlk #[.int .i64 4096, .int .i64 1, .int .i64 10, .int .i64 100, .int .i64 16384, .int .i64 4294967295] 26).newBlk #[.int .i64 0, .int .i64 0] 35).newBlk #[.int .i64 101, .bool true] 38
  simp only [World.size_alloc] at S4
  clear S3
  go_upto_region 3 with fail
  generalize ((w3.alloc (.cells #[.int .i64 4096, .int .i64 1, .int .i64 10, .int .i64 100, .int .i64 16384, .int .i64 4294967295] 26)).alloc (.cells #[.int .i64 0, .int .i64 0] 35)).alloc (.cells #[.int .i64 101, .bool true] 38) = W at *
  generalize w3.heap.size = m at *
  have b0 : W.cell? ⟨q, 0, none⟩ = some (.int .i64 4096) := (S4.mid [_, _, _, _, _]).cell 0
  have b1 : W.cell? ⟨q, 1, none⟩ = some (.int .i64 1) := (S4.mid [_, _, _, _, _]).cell 1
  have b2 : W.cell? ⟨q, 2, none⟩ = some (.int .i64 10) := (S4.mid [_, _, _, _, _]).cell 2
  have b3 : W.cell? ⟨q, 3, none⟩ = some (.int .i64 100) := (S4.mid [_, _, _, _, _]).cell 3
  have b4 : W.cell? ⟨q, 4, none⟩ = some (.int .i64 16384) := (S4.mid [_, _, _, _, _]).cell 4
  have b5 : W.cell? ⟨q, 5, none⟩ = some (.int .i64 4294967295) := (S4.mid [_, _, _, _, _]).cell 5
  have c0 : W.cell? ⟨q + 1, 0, none⟩ = some (.int .i64 65535) := (S4.mid [_, _, _, _]).cell 0
  have c1 : W.cell? ⟨q + 1, 1, none⟩ = some (.int .i64 100) := (S4.mid [_, _, _, _]).cell 1
  have d0 : W.cell? ⟨q + 1 + 1, 0, none⟩ = some (.int .i64 0) := (S4.mid [_, _, _]).cell 0
  have d1 : W.cell? ⟨q + 1 + 1, 1, none⟩ = some (.bool false) := (S4.mid [_, _, _]).cell 1
  go_wp2_with fail
  have hsh := set_share a6 4 W (by decide) (by decide)
  rw [show share6 a6 4 = 2 from rfl] at hsh
  simp only [cells6, a6] at hsh
  (with_reducible refine hsh.mono ?_)
  clear hsh
  rintro e w5 ⟨rfl, hb5⟩
  have S5 := S4.below hb5
  clear hb5 S4 b0 b1 b2 b3 b4 b5 c0 c1 d0 d1
  have b0 : w5.cell? ⟨q, 0, none⟩ = some (.int .i64 4096) := (S5.mid [_, _, _, _, _]).cell 0
  have b1 : w5.cell? ⟨q, 1, none⟩ = some (.int .i64 1) := (S5.mid [_, _, _, _, _]).cell 1
  have b2 : w5.cell? ⟨q, 2, none⟩ = some (.int .i64 10) := (S5.mid [_, _, _, _, _]).cell 2
  have b3 : w5.cell? ⟨q, 3, none⟩ = some (.int .i64 100) := (S5.mid [_, _, _, _, _]).cell 3
  have b4 : w5.cell? ⟨q, 4, none⟩ = some (.int .i64 16384) := (S5.mid [_, _, _, _, _]).cell 4
  have b5 : w5.cell? ⟨q, 5, none⟩ = some (.int .i64 4294967295) := (S5.mid [_, _, _, _, _]).cell 5
  have c0 : w5.cell? ⟨m + 1 + 1, 0, none⟩ = some (.int .i64 101) := S5.cell 0
  have c1 : w5.cell? ⟨m + 1 + 1, 1, none⟩ = some (.bool true) := S5.cell 1
  have hpr := set_pairs S5 a6
  simp only [cells6, a6] at hpr
  clear S5
  go_wp2_with fail
  (with_reducible refine hpr.mono ?_)
  clear hpr b0 b1 b2 b3 b4 b5 c0 c1
  rintro e w6 ⟨v, G3, rfl, hG3, ⟨A, c, rfl, _, _⟩, S6⟩
  go_wp2_with fail
  (with_reducible refine (set_ack _).mono ?_)
  rintro e w7 ⟨rfl, hb7⟩
  have S7 := S6.below hb7
  clear hb7 S6
  have hf : ∀ W, (Instr.field 49 (.agg #[.int .i64 4, .int .i64 1, .int .i64 0, .slice none 0 0]) 1).run Try.prog W = .ok (.int .i64 1) W := fun W => by
    simp [Instr.field, asAgg, go_sem, run_underlying Try.underlying49]
  go_wp2_with fail
  exact hK.out _ _ ⟨G3, by rfl, hG1.trans (hG2.trans hG3), S7.drop.drop.drop.drop.drop.drop⟩
end Go.Proofs.Ytohknaoklcehaaa
