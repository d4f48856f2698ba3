/- The walk of the law PayloadOther. -/
import Derived.Test.YtdfdcenbpanegaaOther
set_option linter.unusedSimpArgs false
set_option linter.unusedVariables false
namespace Go.Proofs.Ytdfdcenbpanegaa
open Go.RowKit

theorem parse_other (k fl s : Int) (bs : List UInt8) (h : 10 ≤ k) : parseS k fl s bs = ⟨(0, false), ⟨k, s, false, false, false, 0, 0, 0, 0, 0, 0, false, false⟩, [], []⟩ := by
  have k0 : (k == 0) = false := beq_eq_false_iff_ne.2 (by omega)
  have k1 : (k == 1) = false := beq_eq_false_iff_ne.2 (by omega)
  have k2 : (k == 2) = false := beq_eq_false_iff_ne.2 (by omega)
  have k3 : (k == 3) = false := beq_eq_false_iff_ne.2 (by omega)
  have k4 : (k == 4) = false := beq_eq_false_iff_ne.2 (by omega)
  have k5 : (k == 5) = false := beq_eq_false_iff_ne.2 (by omega)
  have k6 : (k == 6) = false := beq_eq_false_iff_ne.2 (by omega)
  have k7 : (k == 7) = false := beq_eq_false_iff_ne.2 (by omega)
  have k8 : (k == 8) = false := beq_eq_false_iff_ne.2 (by omega)
  have k9 : (k == 9) = false := beq_eq_false_iff_ne.2 (by omega)
  simp [parseS, placeBad, lenF, readS, bareS, k0, k1, k2, k3, k4, k5, k6, k7, k8, k9]
set_option maxHeartbeats 8000000 in
set_option maxRecDepth 100000 in
theorem payloadOther_walk (w : World) (v0 : Value) (h0 : ∃ d, ArgV w (Ty.agg [.int .i64, .int .i64, .int .i64, .sl 1 (.int .u8)]) v0 d) :
    Calls Try.prog 5 #[v0] w fun e w' => e = .returned (.bool true) ∧ Below w.heap.size w w' := by
  obtain ⟨_, h0⟩ := h0
  obtain ⟨k, fl, s, u, bs, rfl, hb, -⟩ := arg_fr h0
  clear h0
  obtain ⟨A, c, rfl, -, -, -⟩ := hb.form
  by_cases hout : 300 < bs.length ∨ k < 10 ∨ 255 < k
  · exact po_out w k fl s A bs.length c hout
  refine calls_any fun K hK => ?_
  have h1 : ¬ 300 < bs.length := by omega
  have h2 : ¬ k < 10 := by omega
  have h3 : ¬ 255 < k := by omega
  have S1 := (Sat.start w).newBlk #[.int .i64 k, .int .i64 fl, .int .i64 s, .slice A bs.length c] 24
  have hG := Gnd.le.rfl' (G := Gnd.of w)
  have hp := pl_parse S1 k fl s _ hb (by omega)
  rw [parse_other k fl s bs (by omega)] at hp
  simp only [ItS.cs] at hp
  generalize bs.length = n at *
  clear hout S1
  go_enter Try.func5, Try.ntmps5
  go_wp2_with fail
  (with_reducible refine hp.mono ?_)
  clear hp
  rintro e w1 ⟨G1, v, u, hG1, rfl, hv, hu, S2⟩
  obtain ⟨VA, vc, rfl, -, -, -⟩ := hv.form
  obtain ⟨UA, uc, rfl, -⟩ := id hu
  generalize w.heap.size = aF at S2 ⊢
  have hG := hG.trans hG1
  have S3 := (S2.newBlk #[.int .i64 k, .int .i64 s, .slice VA 0 vc, .bool false, .bool false, .bool false, .int .i64 0, .int .i64 0, .int .i64 0, .int .i64 0, .int .i64 0, .int .i64 0, .bool false, .bool false, .slice UA 0 uc] 28).newBlk #[.int .i64 0, .bool false] 31
  simp only [World.size_alloc] at S3
  have HV := Lib.hid hv
  have HU := Lib.hid hu
  clear S2 hv hu
  go_upto_region 4 with fail
  refine wp_world S3 fun w2 S4 => ?_
  clear S3
  generalize w1.heap.size + 1 = a4 at *
  generalize w1.heap.size = a3 at *
  have c0 := S4.cell 0
  have c1 := S4.cell 1
  have hok := pl_ok S4 0 false
  rw [show ((0 : Int) == 0 && !false) = true from rfl] at hok
  clear S4
  go_wp2_with fail
  (with_reducible refine hok.mono ?_)
  clear hok c0 c1
  rintro e w3 ⟨rfl, S4⟩
  have y0 : w3.cell? ⟨a3, 0, none⟩ = some (.int .i64 k) := S4.swap.cell 0
  have y1 : w3.cell? ⟨a3, 1, none⟩ = some (.int .i64 s) := S4.swap.cell 1
  have y2 : w3.cell? ⟨a3, 2, none⟩ = some (.slice VA 0 vc) := S4.swap.cell 2
  have y3 : w3.cell? ⟨a3, 3, none⟩ = some (.bool false) := S4.swap.cell 3
  have y4 : w3.cell? ⟨a3, 4, none⟩ = some (.bool false) := S4.swap.cell 4
  have y5 : w3.cell? ⟨a3, 5, none⟩ = some (.bool false) := S4.swap.cell 5
  have y6 : w3.cell? ⟨a3, 6, none⟩ = some (.int .i64 0) := S4.swap.cell 6
  have y7 : w3.cell? ⟨a3, 7, none⟩ = some (.int .i64 0) := S4.swap.cell 7
  have y8 : w3.cell? ⟨a3, 8, none⟩ = some (.int .i64 0) := S4.swap.cell 8
  have y9 : w3.cell? ⟨a3, 9, none⟩ = some (.int .i64 0) := S4.swap.cell 9
  have y10 : w3.cell? ⟨a3, 10, none⟩ = some (.int .i64 0) := S4.swap.cell 10
  have y11 : w3.cell? ⟨a3, 11, none⟩ = some (.int .i64 0) := S4.swap.cell 11
  have y12 : w3.cell? ⟨a3, 12, none⟩ = some (.bool false) := S4.swap.cell 12
  have y13 : w3.cell? ⟨a3, 13, none⟩ = some (.bool false) := S4.swap.cell 13
  have y14 : w3.cell? ⟨a3, 14, none⟩ = some (.slice UA 0 uc) := S4.swap.cell 14
  have d0 := (S4.re [2, 0, 1]).cell 0
  have d2 := (S4.re [2, 0, 1]).cell 2
  have heq := pl_equal S4 ⟨k, s, false, false, false, 0, 0, 0, 0, 0, 0, false, false⟩ ⟨k, s, false, false, false, 0, 0, 0, 0, 0, 0, false, false⟩ _ _ (.slice none 0 0) (.slice none 0 0) [] [] [] [] HV.out HU.out (SlB.nil _) (RPr.nil _)
  rw [itEq_self] at heq
  simp only [ItS.cs, List.length_nil] at heq
  clear S4
  go_wp2_with fail
  (with_reducible refine heq.mono ?_)
  clear heq d0 d2 y0 y1 y2 y3 y4 y5 y6 y7 y8 y9 y10 y11 y12 y13 y14
  rintro e w4 ⟨rfl, S5⟩
  have d0 := (S5.re [2, 0, 1]).cell 0
  have hkn := pl_known k
  rw [decide_eq_false (by omega)] at hkn
  go_wp2_with fail
  (with_reducible refine (hkn _).mono ?_)
  clear hkn d0
  rintro e w5 ⟨rfl, rfl⟩
  go_wp2_with fail
  (with_reducible refine (law_awake S5.drop.drop.drop).mono ?_); rintro e w9 ⟨rfl, G9, hG9, S9⟩; go_wp2_with fail; exact hK.out _ _ ⟨rfl, S9.above (hG.trans hG9)⟩
end Go.Proofs.Ytdfdcenbpanegaa
