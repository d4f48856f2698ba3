/- The walk of the law PayloadParses. -/
import Derived.Test.YtdfdcenbpanegaaRsm
import Derived.Test.YtdfdcenbpanegaaRpA
import Derived.Test.YtdfdcenbpanegaaRpB
import Derived.Test.YtdfdcenbpanegaaRpC
import Derived.Test.YtdfdcenbpanegaaRpD
import Derived.Test.YtdfdcenbpanegaaRpE
import Derived.Test.YtdfdcenbpanegaaRpF
import Derived.Test.YtdfdcenbpanegaaRpG
import Derived.Test.YtdfdcenbpanegaaRpH
import Derived.Test.YtdfdcenbpanegaaRpI
import Derived.Test.YtdfdcenbpanegaaRpJ
import Derived.Test.YtdfdcenbpanegaaRpK
import Derived.Test.YtdfdcenbpanegaaRpL
import Derived.Test.YtdfdcenbpanegaaRpM
set_option linter.unusedSimpArgs false
set_option linter.unusedVariables false
namespace Go.Proofs.Ytdfdcenbpanegaa
open Go.RowKit

theorem ref_parse {G : Gnd} {w : World} {l : List Asrt} (H : Sat G w l) (k : Int) (hk : 0 ≤ k) (fl : Nat) (hfl : fl < 256) (s : Int) (bs : List UInt8) (hn : bs.length ≤ 1000) :
    Calls Try.prog 10 #[.int .i64 k, .int .i64 fl, .int .i64 s, .string (bstr bs)] w fun e w' => ∃ u G', G.le G' ∧ e = .returned (refOut (parseS k fl s bs) u) ∧ RPr G'.ro u (parseS k fl s bs).ps ∧ Sat G' w' l := by
  have hc : k = 0 ∨ k = 1 ∨ k = 2 ∨ k = 3 ∨ k = 4 ∨ k = 5 ∨ k = 6 ∨ k = 7 ∨ k = 8 ∨ k = 9 ∨ 10 ≤ k := by omega
  rcases hc with rfl | rfl | rfl | rfl | rfl | rfl | rfl | rfl | rfl | rfl | h
  · cases h8 : hasF fl 8 with
    | true => exact rp_0p H fl hfl s bs hn h8
    | false => exact rp_0n H fl hfl s bs hn h8
  · cases h8 : hasF fl 8 with
    | true =>
      cases h32 : hasF fl 32 with
      | true => exact rp_1pw H fl hfl s bs hn h8 h32
      | false => exact rp_1pv H fl hfl s bs hn h8 h32
    | false =>
      cases h32 : hasF fl 32 with
      | true => exact rp_1nw H fl hfl s bs hn h8 h32
      | false => exact rp_1nv H fl hfl s bs hn h8 h32
  · exact rp_2 H fl hfl s bs hn
  · exact rp_3 H fl hfl s bs hn
  · exact rp_4 H fl hfl s bs hn
  · exact rp_5 H fl hfl s bs hn
  · exact rp_6 H fl hfl s bs hn
  · exact rp_7 H fl hfl s bs hn
  · exact rp_8 H fl hfl s bs hn
  · exact rp_9 H fl hfl s bs hn
  · exact rp_x H fl hfl s bs hn k h
theorem parse_zero (k fl s : Int) (bs : List UInt8) : ((parseS k fl s bs).f.1 == 0 && !(parseS k fl s bs).f.2) = ((parseS k fl s bs).f.1 == 0) := by
  rcases parse_f k fl s bs with h | ⟨f, h, hf⟩
  · rw [h]; rfl
  · rw [h]
    show (f.1 == 0 && !f.2) = (f.1 == 0)
    rcases hf with rfl | rfl | ⟨rfl | rfl, -⟩ <;> rfl
theorem b2i_one (b : Bool) : (b2i b == 1) = b := by cases b <;> rfl
set_option maxHeartbeats 16000000 in
set_option maxRecDepth 100000 in
theorem payloadParses_walk (w : World) (v0 : Value) (h0 : ∃ d, ArgV w (Ty.agg [.int .i64, .int .i64, .int .i64, .sl 1 (.int .u8)]) v0 d) :
    Calls Try.prog 3 #[v0] w fun e w' => e = .returned (.bool true) ∧ Below w.heap.size w w' := by
  refine calls_any fun K hK => ?_
  obtain ⟨_, h0⟩ := h0
  obtain ⟨k, fl, s, v, bs, rfl, hb, hbl⟩ := arg_fr h0
  clear h0
  obtain ⟨A, c, rfl, -, -, -⟩ := hb.form
  obtain ⟨n, hn⟩ : ∃ n, n = bs.length := ⟨_, rfl⟩
  rw [← hn] at hb hbl ⊢
  have hG := Gnd.le.rfl' (G := Gnd.of w)
  have S1 := (Sat.start w).newBlk #[.int .i64 k, .int .i64 fl, .int .i64 s, .slice A n c] 24
  have c0 := S1.cell 0
  have c1 := S1.cell 1
  have c2 := S1.cell 2
  have c3 := S1.cell 3
  have HB := Lib.hid hb
  have HN := Lib.hid hn
  clear hb hn
  by_cases b0 : 300 < (n : Int)
  · go_enter Try.func3, Try.ntmps3; go_wp2_with fail; (with_reducible refine (law_awake (S1)).mono ?_); rintro e w9 ⟨rfl, G9, hG9, S9⟩; go_wp2_with fail; exact hK.out _ _ ⟨rfl, S9.above (Gnd.le.trans (hG) hG9)⟩
  by_cases b1 : k < 0
  · go_enter Try.func3, Try.ntmps3; go_wp2_with fail; (with_reducible refine (law_awake (S1)).mono ?_); rintro e w9 ⟨rfl, G9, hG9, S9⟩; go_wp2_with fail; exact hK.out _ _ ⟨rfl, S9.above (Gnd.le.trans (hG) hG9)⟩
  by_cases b2 : 255 < k
  · go_enter Try.func3, Try.ntmps3; go_wp2_with fail; (with_reducible refine (law_awake (S1)).mono ?_); rintro e w9 ⟨rfl, G9, hG9, S9⟩; go_wp2_with fail; exact hK.out _ _ ⟨rfl, S9.above (Gnd.le.trans (hG) hG9)⟩
  by_cases b3 : fl < 0
  · go_enter Try.func3, Try.ntmps3; go_wp2_with fail; (with_reducible refine (law_awake (S1)).mono ?_); rintro e w9 ⟨rfl, G9, hG9, S9⟩; go_wp2_with fail; exact hK.out _ _ ⟨rfl, S9.above (Gnd.le.trans (hG) hG9)⟩
  by_cases b4 : 255 < fl
  · go_enter Try.func3, Try.ntmps3; go_wp2_with fail; (with_reducible refine (law_awake (S1)).mono ?_); rintro e w9 ⟨rfl, G9, hG9, S9⟩; go_wp2_with fail; exact hK.out _ _ ⟨rfl, S9.above (Gnd.le.trans (hG) hG9)⟩
  by_cases b5 : s < 0
  · go_enter Try.func3, Try.ntmps3; go_wp2_with fail; (with_reducible refine (law_awake (S1)).mono ?_); rintro e w9 ⟨rfl, G9, hG9, S9⟩; go_wp2_with fail; exact hK.out _ _ ⟨rfl, S9.above (Gnd.le.trans (hG) hG9)⟩
  by_cases b6 : 2147483647 < s
  · go_enter Try.func3, Try.ntmps3; go_wp2_with fail; (with_reducible refine (law_awake (S1)).mono ?_); rintro e w9 ⟨rfl, G9, hG9, S9⟩; go_wp2_with fail; exact hK.out _ _ ⟨rfl, S9.above (Gnd.le.trans (hG) hG9)⟩
  obtain ⟨f, rfl⟩ : ∃ f : Nat, fl = f := ⟨fl.toNat, by omega⟩
  have hp := pl_parse S1 k f s _ (by rw [HN.out] at HB; exact HB.out) (by rw [← HN.out]; omega)
  rw [← HN.out] at hp
  have HRP := Lib.hid fun (G : Gnd) (W : World) (l : List Asrt) (S : Sat G W l) => ref_parse S k (by omega) f (by omega) s bs (by rw [← HN.out]; omega)
  have hz := parse_zero k f s bs
  generalize parseS k f s bs = r at *
  obtain ⟨⟨pc, pb⟩, x, t, ps⟩ := r
  simp only at hz
  obtain ⟨b0', hb0⟩ : ∃ b0', b0' = (pc == 0) := ⟨_, rfl⟩
  rw [← hb0] at hz
  have HX := Lib.hid (rfl : x = x)
  obtain ⟨xk, xs, xe, xl, xa, xfl, xcode, xlast, xinc, xdep, xwgt, xwd, xex⟩ := x
  simp only [ItS.cs] at hp
  simp only [refOut, ItS.rs] at HRP
  clear S1
  go_enter Try.func3, Try.ntmps3
  go_wp2_with fail
  (with_reducible refine hp.mono ?_)
  clear hp c0 c1 c2 c3
  obtain ⟨p, hp⟩ : ∃ p, p = w.heap.size := ⟨_, rfl⟩
  rw [← hp]
  clear hp
  rintro e w1 ⟨G1, v, u, hG1, rfl, hv, hu, S2⟩
  obtain ⟨vA, vc, rfl, -, -, -⟩ := hv.form
  obtain ⟨uA, uc, rfl, -⟩ := id hu
  have S3 := ((S2.newBlk #[.int .i64 xk, .int .i64 xs, .slice vA t.length vc, .bool xe, .bool xl, .bool xa, .int .i64 xfl, .int .i64 xcode, .int .i64 xlast, .int .i64 xinc, .int .i64 xdep, .int .i64 xwgt, .bool xwd, .bool xex, .slice uA ps.length uc] 28).newBlk #[.int .i64 pc, .bool pb] 31)
  simp only [World.size_alloc] at S3
  clear S2
  go_upto_region 4 with fail
  refine wp_world S3 fun w2 S4 => ?_
  clear S3
  generalize w1.heap.size + 1 = a4 at *
  generalize w1.heap.size = a3 at *
  have T := S4.re [2, 0, 1]
  have c0 := T.cell 0
  have c1 := T.cell 1
  have c2 := T.cell 2
  have c3 := T.cell 3
  have hcv := conv_bytes _ bs w2 (HB.out.mono hG1 |>.sat S4).1
  have hrp := HRP.out G1 w2 _ S4
  have HV := Lib.hid hv
  have HU := Lib.hid hu
  clear T S4 hv hu
  go_wp2_with fail
  (with_reducible refine hrp.mono ?_)
  clear hrp hcv c0 c1 c2 c3
  rintro e w3 ⟨q, G2, hG2, rfl, hq, S5⟩
  obtain ⟨qA, qc, rfl, -⟩ := id hq
  have S6 := S5.newBlk #[.int .i64 xk, .int .i64 xs, .string (bstr t), .int .i64 (b2i xe), .int .i64 (b2i xl), .int .i64 (b2i xa), .int .i64 xfl, .int .i64 xcode, .int .i64 xlast, .int .i64 xinc, .int .i64 xdep, .int .i64 xwgt, .int .i64 (b2i xwd), .int .i64 (b2i xex), .slice qA ps.length qc] 35
  have HQ := Lib.hid hq
  clear S5 hq
  go_upto_region 5 with fail
  refine wp_world S6 fun w4 S7 => ?_
  clear S6
  generalize w3.heap.size = a5 at *
  have T := S7.swap
  have c0 := T.cell 0
  have c1 := T.cell 1
  have hok := pl_ok S7 pc pb
  rw [← hb0, hz] at hok
  have z1 : (pc != pc) = false := by simp
  have z2 := b2i_one pb
  have z3 : (pb != pb) = false := by simp
  have z4 := hb0.symm
  have z5 : (b0' != b0') = false := by simp
  clear T S7 hb0 hz
  go_wp2_with fail
  (with_reducible refine hok.mono ?_)
  clear hok c0 c1
  rintro e w5 ⟨rfl, S8⟩
  have T3 := S8.re [2, 0, 1]
  have x0 := T3.cell 0
  have y0 := S8.cell 0
  have x1 := T3.cell 1
  have y1 := S8.cell 1
  have x2 := T3.cell 2
  have y2 := S8.cell 2
  have x3 := T3.cell 3
  have y3 := S8.cell 3
  have x4 := T3.cell 4
  have y4 := S8.cell 4
  have x5 := T3.cell 5
  have y5 := S8.cell 5
  have x6 := T3.cell 6
  have y6 := S8.cell 6
  have x7 := T3.cell 7
  have y7 := S8.cell 7
  have x8 := T3.cell 8
  have y8 := S8.cell 8
  have x9 := T3.cell 9
  have y9 := S8.cell 9
  have x10 := T3.cell 10
  have y10 := S8.cell 10
  have x11 := T3.cell 11
  have y11 := S8.cell 11
  have x12 := T3.cell 12
  have y12 := S8.cell 12
  have x13 := T3.cell 13
  have y13 := S8.cell 13
  have x14 := T3.cell 14
  have y14 := S8.cell 14
  have hsm := law_same S8 ⟨xk, xs, xe, xl, xa, xfl, xcode, xlast, xinc, xdep, xwgt, xwd, xex⟩ _ _ _ t ps (HV.out.mono hG2) (HU.out.mono hG2) HQ.out
  simp only [ItS.cs, ItS.rs] at hsm
  clear S8 T3
  go_wp2_with fail
  (with_reducible refine hsm.mono ?_)
  clear hsm x0 y0 x1 y1 x2 y2 x3 y3 x4 y4 x5 y5 x6 y6 x7 y7 x8 y8 x9 y9 x10 y10 x11 y11 x12 y12 x13 y13 x14 y14
  rintro e w6 ⟨rfl, S9⟩
  go_wp2_with fail
  (with_reducible refine (law_awake (S9)).mono ?_); rintro e w9 ⟨rfl, G9, hG9, S9⟩; go_wp2_with fail; exact hK.out _ _ ⟨rfl, S9.above (Gnd.le.trans ((hG1.trans hG2)) hG9)⟩
end Go.Proofs.Ytdfdcenbpanegaa
