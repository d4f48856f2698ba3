/- The walk of the law SettingsFrames. -/
import Derived.Test.YtohknaoklcehaaaFrt
import Derived.Test.YtohknaoklcehaaaFrm
import Derived.Deep.QuietTactic
import Derived.BigQuiet
set_option linter.unusedSimpArgs false
set_option linter.unusedVariables false
namespace Go.Proofs.Ytohknaoklcehaaa
open Go.RowKit

theorem wire_cons (p : Int × Int) (ps : List (Int × Int)) : wire (p :: ps) = bigOf p.1.toNat 2 ++ (bigOf p.2.toNat 4 ++ wire ps) := by simp [wire]
theorem pairsIn_wire : ∀ ps : List (Int × Int), ps.any wrongP = false → pairsIn (wire ps) = ps
  | [], _ => rfl
  | (a, b) :: ps, h => by
    rw [List.any_cons, Bool.or_eq_false_iff] at h
    obtain ⟨h1, h2⟩ := h
    have hr : 0 ≤ a ∧ a ≤ 65535 ∧ 0 ≤ b ∧ b ≤ 4294967295 := by unfold wrongP at h1; simpa using h1
    rw [pairsIn_step (by rw [wire_length]; simp; omega), wire_cons]
    rw [List.take_left' (bigOf_length _ _), List.drop_left' (bigOf_length _ _), List.take_left' (bigOf_length _ _), List.drop_left' (bigOf_length _ _), pairsIn_wire ps h2]
    simp only [numOf_bigOf]
    rw [Nat.mod_eq_of_lt (by omega), Nat.mod_eq_of_lt (by omega)]
    simp only [Int.toNat_of_nonneg hr.1, Int.toNat_of_nonneg hr.2.2.1]
theorem parse_wire (ps : List (Int × Int)) (h : ps.any wrongP = false) : parseS 4 0 0 (wire ps) = ⟨(0, false), ⟨4, 0, false, false, false, 0, 0, 0, 0, 0, 0, false, false⟩, [], ps⟩ := by
  have h1 : hasF 0 1 = false := by decide
  have h2 : lenF 4 0 (wire ps).length = (0, false) := by
    unfold lenF
    rw [wire_length, h1]
    simp
  unfold parseS
  rw [h2]
  simp [placeBad, readS, h1, bareS, pairsIn_wire ps h]
theorem parse_ack : parseS 4 1 0 [] = ⟨(0, false), ⟨4, 0, false, false, true, 0, 0, 0, 0, 0, 0, false, false⟩, [], []⟩ := by
  have h1 : hasF 1 1 = true := by decide
  have h2 : lenF 4 1 0 = (0, false) := by unfold lenF; rw [h1]; simp
  unfold parseS
  rw [show ([] : List UInt8).length = 0 from rfl, h2]
  simp [placeBad, readS, h1, bareS, pairsIn]
theorem Sat.drewQ5 {G : Gnd} {w : World} {l : List Asrt} (H : Sat G w l) (n : Nat) : Sat G (w.drewN n) l := H.below ⟨rfl, rfl, rfl, Nat.le_refl _, fun _ _ => rfl⟩
set_option maxHeartbeats 16000000 in
set_option maxRecDepth 100000 in
theorem settingsFrames_walk (w : World) (v0 : Value) (h0 : ∃ d, ArgV w (.sl 16 (.agg [.int .i64, .int .i64])) v0 d) :
    Calls Try.prog 7 #[v0] w fun e w' => e = .returned (.bool true) ∧ Below w.heap.size w w' := by
  refine calls_any fun K hK => ?_
  obtain ⟨_, h0⟩ := h0
  obtain ⟨l, h0⟩ := arg_sl h0
  obtain ⟨hp, hb⟩ := pairs_of h0
  have S0 := Sat.start w
  have hG0 := Gnd.le.rfl' (G := Gnd.of w)
  generalize l.map dpair = ps at *
  have HP := Lib.hid hp
  obtain ⟨A, c, rfl, hmx, hel⟩ := hp
  have HEL := Lib.hid hel
  clear hel hb h0
  by_cases hlong : 150 < (ps.length : Int)
  · go_enter Try.func7, Try.ntmps7
    go_wp2_with fail
    (with_reducible refine (law_awake (S0)).mono ?_); rintro e w9 ⟨G9, rfl, hG9, S9⟩; go_wp2_with fail; exact hK.out _ _ ⟨rfl, S9.above (Gnd.le.trans (hG0) hG9)⟩
  · go_enter Try.func7, Try.ntmps7
    go_wp2_with fail
    go_loopw [3, 19] (fun b i wr => ∃ k : Nat, k ≤ ps.length ∧ i = .int .i64 k ∧ b = .bool (!(ps.take k).any wrongP) ∧ Sat (Gnd.of w) wr []) (fun _ i _ => ps.length - (intOf i).toNat)
    case atStart => exact ⟨0, Nat.zero_le _, rfl, rfl, S0⟩
    case round =>
      obtain ⟨k, hk, rfl, rfl, S⟩ := hrel
      clear S0
      by_cases hlt : k < ps.length
      · have hx := List.getElem?_eq_getElem hlt
        have htk := ptake hx
        obtain ⟨a, b, off, rfl, hab, e1, e2⟩ := HEL.out k _ hx
        generalize ps[k] = x at *
        obtain ⟨xa, xb⟩ := x
        have d0 := S.cellR e1
        have d1 := S.cellR e2
        have HRR : Hid ((!(ps.take (k + 1)).any wrongP) = ((!(ps.take k).any wrongP) && !wrongP (xa, xb))) := Lib.hid (by rw [htk, List.any_append]; simp)
        have HS := Lib.hid (S.newBlk #[.int .i64 xa, .int .i64 xb] 31)
        clear e1 e2 hx htk S
        have HWR : Hid (wrongP (xa, xb) = !(decide (0 ≤ xa ∧ xa ≤ 65535 ∧ 0 ≤ xb ∧ xb ≤ 4294967295))) := Lib.hid rfl
        cases hR : (!(ps.take k).any wrongP) with
        | false =>
          have HF : Hid ((!(ps.take (k + 1)).any wrongP) = false) := Lib.hid (by rw [HRR.out, hR]; rfl)
          clear hR
          go_wp2_with fail
          go_roundw
          case rel => exact ⟨k + 1, by omega, by go_num, by rw [HF.out], HS.out.drop⟩
          case measure => simp [intOf]; omega
        | true =>
          by_cases h1 : 0 ≤ xa
          · by_cases h2 : xa < 65536
            · by_cases h3 : 0 ≤ xb
              · by_cases h4 : xb < 4294967296
                · have HF : Hid ((!(ps.take (k + 1)).any wrongP) = true) := Lib.hid (by rw [HRR.out, hR, HWR.out, decide_eq_true (by omega)]; rfl)
                  clear hR
                  go_wp2_with fail
                  go_roundw
                  case rel => exact ⟨k + 1, by omega, by go_num, by rw [HF.out], HS.out.drop⟩
                  case measure => simp [intOf]; omega
                · have HF : Hid ((!(ps.take (k + 1)).any wrongP) = false) := Lib.hid (by rw [HRR.out, hR, HWR.out, decide_eq_false (by omega)]; rfl)
                  clear hR
                  go_wp2_with fail
                  go_roundw
                  case rel => exact ⟨k + 1, by omega, by go_num, by rw [HF.out], HS.out.drop⟩
                  case measure => simp [intOf]; omega
              · have HF : Hid ((!(ps.take (k + 1)).any wrongP) = false) := Lib.hid (by rw [HRR.out, hR, HWR.out, decide_eq_false (by omega)]; rfl)
                clear hR
                go_wp2_with fail
                go_roundw
                case rel => exact ⟨k + 1, by omega, by go_num, by rw [HF.out], HS.out.drop⟩
                case measure => simp [intOf]; omega
            · have HF : Hid ((!(ps.take (k + 1)).any wrongP) = false) := Lib.hid (by rw [HRR.out, hR, HWR.out, decide_eq_false (by omega)]; rfl)
              clear hR
              go_wp2_with fail
              go_roundw
              case rel => exact ⟨k + 1, by omega, by go_num, by rw [HF.out], HS.out.drop⟩
              case measure => simp [intOf]; omega
          · have HF : Hid ((!(ps.take (k + 1)).any wrongP) = false) := Lib.hid (by rw [HRR.out, hR, HWR.out, decide_eq_false (by omega)]; rfl)
            clear hR
            go_wp2_with fail
            go_roundw
            case rel => exact ⟨k + 1, by omega, by go_num, by rw [HF.out], HS.out.drop⟩
            case measure => simp [intOf]; omega
      · have hkk : k = ps.length := by omega
        have htk : ps.take k = ps := List.take_of_length_le (by omega)
        rw [htk]
        clear htk
        cases hw : ps.any wrongP with
        | true =>
          have hfr := sf_frame_wrong S _ ps HP.out hw
          clear S hw
          go_wp2_with fail
          (with_reducible refine hfr.mono ?_)
          clear hfr
          rintro e w1 ⟨rfl, S1⟩
          have S2 := S1.newBlk #[.int .i64 0, .int .i64 0, .int .i64 0, .slice none 0 0] 49
          have hfe := frame_equal S2 0 0 0 0 0 0 (.slice none 0 0) (.slice none 0 0) [] [] (fun W _ => (SlB.nil _).1) (fun W _ => (SlB.nil _).1)
          rw [decide_eq_true ⟨rfl, rfl, rfl, rfl⟩] at hfe
          have c0 := S2.cell 0
          have c1 := S2.cell 1
          have c2 := S2.cell 2
          have c3 := S2.cell 3
          clear S1 S2
          go_wp2_with fail
          (with_reducible refine hfe.mono ?_)
          clear hfe c0 c1 c2 c3
          rintro e w2 ⟨rfl, S3⟩
          go_wp2_with fail
          (with_reducible refine (law_awake (S3)).mono ?_); rintro e w9 ⟨G9, rfl, hG9, S9⟩; go_wp2_with fail; exact hK.out _ _ ⟨rfl, S9.above (Gnd.le.trans (hG0) hG9)⟩
        | false =>
          by_cases hl : 100 < ps.length
          · have hfr := sf_frame_full S _ ps HP.out hw hl
            have hl2 : (100 : Int) < ps.length := by omega
            clear S hw
            go_wp2_with fail
            (with_reducible refine hfr.mono ?_)
            clear hfr
            rintro e w1 ⟨rfl, S1⟩
            have S2 := S1.newBlk #[.int .i64 0, .int .i64 0, .int .i64 0, .slice none 0 0] 49
            have hfe := frame_equal S2 0 0 0 0 0 0 (.slice none 0 0) (.slice none 0 0) [] [] (fun W _ => (SlB.nil _).1) (fun W _ => (SlB.nil _).1)
            rw [decide_eq_true ⟨rfl, rfl, rfl, rfl⟩] at hfe
            have c0 := S2.cell 0
            have c1 := S2.cell 1
            have c2 := S2.cell 2
            have c3 := S2.cell 3
            clear S1 S2
            go_wp2_with fail
            (with_reducible refine hfe.mono ?_)
            clear hfe c0 c1 c2 c3
            rintro e w2 ⟨rfl, S3⟩
            go_wp2_with fail
            (with_reducible refine (law_awake (S3)).mono ?_); rintro e w9 ⟨G9, rfl, hG9, S9⟩; go_wp2_with fail; exact hK.out _ _ ⟨rfl, S9.above (Gnd.le.trans (hG0) hG9)⟩
          · have hfr := sf_frame S _ ps HP.out hw (by omega)
            have hl2 : ¬ ((100 : Int) < ps.length) := by omega
            have HW := Lib.hid hw
            clear S hw
            go_wp2_with fail
            (with_reducible refine hfr.mono ?_)
            clear hfr
            rintro e w1 ⟨u, G1, hG1, rfl, hu, S1⟩
            obtain ⟨UA, uc, rfl, -, -, -⟩ := hu.form
            have S2 := S1.newBlk #[.int .i64 4, .int .i64 0, .int .i64 0, .slice UA (wire ps).length uc] 49
            have hpa := pl_parse S2 4 0 0 _ hu (by rw [wire_length]; omega)
            rw [parse_wire ps HW.out] at hpa
            simp only [ItS.cs] at hpa
            have c0 := S2.cell 0
            have c1 := S2.cell 1
            have c2 := S2.cell 2
            have c3 := S2.cell 3
            clear S1 S2 hu
            go_wp2_with fail
            (with_reducible refine hpa.mono ?_)
            clear hpa c0 c1 c2 c3
            generalize w1.heap.size = p1
            rintro e w2 ⟨G2, v2, q2, hG2, rfl, hv2, hq2, S3⟩
            obtain ⟨VA, vc, rfl, -, -, -⟩ := hv2.form
            have HQ := Lib.hid hq2
            obtain ⟨QA, qc, rfl, hqc, hqm, -⟩ := hq2
            have S4 := (S3.newBlk #[.int .i64 4, .int .i64 0, .slice VA 0 vc, .bool false, .bool false, .bool false, .int .i64 0, .int .i64 0, .int .i64 0, .int .i64 0, .int .i64 0, .int .i64 0, .bool false, .bool false, .slice QA ps.length qc] 54).newBlk #[.int .i64 0, .bool false] 38
            simp only [World.size_alloc] at S4
            clear S3 hv2
            go_upto_region 15 with fail
            refine wp_world S4 fun w3 S5 => ?_
            clear S4
            generalize w2.heap.size + 1 = p3 at *
            generalize w2.heap.size = p2 at *
            have b0 := S5.cell 0
            have b1 := S5.cell 1
            have hok := pl_ok S5 0 false
            rw [show ((0 : Int) == 0 && !false) = true from rfl] at hok
            clear S5
            go_wp2_with fail
            (with_reducible refine hok.mono ?_)
            clear hok b0 b1
            rintro e w4 ⟨rfl, S6⟩
            have y5 := S6.swap.cell 5
            have y14 := S6.swap.cell 14
            have z2 := S6.pull2.cell 2
            have HS6 := Lib.hid S6
            clear S6
            go_wp2_with fail
            go_loopw [108] (fun i wr => ∃ k : Nat, k ≤ ps.length ∧ i = .int .i64 k ∧ Sat G2 wr [blk p2 #[.int .i64 4, .int .i64 0, .slice VA 0 vc, .bool false, .bool false, .bool false, .int .i64 0, .int .i64 0, .int .i64 0, .int .i64 0, .int .i64 0, .int .i64 0, .bool false, .bool false, .slice QA ps.length qc] 54]) (fun i _ => ps.length - (intOf i).toNat)
            case atStart => exact ⟨0, Nat.zero_le _, rfl, HS6.out.drop.drop2⟩
            case round =>
              obtain ⟨k, hk, rfl, S⟩ := hrel
              clear y5 y14 z2
              by_cases hlt : k < ps.length
              · have hx := List.getElem?_eq_getElem hlt
                obtain ⟨a, b, off, rfl, hab, e1, e2⟩ := HEL.out k _ hx
                obtain ⟨QA', qc', e, -, -, hq⟩ := HQ.out
                obtain ⟨e3, -, -⟩ := Value.slice.inj e
                subst e3
                obtain ⟨g, rfl, q1, q2⟩ := hq k _ hx
                generalize ps[k] = x at *
                obtain ⟨xa, xb⟩ := x
                have d0 := S.cellR (cellR_mono (hG1.trans hG2).ro e1)
                have d1 := S.cellR (cellR_mono (hG1.trans hG2).ro e2)
                have y0 := S.cellR q1
                have y1 := S.cellR q2
                have y14 := S.cell 14
                have he := eq_arr2 xa xb xa xb
                rw [decide_eq_true ⟨rfl, rfl⟩] at he
                have hkn : (k : Int) < ps.length := by omega
                have HS := Lib.hid S
                clear e1 e2 hx S e hq q1 q2
                go_upto_region 20 with fail
                go_quiet (fail)
                go_wp2_with fail
                go_roundw
                case rel => exact ⟨k + 1, by omega, by go_num, HS.out.drewQ5 _⟩
                case measure => simp [intOf]; omega
              · have hkk : k = ps.length := by omega
                have hsa := set_ack wr
                have HS := Lib.hid S
                clear S
                go_wp2_with fail
                (with_reducible refine hsa.mono ?_)
                clear hsa
                rintro e w5 ⟨rfl, hb5⟩
                have S7 := HS.out.below hb5
                have hpa := pl_parse S7 4 1 0 (.slice none 0 0) (bs := []) (SlB.nil _) (by decide)
                rw [parse_ack] at hpa
                simp only [ItS.cs] at hpa
                clear S7 hb5
                go_wp2_with fail
                (with_reducible refine hpa.mono ?_)
                clear hpa
                rintro e w6 ⟨G3, v3, q3, hG3, rfl, hv3, hq3, S8⟩
                obtain ⟨VA3, vc3, rfl, -, -, -⟩ := hv3.form
                obtain ⟨QA3, qc3, rfl, -⟩ := id hq3
                have S9 := (S8.newBlk #[.int .i64 4, .int .i64 0, .slice VA3 0 vc3, .bool false, .bool false, .bool true, .int .i64 0, .int .i64 0, .int .i64 0, .int .i64 0, .int .i64 0, .int .i64 0, .bool false, .bool false, .slice QA3 0 qc3] 54).newBlk #[.int .i64 0, .bool false] 38
                simp only [World.size_alloc] at S9
                clear S8 hv3 hq3
                go_upto_region 24 with fail
                refine wp_world S9 fun w7 S10 => ?_
                clear S9
                generalize w6.heap.size + 1 = p5 at *
                generalize w6.heap.size = p4 at *
                have b0 := S10.cell 0
                have b1 := S10.cell 1
                have hok := pl_ok S10 0 false
                rw [show ((0 : Int) == 0 && !false) = true from rfl] at hok
                clear S10
                go_wp2_with fail
                (with_reducible refine hok.mono ?_)
                clear hok b0 b1
                rintro e w8 ⟨rfl, S11⟩
                have y5 := S11.swap.cell 5
                have y0 := S11.swap.cell 0
                have y14 := S11.swap.cell 14
                have HS11 := Lib.hid S11
                clear S11
                go_wp2_with fail
                (with_reducible refine (law_awake (HS11.out)).mono ?_); rintro e w9 ⟨G9, rfl, hG9, S9⟩; go_wp2_with fail; exact hK.out _ _ ⟨rfl, S9.above (Gnd.le.trans (((hG1.trans hG2).trans hG3)) hG9)⟩
end Go.Proofs.Ytohknaoklcehaaa
