/- The walk over awake of chapter 10. -/
import Derived.Test.YtdfdcenbpanegaaEqI
set_option linter.unusedSimpArgs false
set_option linter.unusedVariables false
namespace Go.Proofs.Ytdfdcenbpanegaa
open Go.RowKit

theorem slb_ro {G : Gnd} {q : Nat} {bs : List UInt8} {t : TypeId} {fr : Nat × Nat} (h : G.ro q = some (.cells (bs.map byteV).toArray t fr)) (hl : bs.length ≤ maxLen) : SlB (cellR G.ro) (.slice (some ⟨q, 0, none⟩) bs.length bs.length) bs := by
  refine ⟨⟨_, _, rfl, Nat.le_refl _, hl, fun j u hj => ⟨_, rfl, ?_⟩⟩, fun n c e => by cases e⟩
  have e : (⟨q, 0, none⟩ : Addr).add j = ⟨q, j, none⟩ := by unfold Addr.add; split <;> simp_all
  rw [e]
  simp only [cellR, h]
  simpa using hj
theorem info_u8' : (Try.prog.info? 5).map (fun i => (i.zero, i.size, i.bytes)) = some (some (.int .u8 0), 1, 1) := by kernel_rfl
set_option maxHeartbeats 8000000 in
set_option maxRecDepth 100000 in
theorem law_awake {G : Gnd} {w : World} {l : List Asrt} (H : Sat G w l) :
    Calls Try.prog 8 #[] w fun e w' => e = .returned (.bool true) ∧ ∃ G', G.le G' ∧ Sat G' w' l := by
  refine calls_any fun K hK => ?_
  have hcv := Go.Lib.run_convert_bytes_const (P := Try.prog) w 22 5 #[.int .u8 1, .int .u8 97, .int .u8 98, .int .u8 0] 4 4 Try.underlying22 Try.underlying5
  obtain ⟨G1, hG1, hq, T⟩ := (H.new (.cells (([1, 97, 98, 0] : List UInt8).map byteV).toArray 5 (4, 5))).freeze
  have hb := slb_ro hq (by decide)
  change Sat _ (w.alloc (.cells #[.int .u8 1, .int .u8 97, .int .u8 98, .int .u8 0] 5 (4, 5))) _ at T
  change SlB _ (.slice _ 4 4) _ at hb
  have hp := pl_parse T 0 8 1 _ hb (by decide)
  rw [show parseS 0 8 1 [1, 97, 98, 0] = ⟨(0, false), ⟨0, 1, false, false, false, 4, 0, 0, 0, 0, 0, false, false⟩, [97, 98], []⟩ from rfl] at hp
  clear hq hb T H
  simp only [ItS.cs] at hp
  go_enter Try.func8, Try.ntmps8
  go_wp2_with fail
  (with_reducible refine hp.mono ?_)
  clear hp hcv
  rintro e w2 ⟨G2, v1, u1, hG2, rfl, hv1, hu1, S2⟩
  obtain ⟨VA, vc, rfl, -, -, -⟩ := hv1.form
  obtain ⟨UA, uc, rfl, -⟩ := id hu1
  have S3 := (S2.newBlk #[.int .i64 0, .int .i64 1, .slice VA 2 vc, .bool false, .bool false, .bool false, .int .i64 4, .int .i64 0, .int .i64 0, .int .i64 0, .int .i64 0, .int .i64 0, .bool false, .bool false, .slice UA 0 uc] 28).newBlk #[.int .i64 0, .bool false] 31
  simp only [World.size_alloc] at S3
  have HV1 := Lib.hid hv1
  clear S2 hv1 hu1
  go_upto_region 2 with fail
  refine wp_world S3 fun w3 S4 => ?_
  clear S3
  generalize w2.heap.size + 1 = a2 at *
  generalize w2.heap.size = a1 at *
  have hmk := run_make_row' (P := Try.prog) 22 5 (.int .u8 0) 1 Try.underlying22 info_u8' rfl .i64 .i64 4 (by omega) (by omega)
  change ∀ w, Sem.run _ (Instr.makeSlice _ (.int .i64 4) (.int .i64 4)) w = _ at hmk
  have hmc : madeCells #[Value.int .u8 0] 4 = #[.int .u8 0, .int .u8 0, .int .u8 0, .int .u8 0] := by first | rfl | decide | (simp [madeCells]; done) | (unfold madeCells; rfl) | kernel_rfl
  simp only [hmc] at hmk
  obtain ⟨G3, hG3, hq, T⟩ := (S4.new (.cells (([0, 0, 0, 0] : List UInt8).map byteV).toArray 5)).freeze
  have hb := slb_ro hq (by decide)
  change Sat _ (w3.alloc (.cells #[.int .u8 0, .int .u8 0, .int .u8 0, .int .u8 0] 5)) _ at T
  change SlB _ (.slice _ 4 4) _ at hb
  have hp := pl_parse T 8 0 3 _ hb (by decide)
  rw [show parseS 8 0 3 [0, 0, 0, 0] = ⟨(101, false), ⟨8, 3, false, false, false, 0, 0, 0, 0, 0, 0, false, false⟩, [], []⟩ from rfl] at hp
  clear hq hb T S4
  simp only [ItS.cs] at hp
  go_wp2_with fail
  (with_reducible refine hp.mono ?_)
  clear hp hmk
  rintro e w4 ⟨G4, v2, u2, hG4, rfl, hv2, hu2, S5⟩
  obtain ⟨VB, vd, rfl, -, -, -⟩ := hv2.form
  obtain ⟨UB, ud, rfl, -⟩ := id hu2
  have S6 := (S5.alloc (.cells #[.int .i64 8, .int .i64 3, .slice VB 0 vd, .bool false, .bool false, .bool false, .int .i64 0, .int .i64 0, .int .i64 0, .int .i64 0, .int .i64 0, .int .i64 0, .bool false, .bool false, .slice UB 0 ud] 28)).newBlk #[.int .i64 101, .bool false] 31
  simp only [World.size_alloc] at S6
  clear S5 hv2 hu2
  go_upto_region 3 with fail
  refine wp_world S6 fun w5 S7 => ?_
  clear S6
  generalize w4.heap.size + 1 = a4 at *
  generalize w4.heap.size = a3 at *
  have hcv := Go.Lib.run_convert_bytes_const (P := Try.prog) w5 22 5 #[.int .u8 49] 1 1 Try.underlying22 Try.underlying5
  obtain ⟨G5, hG5, hq, T⟩ := (S7.new (.cells (([49] : List UInt8).map byteV).toArray 5 (1, 2))).freeze
  have hb := slb_ro hq (by decide)
  change Sat _ (w5.alloc (.cells #[.int .u8 49] 5 (1, 2))) _ at T
  change SlB _ (.slice _ 1 1) _ at hb
  have hp := pl_parse T 6 0 0 _ hb (by decide)
  rw [show parseS 6 0 0 [49] = ⟨(106, true), ⟨6, 0, false, false, false, 0, 0, 0, 0, 0, 0, false, false⟩, [], []⟩ from rfl] at hp
  clear hq hb T S7
  simp only [ItS.cs] at hp
  go_wp2_with fail
  (with_reducible refine hp.mono ?_)
  clear hp hcv
  rintro e w6 ⟨G6, v3, u3, hG6, rfl, hv3, hu3, S8⟩
  obtain ⟨VC, ve, rfl, -, -, -⟩ := hv3.form
  obtain ⟨UC, ue, rfl, -⟩ := id hu3
  have S9 := (S8.alloc (.cells #[.int .i64 6, .int .i64 0, .slice VC 0 ve, .bool false, .bool false, .bool false, .int .i64 0, .int .i64 0, .int .i64 0, .int .i64 0, .int .i64 0, .int .i64 0, .bool false, .bool false, .slice UC 0 ue] 28)).newBlk #[.int .i64 106, .bool true] 31
  simp only [World.size_alloc] at S9
  clear S8 hv3 hu3
  go_upto_region 4 with fail
  refine wp_world S9 fun w7 S10 => ?_
  clear S9
  generalize w6.heap.size + 1 = a6 at *
  generalize w6.heap.size = a5 at *
  have c2 := (S10.re [3, 0, 1, 2]).cell 2
  have c6 := (S10.re [3, 0, 1, 2]).cell 6
  have d0 := (S10.re [2, 0, 1]).cell 0
  have d1 := (S10.re [2, 0, 1]).cell 1
  have hcv := conv_bytes _ _ w7 (((((HV1.out.mono hG3).mono hG4).mono hG5).mono hG6).sat S10).1
  change Sem.run _ (convert _ _ (.slice VA 2 vc)) _ = _ at hcv
  have heq : (bstr [97, 98]) = ({ data := #[97, 98] } : ByteArray) := rfl
  rw [heq] at hcv
  have hok := pl_ok S10 0 false
  clear S10
  go_wp2_with fail
  (with_reducible refine hok.mono ?_)
  clear hok c2 c6 d0 d1 hcv
  rintro e w8 ⟨rfl, S11⟩
  have c0 := (S11.swap).cell 0
  have c1 := (S11.swap).cell 1
  have d0 := (S11).cell 0
  have d1 := (S11).cell 1
  have hk9 := pl_known 9
  have hk10 := pl_known 10
  simp only [show decide ((0 : Int) ≤ 9 ∧ (9 : Int) ≤ 9) = true from rfl] at hk9
  simp only [show decide ((0 : Int) ≤ 10 ∧ (10 : Int) ≤ 9) = false from rfl] at hk10
  rw [show ((0 : Int) == 0 && !false) = true from rfl]
  go_wp2_with fail
  (with_reducible refine (hk9 _).mono ?_)
  rintro e w9 ⟨rfl, rfl⟩
  go_wp2_with fail
  (with_reducible refine (hk10 _).mono ?_)
  rintro e w9 ⟨rfl, rfl⟩
  go_wp2_with fail
  exact hK.out _ _ ⟨rfl, G6, ((((hG1.trans hG2).trans hG3).trans hG4).trans hG5).trans hG6, S11.drop.drop.drop.drop⟩
end Go.Proofs.Ytdfdcenbpanegaa
