/- The walk over awake of chapter 12. -/
import Derived.Test.YtkjeeogifdmeoaaItems
import Derived.Test.YtkjeeogifdmeoaaSplit
set_option linter.unusedSimpArgs false
set_option linter.unusedVariables false
namespace Go.Proofs.Ytkjeeogifdmeoaa
open Go.RowKit

theorem slb_ro {G : Gnd} {q : Nat} {bs : List UInt8} {t : TypeId} {fr : Nat × Nat} (h : G.ro q = some (.cells (bs.map byteV).toArray t fr)) (hl : bs.length ≤ maxLen) : SlB (cellR G.ro) (.slice (some ⟨q, 0, none⟩) bs.length bs.length) bs := by
  refine ⟨⟨_, _, rfl, Nat.le_refl _, hl, fun j u hj => ⟨_, rfl, ?_⟩⟩, fun n c e => by cases e⟩
  have e : (⟨q, 0, none⟩ : Addr).add j = ⟨q, j, none⟩ := by unfold Addr.add; split <;> simp_all
  rw [e]
  simp only [cellR, h]
  simpa using hj
theorem law_wrong_at {G : Gnd} {w : World} {l : List Asrt} (H : Sat G w l) : Calls Try.prog 14 #[.agg #[.int .i64 101, .bool true]] w fun e w' => e = .returned (.bool true) ∧ Sat G w' l :=
  (law_wrong 101 true w).mono (by rintro e w' ⟨rfl, hb⟩; exact ⟨rfl, H.below hb⟩)
def it (k s : Int) (v : Value) (e l : Bool) : ItD := ⟨k, s, v, e, l, false, 0, 0, 0, 0, 0, 0, false, false, .slice none 0 0⟩
set_option maxHeartbeats 4000000 in
set_option maxRecDepth 100000 in
theorem law_awake {G : Gnd} {w : World} {l : List Asrt} (H : Sat G w l) :
    Calls Try.prog 8 #[] w fun e w' => e = .returned (.bool true) ∧ ∃ G', G.le G' ∧ Sat G' w' l := by
  refine calls_any fun K hK => ?_
  have hnew := as_new H 100 (by decide) (by decide)
  clear H
  go_enter Try.func8, Try.ntmps8
  go_wp2_with fail
  (with_reducible refine hnew.mono ?_)
  clear hnew
  rintro e w1 ⟨p, rfl, S1⟩
  have hcv := Go.Lib.run_convert_bytes_const (P := Try.prog) w1 31 5 #[.int .u8 97, .int .u8 98] 2 2 Try.underlying31 Try.underlying5
  obtain ⟨G1, hG1, hq, T⟩ := (S1.new (.cells (([97, 98] : List UInt8).map byteV).toArray 5 (2, 3))).freeze
  have hb := slb_ro hq (by decide)
  change Sat _ (w1.alloc (.cells #[.int .u8 97, .int .u8 98] 5 (2, 3))) _ at T
  change SlB _ (.slice _ 2 2) _ at hb
  have hon := as_on T (it 1 3 _ true false) _ ⟨⟨_, _, _, rfl⟩, ⟨_, _, _, rfl⟩⟩ hb (by decide)
  rw [show asOn 100 idle (it 1 3 (.slice (some ⟨w1.heap.size, 0, none⟩) 2 2) true false) [97, 98] = ⟨⟨true, 3, [97, 98], true⟩, false, idle, false⟩ from rfl] at hon
  change Calls _ _ #[_, .agg #[.int .i64 1, .int .i64 3, .slice (some ⟨w1.heap.size, 0, none⟩) 2 2, .bool true, .bool false, .bool false, .int .i64 0, .int .i64 0, .int .i64 0, .int .i64 0, .int .i64 0, .int .i64 0, .bool false, .bool false, .slice none 0 0]] _ _ at hon
  clear hq hb T S1
  go_wp2_with fail
  (with_reducible refine hon.mono ?_)
  clear hon hcv
  rintro e w2 ⟨G2, u1, hG2, rfl, hu1, S2⟩
  obtain ⟨U1, cu1, rfl, -, -, -⟩ := hu1.form
  have S3 := (S2.alloc (.cells #[.int .i64 0, .slice U1 0 cu1, .bool false] 41)).newBlk #[.int .i64 0, .bool false] 43
  simp only [World.size_alloc] at S3
  clear S2 hu1
  go_upto_region 5 with fail
  refine wp_world S3 fun w3 S4 => ?_
  clear S3
  generalize w2.heap.size + 1 = a5 at *
  generalize w2.heap.size = a3 at *
  have hon := as_on S4.swap (it 0 3 (.slice none 0 0) false false) [] ⟨⟨_, _, _, rfl⟩, ⟨_, _, _, rfl⟩⟩ (SlB.nil _) (by decide)
  rw [show asOn 100 ⟨true, 3, [97, 98], true⟩ (it 0 3 (.slice none 0 0) false false) [] = ⟨⟨true, 3, [97, 98], true⟩, false, idle, true⟩ from rfl] at hon
  change Calls _ _ #[_, .agg #[.int .i64 0, .int .i64 3, .slice none 0 0, .bool false, .bool false, .bool false, .int .i64 0, .int .i64 0, .int .i64 0, .int .i64 0, .int .i64 0, .int .i64 0, .bool false, .bool false, .slice none 0 0]] _ _ at hon
  clear S4
  go_wp2_with fail
  (with_reducible refine hon.mono ?_)
  clear hon
  rintro e w4 ⟨G3, u2, hG3, rfl, hu2, S5⟩
  obtain ⟨U2, cu2, rfl, -, -, -⟩ := hu2.form
  have S6 := (S5.alloc (.cells #[.int .i64 0, .slice U2 0 cu2, .bool false] 41)).newBlk #[.int .i64 101, .bool true] 43
  simp only [World.size_alloc] at S6
  clear S5 hu2
  go_upto_region 6 with fail
  refine wp_world S6 fun w5 S7 => ?_
  clear S6
  generalize w4.heap.size + 1 = a8 at *
  generalize w4.heap.size = a6 at *
  have hcv := Go.Lib.run_convert_bytes_const (P := Try.prog) w5 31 5 #[.int .u8 99] 1 1 Try.underlying31 Try.underlying5
  obtain ⟨G4, hG4, hq, T⟩ := (S7.new (.cells (([99] : List UInt8).map byteV).toArray 5 (1, 2))).freeze
  have hb := slb_ro hq (by decide)
  change Sat _ (w5.alloc (.cells #[.int .u8 99] 5 (1, 2))) _ at T
  change SlB _ (.slice _ 1 1) _ at hb
  have hon := as_on T.swap (it 9 3 _ false true) _ ⟨⟨_, _, _, rfl⟩, ⟨_, _, _, rfl⟩⟩ hb (by decide)
  rw [show asOn 100 ⟨true, 3, [97, 98], true⟩ (it 9 3 (.slice (some ⟨w5.heap.size, 0, none⟩) 1 1) false true) [99] = ⟨idle, true, ⟨false, 3, [97, 98, 99], true⟩, false⟩ from rfl] at hon
  change Calls _ _ #[_, .agg #[.int .i64 9, .int .i64 3, .slice (some ⟨w5.heap.size, 0, none⟩) 1 1, .bool false, .bool true, .bool false, .int .i64 0, .int .i64 0, .int .i64 0, .int .i64 0, .int .i64 0, .int .i64 0, .bool false, .bool false, .slice none 0 0]] _ _ at hon
  clear hq hb T S7
  go_wp2_with fail
  (with_reducible refine hon.mono ?_)
  clear hon hcv
  rintro e w6 ⟨G5, u3, hG5, rfl, hu3, S8⟩
  obtain ⟨U3, cu3, rfl, -, -, -⟩ := hu3.form
  have S9 := (S8.newBlk #[.int .i64 3, .slice U3 3 cu3, .bool true] 41).newBlk #[.int .i64 0, .bool false] 43
  simp only [World.size_alloc] at S9
  clear S8
  go_upto_region 7 with fail
  refine wp_world S9 fun w7 S10 => ?_
  clear S9
  generalize w6.heap.size + 1 = a11 at *
  generalize w6.heap.size = a9 at *
  have hcv := Go.Lib.run_convert_bytes_const (P := Try.prog) w7 31 5 #[.int .u8 97, .int .u8 98, .int .u8 99, .int .u8 100, .int .u8 101] 5 5 Try.underlying31 Try.underlying5
  obtain ⟨G6, hG6, hq, T⟩ := (S10.new (.cells (([97, 98, 99, 100, 101] : List UInt8).map byteV).toArray 5 (5, 6))).freeze
  have hb := slb_ro hq (by decide)
  change Sat _ (w7.alloc (.cells #[.int .u8 97, .int .u8 98, .int .u8 99, .int .u8 100, .int .u8 101] 5 (5, 6))) _ at T
  change SlB _ (.slice _ 5 5) _ at hb
  have hsp := as_split T 1 _ _ true 2 (by decide) (by decide) (by decide) (by decide) hb (by decide)
  change Calls _ _ #[.int .i64 1, .slice (some ⟨w7.heap.size, 0, none⟩) 5 5, .bool true, .int .i64 2] _ _ at hsp
  clear hq hb T S10
  go_wp2_with fail
  (with_reducible refine hsp.mono ?_)
  clear hsp hcv
  rintro e w8 ⟨G7, u4, F, hG7, rfl, ⟨FA, fc4, rfl, -, -, -⟩, -, f1, f2, f3, S11⟩
  obtain ⟨n, hn⟩ : ∃ n, n = F.length := ⟨_, rfl⟩
  rw [← hn] at f1 f2 f3 ⊢
  have hn3 : n = 3 := by
    simp only [List.length_cons, List.length_nil] at f2 f3
    omega
  clear f1 f2 f3
  subst hn3
  have HU3 := Lib.hid (((hu3.mono hG6).mono hG7))
  clear hu3 hn
  have hwr := law_wrong_at S11
  have c5 := (S11.re [4, 0, 1, 2, 3]).cell 0
  have c8 := (S11.re [3, 0, 1, 2]).cell 0
  have c81 := (S11.re [3, 0, 1, 2]).cell 1
  clear S11
  go_wp2_with fail
  (with_reducible refine hwr.mono ?_)
  clear hwr c5 c8 c81
  rintro e w9 ⟨rfl, S12⟩
  have c11 := S12.cell 0
  have c9 := S12.swap.cell 0
  have c91 := S12.swap.cell 1
  have c92 := S12.swap.cell 2
  have hcv := conv_bytes _ _ w9 (HU3.out.sat S12).1
  change Sem.run _ (convert _ _ (.slice U3 3 cu3)) _ = _ at hcv
  have heq : (bstr [97, 98, 99]) = ({ data := #[97, 98, 99] } : ByteArray) := rfl
  rw [heq] at hcv
  go_wp2_with fail
  exact hK.out _ _ ⟨rfl, G7, ((((((hG1.trans hG2).trans hG3).trans hG4).trans hG5).trans hG6).trans hG7), S12.drop.drop.drop.drop.drop⟩
end Go.Proofs.Ytkjeeogifdmeoaa
