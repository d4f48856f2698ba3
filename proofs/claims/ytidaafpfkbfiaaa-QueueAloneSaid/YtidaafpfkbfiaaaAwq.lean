/- The law's ref of an item; the fixed answer. -/
import Derived.Test.YtidaafpfkbfiaaaClear
import Derived.Lib.SmallJoins
set_option linter.unusedSimpArgs false
set_option linter.unusedVariables false
namespace Go.Proofs.Ytidaafpfkbfiaaa
open Go.RowKit

theorem slb_ro {G : Gnd} {q n m : Nat} {bs : List UInt8} (h : G.ro q = some (.cells (bs.map byteV).toArray 5 (n, m))) (hl : bs.length ≤ maxLen) : SlB (cellR G.ro) (.slice (some ⟨q, 0, none⟩) bs.length bs.length) bs := by
  refine ⟨⟨_, _, rfl, Nat.le_refl _, hl, fun j u hj => ⟨_, rfl, ?_⟩⟩, fun n c e => by cases e⟩
  have e : (⟨q, 0, none⟩ : Addr).add j = ⟨q, j, none⟩ := by unfold Addr.add; split <;> simp_all
  rw [e]
  simp only [cellR, h]
  simpa using hj
section
variable {G : Gnd} {w w' : World} {l : List Asrt} {q : Nat} {Q : List (List It)} {B I : Int}
theorem law_ref (H : Sat G w l) (n : Int) (hv bv : Value) (h b : List UInt8) (hh : ∀ W, Sat G W l → SlB W.cell? hv h) (hb : ∀ W, Sat G W l → SlB W.cell? bv b) :
    Calls Try.prog 9 #[.agg #[.int .i64 n, hv, bv]] w fun e w' => e = .returned (.agg #[.int .i64 n, .string (bstr h), .string (bstr b)]) ∧ Sat G w' l := by
  refine calls_any fun K hK => ?_
  obtain ⟨A, c, rfl, -, -, -⟩ := (hh w H).form
  obtain ⟨D, d, rfl, -, -, -⟩ := (hb w H).form
  have S1 := (H.newBlk #[.int .i64 n, .slice A h.length c, .slice D b.length d] 24).newBlk #[.int .i64 0, .string ByteArray.empty, .string ByteArray.empty] 31
  simp only [World.size_alloc] at S1
  have HH := Lib.hid hh
  have HB := Lib.hid hb
  clear H hh hb
  go_enter Try.func9, Try.ntmps9
  go_upto_region 1 with fail
  generalize w.heap.size + 1 = r at *
  generalize w.heap.size = p at *
  refine wp_world S1 fun w1 S2 => ?_
  clear S1
  have cv1 := conv_bytes _ h _ ((HH.out _ S2.drop.drop).1)
  have cv2 := conv_bytes _ b _ ((HB.out _ S2.drop.drop).1)
  have c0 := S2.swap.cell 0
  have c1 := S2.swap.cell 1
  have c2 := S2.swap.cell 2
  have d0 := S2.cell 0
  have d1 := S2.cell 1
  have d2 := S2.cell 2
  have f0 := S2.frozen 0
  have f1 := S2.frozen 1
  have f2 := S2.frozen 2
  have S3 := ((S2.setCell 0 (.int .i64 n)).setCell 1 (.string (bstr h))).setCell 2 (.string (bstr b))
  change Sat _ _ (blk r #[.int .i64 n, .string (bstr h), .string (bstr b)] _ :: _) at S3
  have HS := Lib.hid S3
  clear S2 S3
  go_wp2_with fail
  refine ret_cell HS.out 2 31 rfl _ rfl Try.underlying31 rfl (by kernel_rfl) rfl ?_
  exact hK.out _ _ ⟨rfl, HS.out.drop.drop⟩
set_option maxHeartbeats 4000000 in
set_option maxRecDepth 100000 in
theorem law_awake (H : Sat G w l) : Calls Try.prog 7 #[] w fun e w' => e = .returned (.bool true) ∧ ∃ G', G.le G' ∧ Sat G' w' l := by
  refine calls_any fun K hK => ?_
  have hnew := qu_new H 2 10 5 (by decide)
  rw [show ((2 : Nat) : Int) = 2 from rfl, show List.replicate 2 ([] : List It) = [[], []] from rfl] at hnew
  clear H
  have hw0 : QWf [[], []] 10 5 := ⟨by decide, by decide, by decide, by decide, by decide, by decide, by simp [qsz]⟩
  go_enter Try.func7, Try.ntmps7
  go_wp2_with fail
  (with_reducible refine hnew.mono ?_)
  clear hnew
  rintro e w1 ⟨q, rfl, S1⟩
  have hcv := Go.Lib.run_convert_bytes_const (P := Try.prog) w1 22 5 #[.int .u8 97, .int .u8 98] 2 2 Try.underlying22 Try.underlying5
  obtain ⟨G1, hG1, hq1, T1⟩ := (S1.new (.cells (([97, 98] : List UInt8).map byteV).toArray 5 (2, 3))).freeze
  have hb1 := slb_ro hq1 (by decide)
  change Sat _ (w1.alloc (.cells #[.int .u8 97, .int .u8 98] 5 (2, 3))) _ at T1
  change SlB _ (.slice _ 2 2) _ at hb1
  have hcv2 := Joins.run_convert_bytes_const_at (P := Try.prog) (w1.alloc (.cells #[.int .u8 97, .int .u8 98] 5 (2, 3))) 22 5 #[.int .u8 99, .int .u8 100, .int .u8 101, .int .u8 102] 4 4 (w1.heap.size + 1) (by simp) Try.underlying22 Try.underlying5
  obtain ⟨G2, hG2, hq2, T2⟩ := (T1.new (.cells (([99, 100, 101, 102] : List UInt8).map byteV).toArray 5 (4, 5))).freeze
  have hb2 := slb_ro hq2 (by decide)
  change Sat _ ((w1.alloc (.cells #[.int .u8 97, .int .u8 98] 5 (2, 3))).alloc (.cells #[.int .u8 99, .int .u8 100, .int .u8 101, .int .u8 102] 5 (4, 5))) _ at T2
  change SlB _ (.slice _ 4 4) _ at hb2
  simp only [World.size_alloc] at hb2
  have hput := qu_put T2 hw0 1 7 _ _ [97, 98] [99, 100, 101, 102] (fun W SW => (hb1.mono hG2).sat SW) (fun W SW => hb2.sat SW) (by decide) (by decide)
  rw [show putQ [[], []] 10 5 1 (7, [97, 98], [99, 100, 101, 102]) = ([[], [(7, [97, 98], [99, 100, 101, 102])]], 0) from by decide] at hput
  have hw1 : QWf [[], [(7, [97, 98], [99, 100, 101, 102])]] 10 5 := ⟨by decide, by decide, by decide, by decide, by decide, by decide, by simp [qsz, isz]⟩
  clear S1 T1 T2 hq1 hq2 hb1 hb2
  go_wp2_with fail
  (with_reducible refine hput.mono ?_)
  clear hput hcv hcv2
  rintro e w2 ⟨G3, hG3, rfl, S2⟩
  have hcv := Go.Lib.run_convert_bytes_const (P := Try.prog) w2 22 5 #[.int .u8 49, .int .u8 50, .int .u8 51, .int .u8 52, .int .u8 53] 5 5 Try.underlying22 Try.underlying5
  obtain ⟨G4, hG4, hq1, T1⟩ := (S2.new (.cells (([49, 50, 51, 52, 53] : List UInt8).map byteV).toArray 5 (5, 6))).freeze
  have hb1 := slb_ro hq1 (by decide)
  change Sat _ (w2.alloc (.cells #[.int .u8 49, .int .u8 50, .int .u8 51, .int .u8 52, .int .u8 53] 5 (5, 6))) _ at T1
  change SlB _ (.slice _ 5 5) _ at hb1
  have hput := qu_put T1 hw1 1 0 (.slice none 0 0) _ [] [49, 50, 51, 52, 53] (fun W SW => SlB.nil _) (fun W SW => hb1.sat SW) (by decide) (by decide)
  rw [show putQ [[], [(7, [97, 98], [99, 100, 101, 102])]] 10 5 1 (0, [], [49, 50, 51, 52, 53]) = ([[], [(7, [97, 98], [99, 100, 101, 102])]], 33) from by decide] at hput
  clear S2 T1 hq1 hb1
  go_wp2_with fail
  (with_reducible refine hput.mono ?_)
  clear hput hcv
  rintro e w3 ⟨G5, hG5, rfl, S3⟩
  have hput := qu_put S3 hw1 2 0 (.slice none 0 0) (.slice none 0 0) [] [] (fun W SW => SlB.nil _) (fun W SW => SlB.nil _) (by decide) (by decide)
  rw [show putQ [[], [(7, [97, 98], [99, 100, 101, 102])]] 10 5 2 (0, [], []) = ([[], [(7, [97, 98], [99, 100, 101, 102])]], 11) from by decide] at hput
  clear S3
  go_wp2_with fail
  (with_reducible refine hput.mono ?_)
  clear hput
  rintro e w4 ⟨G6, hG6, rfl, S4⟩
  have hcut := qu_cut S4 hw1 1 3 (7, [97, 98], [99, 100, 101, 102]) [] rfl (by decide)
  change Calls _ _ #[_, .int .i64 1, .int .i64 3] _ _ at hcut
  clear S4
  go_wp2_with fail
  (with_reducible refine hcut.mono ?_)
  clear hcut
  rintro e w5 ⟨u, rfl, S5⟩
  change Sat _ _ (ownS _ _ u 3 ((([99, 100, 101] : List UInt8)).map byteV) :: quA q [[], [(7, [97, 98], [102])]] _ _ :: _) at S5
  have hw2 : QWf [[], [(7, [97, 98], [102])]] 10 5 := ⟨by decide, by decide, by decide, by decide, by decide, by decide, by simp [qsz, isz]⟩
  have hpop := qu_pop S5.swap hw2 1 (7, [97, 98], [102]) [] rfl
  change Calls _ _ #[_, .int .i64 1] _ _ at hpop
  clear S5
  go_wp2_with fail
  (with_reducible refine hpop.mono ?_)
  clear hpop
  rintro e w6 ⟨u1, u2, rfl, S6⟩
  change Sat _ _ (ownS _ _ u1 2 _ :: ownS _ _ u2 1 (([102] : List UInt8).map byteV) :: quA q [[], []] _ _ :: _) at S6
  obtain ⟨A, c, rfl, -, -, -⟩ := S6.ownSlice
  obtain ⟨D, d, rfl, -, -, -⟩ := S6.swap.ownSlice
  obtain ⟨X, x, rfl, -, -, -⟩ := (S6.re [3, 0, 1, 2]).ownSlice
  have S7 := S6.newBlk #[.int .i64 7, .slice A 2 c, .slice D 1 d] 24
  have hcv1 := conv_bytes _ [99, 100, 101] _ (own_slb (bs := [99, 100, 101]) (S7.re [4, 0, 1, 2, 3])).1
  have hcv2 := conv_bytes _ [102] _ (own_slb (bs := [102]) (S7.re [2, 0, 1])).1
  have e0 := S7.cell 0
  have e2 := S7.cell 2
  have hby := qu_bytes (S7.re [3, 0, 1, 2]) hw0 1
  have hln := qu_len (S7.re [3, 0, 1, 2]) hw0 1
  rw [show qAt [[], []] 1 = [] from rfl] at hby hln
  rw [show bstr [99, 100, 101] = ({ data := #[99, 100, 101] } : ByteArray) from rfl] at hcv1
  rw [show bstr [102] = ({ data := #[102] } : ByteArray) from rfl] at hcv2
  clear S6
  have HS := Lib.hid (S7.re [4, 3, 2, 1, 0])
  clear S7
  go_wp2_with fail
  (with_reducible refine hby.mono ?_)
  clear hby
  rintro e w7 ⟨rfl, rfl⟩
  go_wp2_with fail
  (with_reducible refine hln.mono ?_)
  clear hln
  rintro e w7 ⟨rfl, rfl⟩
  go_wp2_with fail
  exact hK.out _ _ ⟨rfl, G6, (((((hG1.trans hG2).trans hG3).trans hG4).trans hG5).trans hG6), HS.out.drop.drop.drop.drop.drop⟩
end
end Go.Proofs.Ytidaafpfkbfiaaa
