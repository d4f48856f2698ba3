/- The walk over payload.Parse: its functions without names. -/
import Derived.Test.YtdfdcenbpanegaaRead
set_option linter.unusedSimpArgs false
set_option linter.unusedVariables false
namespace Go.Proofs.Ytdfdcenbpanegaa
open Go.RowKit

section
variable {G : Gnd} {w : World} {l : List Asrt} {aF q : Nat} {bs : List UInt8}
set_option maxHeartbeats 1000000 in
theorem pl_1 (k fl s : Int) (A : Option Addr) (n c : Nat) (H : Sat G w (blk aF #[.int .i64 k, .int .i64 fl, .int .i64 s, .slice A n c] 24 :: l)) :
    Calls Try.prog 15 #[.pointer (some ⟨aF, 0, none⟩)] w fun e w' => e = .returned (.agg #[.int .i64 (if placeBad k s then 101 else 0), .bool (placeBad k s)]) ∧ Sat G w' (blk aF #[.int .i64 k, .int .i64 fl, .int .i64 s, .slice A n c] 24 :: l) := by
  refine calls_any fun K hK => ?_
  have S0 := H.newBlk #[.int .i64 0, .bool false] 31
  clear H
  go_enter Try.func15, Try.ntmps15
  go_upto_region 1 with fail
  refine wp_world S0 fun w1 S1 => ?_
  clear S0
  generalize w.heap.size = aR at *
  have c0 := S1.swap.cell 0; have c1 := S1.swap.cell 1; have c2 := S1.swap.cell 2; have c3 := S1.swap.cell 3
  have hp := pl_place S1 k fl s (.slice A n c)
  generalize placeBad k s = pb at *
  generalize (if pb = true then (101 : Int) else 0) = pc at *
  clear S1
  go_wp2_with fail
  (with_reducible refine hp.mono ?_)
  clear hp c0 c1 c2 c3
  rintro e w2 ⟨rfl, S2⟩
  have f0 := S2.frozen 0; have f1 := S2.frozen 1; have b0 := S2.cell 0; have b1 := S2.cell 1
  have HS2 := Lib.hid ((S2.setCell 0 (.int .i64 pc)).setCell 1 (.bool pb))
  clear S2
  go_wp2_with fail
  refine ret_cell HS2.out 1 31 rfl _ rfl Try.underlying31 rfl (by kernel_rfl) rfl ?_
  exact hK.out _ _ ⟨rfl, HS2.out.drop⟩
set_option maxHeartbeats 1000000 in
theorem pl_2 (k fl s : Int) (A : Option Addr) (n c : Nat) (hn : n ≤ 140737488355328) (H : Sat G w (blk aF #[.int .i64 k, .int .i64 fl, .int .i64 s, .slice A n c] 24 :: l)) :
    Calls Try.prog 17 #[.pointer (some ⟨aF, 0, none⟩)] w fun e w' => e = .returned (.agg #[.int .i64 (lenF k fl n).1, .bool (lenF k fl n).2]) ∧ Sat G w' (blk aF #[.int .i64 k, .int .i64 fl, .int .i64 s, .slice A n c] 24 :: l) := by
  refine calls_any fun K hK => ?_
  have S0 := H.newBlk #[.int .i64 0, .bool false] 31
  clear H
  go_enter Try.func17, Try.ntmps17
  go_upto_region 1 with fail
  refine wp_world S0 fun w1 S1 => ?_
  clear S0
  generalize w.heap.size = aR at *
  have c0 := S1.swap.cell 0; have c1 := S1.swap.cell 1; have c2 := S1.swap.cell 2; have c3 := S1.swap.cell 3
  have hp := pl_length S1 k fl s A n c hn
  generalize (lenF k fl n).1 = pc at *
  generalize (lenF k fl n).2 = pb at *
  clear S1
  go_wp2_with fail
  (with_reducible refine hp.mono ?_)
  clear hp c0 c1 c2 c3
  rintro e w2 ⟨rfl, S2⟩
  have f0 := S2.frozen 0; have f1 := S2.frozen 1; have b0 := S2.cell 0; have b1 := S2.cell 1
  have HS2 := Lib.hid ((S2.setCell 0 (.int .i64 pc)).setCell 1 (.bool pb))
  clear S2
  go_wp2_with fail
  refine ret_cell HS2.out 1 31 rfl _ rfl Try.underlying31 rfl (by kernel_rfl) rfl ?_
  exact hK.out _ _ ⟨rfl, HS2.out.drop⟩
set_option maxHeartbeats 1000000 in
theorem pl_3 (k fl s : Int) (A : Option Addr) (n c : Nat) (hnb : n = bs.length) (H : Sat G w (blk q ((bareS k s n).cs (.slice none 0 0) (.slice none 0 0)) 28 :: blk aF #[.int .i64 k, .int .i64 fl, .int .i64 s, .slice A n c] 24 :: l)) (hv : SlB (cellR G.ro) (.slice A n c) bs) (hlen : bs.length ≤ 1000000000) (hlk : lenF k fl bs.length = (0, false)) :
    Calls Try.prog 19 #[.pointer (some ⟨q, 0, none⟩), .pointer (some ⟨aF, 0, none⟩)] w fun e w' => ∃ G' v' u', G.le G' ∧ e = .returned (.agg #[.int .i64 (readS k fl s bs).f.1, .bool (readS k fl s bs).f.2]) ∧ SlB (Go.Proofs.Ytdfdcenbpanegaa.cellR G'.ro) v' (readS k fl s bs).t ∧ RPr G'.ro u' (readS k fl s bs).ps ∧ Sat G' w' (blk q ((readS k fl s bs).x.cs v' u') 28 :: blk aF #[.int .i64 k, .int .i64 fl, .int .i64 s, .slice A n c] 24 :: l) := by
  refine calls_any fun K hK => ?_
  have S0 := H.newBlk #[.int .i64 0, .bool false] 31
  clear H
  go_enter Try.func19, Try.ntmps19
  go_upto_region 1 with fail
  refine wp_world S0 fun w1 S1 => ?_
  clear S0
  generalize w.heap.size = aR at *
  have c0 := (S1.re [2, 0, 1]).cell 0
  have c1 := (S1.re [2, 0, 1]).cell 1
  have c2 := (S1.re [2, 0, 1]).cell 2
  have c3 := (S1.re [2, 0, 1]).cell 3
  have S2 := S1.swap
  rw [hnb] at S2
  have hp := pl_read k fl s (.slice A n c) S2 hv hlen hlk
  generalize readS k fl s bs = rr at *
  have HNB := Lib.hid hnb
  clear S1 S2 hv hlk hnb
  go_wp2_with fail
  (with_reducible refine hp.mono ?_)
  clear hp c0 c1 c2 c3
  rintro e w2 ⟨G2, v2, u2, hG2, rfl, hv2, hu2, S3⟩
  obtain ⟨⟨pc, pb⟩, x, t, ps⟩ := rr
  have S2 := S3.swap
  rw [← HNB.out] at S2
  have f0 := S2.frozen 0; have f1 := S2.frozen 1; have b0 := S2.cell 0; have b1 := S2.cell 1
  have HS2 := Lib.hid ((S2.setCell 0 (.int .i64 pc)).setCell 1 (.bool pb))
  clear S2 S3
  go_wp2_with fail
  refine ret_cell HS2.out 2 31 rfl _ rfl Try.underlying31 rfl (by kernel_rfl) rfl ?_
  exact hK.out _ _ ⟨G2, _, _, hG2, rfl, hv2, hu2, HS2.out.drop⟩
theorem pl_3b (b : ItS) (k fl s : Int) (A : Option Addr) (n c : Nat) (hbb : b = bareS k s n) (hnb : n = bs.length) (H : Sat G w (blk q (b.cs (.slice none 0 0) (.slice none 0 0)) 28 :: blk aF #[.int .i64 k, .int .i64 fl, .int .i64 s, .slice A n c] 24 :: l)) (hv : SlB (cellR G.ro) (.slice A n c) bs) (hlen : bs.length ≤ 1000000000) (hlk : lenF k fl bs.length = (0, false)) :
    Calls Try.prog 19 #[.pointer (some ⟨q, 0, none⟩), .pointer (some ⟨aF, 0, none⟩)] w fun e w' => ∃ G' v' u', G.le G' ∧ e = .returned (.agg #[.int .i64 (readS k fl s bs).f.1, .bool (readS k fl s bs).f.2]) ∧ SlB (Go.Proofs.Ytdfdcenbpanegaa.cellR G'.ro) v' (readS k fl s bs).t ∧ RPr G'.ro u' (readS k fl s bs).ps ∧ Sat G' w' (blk q ((readS k fl s bs).x.cs v' u') 28 :: blk aF #[.int .i64 k, .int .i64 fl, .int .i64 s, .slice A n c] 24 :: l) := by
  subst hbb
  exact pl_3 k fl s A n c hnb H hv hlen hlk
def bareR (k s : Int) (n : Nat) (f : Int × Bool) : RdRes := ⟨f, bareS k s n, [], []⟩
/-- What a frame says. -/
def parseS (k fl s : Int) (bs : List UInt8) : RdRes :=
  if placeBad k s then bareR k s bs.length (101, true)
  else if (lenF k fl bs.length).1 == 0 && !(lenF k fl bs.length).2 then
    (if (readS k fl s bs).f.1 == 0 && !(readS k fl s bs).f.2 then readS k fl s bs else bareR k s bs.length (readS k fl s bs).f)
  else bareR k s bs.length (lenF k fl bs.length)
theorem st_run {P : Program} {ops : Array Oper} {rest : List Oper} {o : Oper} {a : Act} {w : World} {Q : Exit → Act → World → Prop} (hgd : o.guard = none) (v : Value) (hr : (execOp a.eval o).run P w = .ok (.value v) w) (h : wpList P ops Q rest (a.put o.dst v) w) : wpList P ops Q (o :: rest) a w := by
  refine wpList_plain hgd fun K hK => ?_
  unfold Oper.wp
  rw [hr]
  exact hK _ _ h
theorem results_cells2 {P : Program} {fn : Func} {p1 p2 : Tmp} {y1 y2 : TypeId} (h : fn.results = #[.cell p1 y1, .cell p2 y2]) (tmps : Array Value) (w : World) (g1 g2 : Nat) (t1 t2 : TypeId) (c1 c2 : Array Value) (d1 d2 : TypeDesc)
    (hp1 : tmps.getD p1 undef = .pointer (some ⟨g1, 0, none⟩)) (hg1 : w.heap[g1]? = some (.cells c1 t1 (0, 0))) (hu1 : P.underlying y1 = some d1) (hd1 : (match d1 with | .struct _ | .array _ _ => true | _ => false) = true) (hi1 : (P.info? y1).map (·.size) = some c1.size)
    (hp2 : tmps.getD p2 undef = .pointer (some ⟨g2, 0, none⟩)) (hg2 : w.heap[g2]? = some (.cells c2 t2 (0, 0))) (hu2 : P.underlying y2 = some d2) (hd2 : (match d2 with | .struct _ | .array _ _ => true | _ => false) = true) (hi2 : (P.info? y2).map (·.size) = some c2.size) :
    (results fn tmps).run P w = .ok (.tuple #[.agg c1, .agg c2]) w := by
  have h1 : tmps[p1]?.getD undef = .pointer (some ⟨g1, 0, none⟩) := by simpa using hp1
  have h2 : tmps[p2]?.getD undef = .pointer (some ⟨g2, 0, none⟩) := by simpa using hp2
  simp [results, h, h1, h2, asAddr, run_loadVar_row w g1 t1 y1 c1 (0, 0) d1 hg1 hu1 hd1 hi1, run_loadVar_row w g2 t2 y2 c2 (0, 0) d2 hg2 hu2 hd2 hi2]
end
end Go.Proofs.Ytdfdcenbpanegaa
