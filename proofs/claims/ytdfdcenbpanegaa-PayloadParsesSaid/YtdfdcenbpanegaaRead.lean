/- The walk over read. -/
import Derived.Test.YtdfdcenbpanegaaPadd
import Derived.Test.YtdfdcenbpanegaaPairsIn
set_option linter.unusedSimpArgs false
set_option linter.unusedVariables false
namespace Go.Proofs.Ytdfdcenbpanegaa
open Go.RowKit

def bareS (k s : Int) (n : Nat) : ItS := ⟨k, s, false, false, false, if k == 0 then (n : Int) else 0, 0, 0, 0, 0, 0, false, false⟩
def ownF (x : ItS) : Int × Bool := (if x.wd && x.dep == x.s then 101 else 0, false)
structure RdRes where
  f : Int × Bool
  x : ItS
  t : List UInt8
  ps : List (Int × Int)
def readP (p : (Int × Bool) × ItS × List UInt8) : RdRes := if p.1.1 == 0 && !p.1.2 then ⟨ownF p.2.1, p.2.1, p.2.2, []⟩ else ⟨p.1, p.2.1, p.2.2, []⟩
/-- All of a frame's type. -/
def readS (k fl s : Int) (bs : List UInt8) : RdRes :=
  let b := bareS k s bs.length
  if k == 0 || k == 1 then readP (padS k fl { b with e := hasF fl 1, l := k == 1 && hasF fl 4 } bs)
  else if k == 2 then ⟨ownF (wghS b bs), wghS b bs, [], []⟩
  else if k == 3 then ⟨(0, false), { b with code := (numOf (bs.take 4) : Int) }, [], []⟩
  else if k == 4 then ⟨(0, false), { b with a := hasF fl 1 }, [], pairsIn bs⟩
  else if k == 6 then ⟨(0, false), { b with a := hasF fl 1 }, bs, []⟩
  else if k == 7 then ⟨(0, false), { b with last := (numOf (bs.take 4) : Int) % 2147483648, code := (numOf ((bs.drop 4).take 4) : Int) }, bs.drop 8, []⟩
  else if k == 8 then ⟨if (numOf (bs.take 4) : Int) % 2147483648 == 0 then (101, s == 0) else (0, false), { b with inc := (numOf (bs.take 4) : Int) % 2147483648 }, [], []⟩
  else if k == 9 then ⟨(0, false), { b with l := hasF fl 4 }, bs, []⟩
  else ⟨(0, false), b, [], []⟩
theorem len5 {fl : Int} {n : Nat} (h : lenF 2 fl n = (0, false)) : n = 5 := by
  unfold lenF at h
  simp only [BEq.rfl, if_true] at h
  split at h
  · rename_i hn; simpa using hn
  · cases h
theorem len4 {k fl : Int} {n : Nat} (hk : k = 3 ∨ k = 8) (h : lenF k fl n = (0, false)) : n = 4 := by
  rcases hk with rfl | rfl
  all_goals
    simp only [lenF] at h
    by_cases hn : n = 4
    · exact hn
    · simp [hn] at h
theorem len8 {fl : Int} {n : Nat} (h : lenF 7 fl n = (0, false)) : 8 ≤ n := by
  simp only [lenF] at h
  by_cases hn : n < 8
  · simp [hn] at h
  · omega
theorem len6 {fl : Int} {n : Nat} (h : lenF 4 fl n = (0, false)) : n % 6 = 0 := by
  simp only [lenF] at h
  by_cases hn : n % 6 = 0
  · exact hn
  · simp [hn] at h
section
variable {G : Gnd} {w : World} {l : List Asrt} {q r : Nat} {bs : List UInt8}
set_option maxHeartbeats 16000000 in
set_option maxRecDepth 100000 in
theorem pl_read (k fl s : Int) (v : Value) (H : Sat G w (blk q ((bareS k s bs.length).cs (.slice none 0 0) (.slice none 0 0)) 28 :: l)) (hv : SlB (cellR G.ro) v bs) (hlen : bs.length ≤ 1000000000) (hlk : lenF k fl bs.length = (0, false)) :
    Calls Try.prog 20 #[.pointer (some ⟨q, 0, none⟩), .agg #[.int .i64 k, .int .i64 fl, .int .i64 s, v]] w fun e w' => ∃ G' v' u', G.le G' ∧ e = .returned (.agg #[.int .i64 (readS k fl s bs).f.1, .bool (readS k fl s bs).f.2]) ∧ SlB (Go.Proofs.Ytdfdcenbpanegaa.cellR G'.ro) v' (readS k fl s bs).t ∧ RPr G'.ro u' (readS k fl s bs).ps ∧ Sat G' w' (blk q ((readS k fl s bs).x.cs v' u') 28 :: l) := by
  refine calls_any fun K hK => ?_
  obtain ⟨A, c, hvv, -, -, -⟩ := hv.form
  obtain ⟨n0, hn0⟩ : ∃ n0, n0 = bs.length := ⟨_, rfl⟩
  rw [← hn0] at hvv
  subst hvv
  have hn0b : n0 ≤ 1000000000 := by omega
  rw [← hn0] at H
  have S1 := (H.newBlk #[.int .i64 k, .int .i64 fl, .int .i64 s, .slice A n0 c] 24).newBlk #[.int .i64 0, .bool false] 31
  simp only [World.size_alloc] at S1
  have S2 : Sat G _ (blk q ((bareS k s n0).cs (.slice none 0 0) (.slice none 0 0)) 28 :: blk (w.heap.size + 1) #[.int .i64 0, .bool false] 31 :: blk w.heap.size #[.int .i64 k, .int .i64 fl, .int .i64 s, .slice A n0 c] 24 :: l) := S1.re [2, 0, 1]
  have hnew := rf_new S2 (.slice A n0 c) bs hv (by omega)
  have HV := Lib.hid hv
  clear H S1 S2 hv
  generalize hx : readS k fl s bs = res at *
  have HX := Lib.hid hx
  have HN0 := Lib.hid hn0
  have HLK := Lib.hid hlk
  clear hx hlen hn0 hlk
  go_enter Try.func20, Try.ntmps20
  go_wp2_with fail
  (with_reducible refine hnew.mono ?_)
  clear hnew
  rintro e w1 ⟨r, G1, hG1, rfl, S3⟩
  generalize w.heap.size + 1 = aR at *
  generalize w.heap.size = aF at *
  go_upto_region 2 with fail
  rcases kinds k with rfl | rfl | rfl | rfl | rfl | rfl | rfl | rfl | rfl | rfl | ⟨k0, k1, k2, k3, k4, k5, k6, k7, k8, k9⟩
  · have hX : readP (padS 0 fl { bareS 0 s n0 with e := hasF fl 1, l := false } bs) = res := by rw [← HX.out, HN0.out]; rfl
    clear HX
    have S4 := S3.gone
    have hh := pl_has S4 0 fl s 1 (.slice A n0 c) (by decide)
    have c0 := (S4.re [2, 0, 1]).cell 0
    have c1 := (S4.re [2, 0, 1]).cell 1
    have c2 := (S4.re [2, 0, 1]).cell 2
    have c3 := (S4.re [2, 0, 1]).cell 3
    clear S3 S4
    go_wp2_with fail
    (with_reducible refine hh.mono ?_)
    clear hh c0 c1 c2 c3
    rintro e w2 ⟨rfl, S4⟩
    have g3 := S4.frozen 3
    have h3 : World.cell? _ ⟨q, 3, none⟩ = some _ := S4.cell 3
    have S5 : Sat G1 _ (blk q (({ bareS 0 s n0 with e := hasF fl 1 }).cs (.slice none 0 0) (.slice none 0 0)) 28 :: blk aR #[.int .i64 0, .bool false] 31 :: blk aF #[.int .i64 0, .int .i64 fl, .int .i64 s, .slice A n0 c] 24 :: l) := S4.setCell 3 (.bool (hasF fl 1))
    go_upto_region 6 with fail
    refine wp_world S5 fun w3 S6 => ?_
    clear S4 S5 g3 h3
    have c0 := (S6.re [2, 0, 1]).cell 0
    have c1 := (S6.re [2, 0, 1]).cell 1
    have c2 := (S6.re [2, 0, 1]).cell 2
    have c3 := (S6.re [2, 0, 1]).cell 3
    have g4 := S6.frozen 4
    have h4 : World.cell? _ ⟨q, 4, none⟩ = some _ := S6.cell 4
    have S7 : Sat G1 _ (blk q (({ bareS 0 s n0 with e := hasF fl 1, l := false }).cs (.slice none 0 0) (.slice none 0 0)) 28 :: blk aR #[.int .i64 0, .bool false] 31 :: blk aF #[.int .i64 0, .int .i64 fl, .int .i64 s, .slice A n0 c] 24 :: l) := S6.setCell 4 (.bool false)
    go_upto_region 7 with fail
    refine wp_world S7 fun w5 S8 => ?_
    clear S6 S7 g4 h4 c0 c1 c2 c3
    have c0 := (S8.re [2, 0, 1]).cell 0
    have c1 := (S8.re [2, 0, 1]).cell 1
    have c2 := (S8.re [2, 0, 1]).cell 2
    have c3 := (S8.re [2, 0, 1]).cell 3
    have hp := pl_padded _ _ S8 0 fl s (.slice A n0 c) (HV.out.mono hG1) (by have := HN0.out; omega) (by decide)
    generalize padS 0 fl _ bs = p at *
    obtain ⟨⟨pc, pb⟩, px, pt⟩ := p
    clear S8
    go_wp2_with fail
    (with_reducible refine hp.mono ?_)
    clear hp c0 c1 c2 c3
    rintro e w6 ⟨G2, v2, hG2, rfl, hv2, S9⟩
    have hG := hG1.trans hG2
    have S10 := S9.newBlk #[.int .i64 pc, .bool pb] 31
    have hok := pl_ok S10 pc pb
    clear S9 S10
    go_wp2_with fail
    (with_reducible refine hok.mono ?_)
    clear hok
    rintro e w7 ⟨rfl, S11⟩
    generalize w6.heap.size = a6 at *
    cases hpk : (pc == 0 && !pb) with
    | false =>
      have hX2 : (⟨(pc, pb), px, pt, []⟩ : RdRes) = res := by rw [← hX]; unfold readP; simp only [hpk, Bool.false_eq_true, if_false]
      subst hX2
      clear hX hpk
      have d0 := S11.cell 0
      have d1 := S11.cell 1
      have S12 := S11.drop
      clear S11
      have T9 := S12.swap
      have f0 := T9.frozen 0
      have f1 := T9.frozen 1
      have b0 := T9.cell 0
      have b1 := T9.cell 1
      have HT9 := Lib.hid ((T9.setCell 0 (.int .i64 (pc))).setCell 1 (.bool (pb)))
      clear T9 S12
      go_wp2_with fail
      refine ret_cell HT9.out 4 31 rfl _ rfl Try.underlying31 rfl (by kernel_rfl) rfl ?_
      exact hK.out _ _ ⟨G2, _, _, hG, rfl, hv2, RPr.nil _, HT9.out.drop.drop2⟩
    | true =>
      have hX2 : (⟨ownF px, px, pt, []⟩ : RdRes) = res := by rw [← hX]; unfold readP; simp only [hpk, if_true]
      subst hX2
      clear hX hpk
      have S12 := S11.drop
      have how := pl_own px _ _ S12
      clear S11 S12
      go_wp2_with fail
      (with_reducible refine how.mono ?_)
      clear how
      rintro e w8 ⟨rfl, S12⟩
      unfold ownF at hK
      generalize (if px.wd && px.dep == px.s then (101 : Int) else 0) = oc at *
      have T9 := S12.swap
      have f0 := T9.frozen 0
      have f1 := T9.frozen 1
      have b0 := T9.cell 0
      have b1 := T9.cell 1
      have HT9 := Lib.hid ((T9.setCell 0 (.int .i64 (oc))).setCell 1 (.bool (false)))
      clear T9 S12
      go_wp2_with fail
      refine ret_cell HT9.out 4 31 rfl _ rfl Try.underlying31 rfl (by kernel_rfl) rfl ?_
      exact hK.out _ _ ⟨G2, _, _, hG, rfl, hv2, RPr.nil _, HT9.out.drop.drop2⟩
  · have hX : readP (padS 1 fl { bareS 1 s n0 with e := hasF fl 1, l := hasF fl 4 } bs) = res := by rw [← HX.out, HN0.out]; rfl
    clear HX
    have S4 := S3.gone
    have hh := pl_has S4 1 fl s 1 (.slice A n0 c) (by decide)
    have c0 := (S4.re [2, 0, 1]).cell 0
    have c1 := (S4.re [2, 0, 1]).cell 1
    have c2 := (S4.re [2, 0, 1]).cell 2
    have c3 := (S4.re [2, 0, 1]).cell 3
    clear S3 S4
    go_wp2_with fail
    (with_reducible refine hh.mono ?_)
    clear hh c0 c1 c2 c3
    rintro e w2 ⟨rfl, S4⟩
    have g3 := S4.frozen 3
    have h3 : World.cell? _ ⟨q, 3, none⟩ = some _ := S4.cell 3
    have S5 : Sat G1 _ (blk q (({ bareS 1 s n0 with e := hasF fl 1 }).cs (.slice none 0 0) (.slice none 0 0)) 28 :: blk aR #[.int .i64 0, .bool false] 31 :: blk aF #[.int .i64 1, .int .i64 fl, .int .i64 s, .slice A n0 c] 24 :: l) := S4.setCell 3 (.bool (hasF fl 1))
    go_upto_region 6 with fail
    refine wp_world S5 fun w3 S6 => ?_
    clear S4 S5 g3 h3
    have c0 := (S6.re [2, 0, 1]).cell 0
    have c1 := (S6.re [2, 0, 1]).cell 1
    have c2 := (S6.re [2, 0, 1]).cell 2
    have c3 := (S6.re [2, 0, 1]).cell 3
    have hh := pl_has S6 1 fl s 4 (.slice A n0 c) (by decide)
    clear S6
    go_wp2_with fail
    (with_reducible refine hh.mono ?_)
    clear hh c0 c1 c2 c3
    rintro e w4 ⟨rfl, S6⟩
    have g4 := S6.frozen 4
    have h4 : World.cell? _ ⟨q, 4, none⟩ = some _ := S6.cell 4
    have S7 : Sat G1 _ (blk q (({ bareS 1 s n0 with e := hasF fl 1, l := hasF fl 4 }).cs (.slice none 0 0) (.slice none 0 0)) 28 :: blk aR #[.int .i64 0, .bool false] 31 :: blk aF #[.int .i64 1, .int .i64 fl, .int .i64 s, .slice A n0 c] 24 :: l) := S6.setCell 4 (.bool (hasF fl 4))
    go_upto_region 7 with fail
    refine wp_world S7 fun w5 S8 => ?_
    clear S6 S7 g4 h4 
    have c0 := (S8.re [2, 0, 1]).cell 0
    have c1 := (S8.re [2, 0, 1]).cell 1
    have c2 := (S8.re [2, 0, 1]).cell 2
    have c3 := (S8.re [2, 0, 1]).cell 3
    have hp := pl_padded _ _ S8 1 fl s (.slice A n0 c) (HV.out.mono hG1) (by have := HN0.out; omega) (by decide)
    generalize padS 1 fl _ bs = p at *
    obtain ⟨⟨pc, pb⟩, px, pt⟩ := p
    clear S8
    go_wp2_with fail
    (with_reducible refine hp.mono ?_)
    clear hp c0 c1 c2 c3
    rintro e w6 ⟨G2, v2, hG2, rfl, hv2, S9⟩
    have hG := hG1.trans hG2
    have S10 := S9.newBlk #[.int .i64 pc, .bool pb] 31
    have hok := pl_ok S10 pc pb
    clear S9 S10
    go_wp2_with fail
    (with_reducible refine hok.mono ?_)
    clear hok
    rintro e w7 ⟨rfl, S11⟩
    generalize w6.heap.size = a6 at *
    cases hpk : (pc == 0 && !pb) with
    | false =>
      have hX2 : (⟨(pc, pb), px, pt, []⟩ : RdRes) = res := by rw [← hX]; unfold readP; simp only [hpk, Bool.false_eq_true, if_false]
      subst hX2
      clear hX hpk
      have d0 := S11.cell 0
      have d1 := S11.cell 1
      have S12 := S11.drop
      clear S11
      have T9 := S12.swap
      have f0 := T9.frozen 0
      have f1 := T9.frozen 1
      have b0 := T9.cell 0
      have b1 := T9.cell 1
      have HT9 := Lib.hid ((T9.setCell 0 (.int .i64 (pc))).setCell 1 (.bool (pb)))
      clear T9 S12
      go_wp2_with fail
      refine ret_cell HT9.out 4 31 rfl _ rfl Try.underlying31 rfl (by kernel_rfl) rfl ?_
      exact hK.out _ _ ⟨G2, _, _, hG, rfl, hv2, RPr.nil _, HT9.out.drop.drop2⟩
    | true =>
      have hX2 : (⟨ownF px, px, pt, []⟩ : RdRes) = res := by rw [← hX]; unfold readP; simp only [hpk, if_true]
      subst hX2
      clear hX hpk
      have S12 := S11.drop
      have how := pl_own px _ _ S12
      clear S11 S12
      go_wp2_with fail
      (with_reducible refine how.mono ?_)
      clear how
      rintro e w8 ⟨rfl, S12⟩
      unfold ownF at hK
      generalize (if px.wd && px.dep == px.s then (101 : Int) else 0) = oc at *
      have T9 := S12.swap
      have f0 := T9.frozen 0
      have f1 := T9.frozen 1
      have b0 := T9.cell 0
      have b1 := T9.cell 1
      have HT9 := Lib.hid ((T9.setCell 0 (.int .i64 (oc))).setCell 1 (.bool (false)))
      clear T9 S12
      go_wp2_with fail
      refine ret_cell HT9.out 4 31 rfl _ rfl Try.underlying31 rfl (by kernel_rfl) rfl ?_
      exact hK.out _ _ ⟨G2, _, _, hG, rfl, hv2, RPr.nil _, HT9.out.drop.drop2⟩
  · have hX : (⟨ownF (wghS (bareS 2 s n0) bs), wghS (bareS 2 s n0) bs, [], []⟩ : RdRes) = res := by rw [← HX.out, HN0.out]; rfl
    subst hX
    clear HX
    have h5 : bs.length = 5 := len5 HLK.out
    have hw := pl_weigh _ _ _ S3 (by omega)
    have c0 := (S3.gone.re [2, 0, 1]).cell 0
    clear S3
    go_wp2_with fail
    (with_reducible refine hw.mono ?_)
    clear hw c0
    rintro e w2 ⟨rfl, S4⟩
    have S5 := S4.gone
    have how := pl_own _ _ _ S5
    clear S4 S5
    go_wp2_with fail
    (with_reducible refine how.mono ?_)
    clear how
    rintro e w8 ⟨rfl, S12⟩
    unfold ownF at hK
    generalize (if (wghS (bareS 2 s n0) bs).wd && (wghS (bareS 2 s n0) bs).dep == (wghS (bareS 2 s n0) bs).s then (101 : Int) else 0) = oc at *
    have T9 := S12.swap
    have f0 := T9.frozen 0
    have f1 := T9.frozen 1
    have b0 := T9.cell 0
    have b1 := T9.cell 1
    have HT9 := Lib.hid ((T9.setCell 0 (.int .i64 (oc))).setCell 1 (.bool (false)))
    clear T9 S12
    go_wp2_with fail
    refine ret_cell HT9.out 4 31 rfl _ rfl Try.underlying31 rfl (by kernel_rfl) rfl ?_
    exact hK.out _ _ ⟨G1, _, _, hG1, rfl, SlB.nil _, RPr.nil _, HT9.out.drop.drop2⟩
  · have hX : (⟨(0, false), { bareS 3 s n0 with code := (numOf (bs.take 4) : Int) }, [], []⟩ : RdRes) = res := by rw [← HX.out, HN0.out]; rfl
    subst hX
    clear HX
    have h4 : bs.length = 4 := len4 (.inl rfl) HLK.out
    have hn := pl_number S3 4 (by omega) (by omega)
    change Calls _ _ #[_, .int .i64 4] _ _ at hn
    have c0 := (S3.gone.re [2, 0, 1]).cell 0
    clear S3
    generalize numOf (bs.take 4) = z at *
    go_wp2_with fail
    (with_reducible refine hn.mono ?_)
    clear hn c0
    rintro e w2 ⟨rfl, S4⟩
    have S5 := S4.gone
    have g7 := S5.frozen 7
    have h7 : World.cell? _ ⟨q, 7, none⟩ = some _ := S5.cell 7
    have S6 : Sat G1 _ (blk q (({ bareS 3 s n0 with code := (z : Int) }).cs (.slice none 0 0) (.slice none 0 0)) 28 :: blk aR #[.int .i64 0, .bool false] 31 :: blk aF #[.int .i64 3, .int .i64 fl, .int .i64 s, .slice A n0 c] 24 :: l) := S5.setCell 7 (.int .i64 z)
    go_upto_region 30 with fail
    refine wp_world S6 fun w3 S7 => ?_
    clear S4 S5 S6 g7 h7
    have T9 := S7.swap
    have f0 := T9.frozen 0
    have f1 := T9.frozen 1
    have b0 := T9.cell 0
    have b1 := T9.cell 1
    have HT9 := Lib.hid ((T9.setCell 0 (.int .i64 (0))).setCell 1 (.bool (false)))
    clear T9 S7
    go_wp2_with fail
    refine ret_cell HT9.out 4 31 rfl _ rfl Try.underlying31 rfl (by kernel_rfl) rfl ?_
    exact hK.out _ _ ⟨G1, _, _, hG1, rfl, SlB.nil _, RPr.nil _, HT9.out.drop.drop2⟩
  · have hh := rf_has S3 4 fl s 1 (.slice A n0 c) (by decide)
    have c0 := (S3.gone.re [2, 0, 1]).cell 0
    have c1 := (S3.gone.re [2, 0, 1]).cell 1
    have c2 := (S3.gone.re [2, 0, 1]).cell 2
    have c3 := (S3.gone.re [2, 0, 1]).cell 3
    clear S3
    go_wp2_with fail
    (with_reducible refine hh.mono ?_)
    clear hh c0 c1 c2 c3
    rintro e w2 ⟨rfl, S4⟩
    have h6 : n0 % 6 = 0 := len6 (by have := HLK.out; rwa [← HN0.out] at this)
    have g5 := S4.frozenL 5
    have h5 : World.cell? _ ⟨q, 5, none⟩ = some _ := S4.cellL 5
    obtain ⟨x1, hx1⟩ : ∃ x1, x1 = ({ bareS 4 s n0 with a := hasF fl 1 } : ItS) := ⟨_, rfl⟩
    have S5 : RdF G1 (w2.setCell ⟨q, 5, none⟩ (.bool (hasF fl 1))) r bs (blk q (x1.cs (.slice none 0 0) (.slice none 0 0)) 28 :: blk aR #[.int .i64 0, .bool false] 31 :: blk aF #[.int .i64 4, .int .i64 fl, .int .i64 s, .slice A n0 c] 24 :: l) := by rw [hx1]; exact S4.set (j := 5) (.bool (hasF fl 1))
    have S6 : RdF G1 (w2.setCell ⟨q, 5, none⟩ (.bool (hasF fl 1))) r bs (blk q (x1.cs (.slice none 0 0) (.slice none 0 0)) 28 :: ownS 50 2 (.slice none 0 0) 0 [] :: blk aR #[.int .i64 0, .bool false] 31 :: blk aF #[.int .i64 4, .int .i64 fl, .int .i64 s, .slice A n0 c] 24 :: l) := S5.map fun _ T => ((T.ownNil 50 2).re [1, 2, 0])
    have hX : (⟨(0, false), x1, [], pairsIn bs⟩ : RdRes) = res := by rw [← HX.out, hx1, HN0.out]; rfl
    subst hX
    have h6 : bs.length % 6 = 0 := by rw [← HN0.out]; exact h6
    have hpl := pairsIn_len bs
    have hbl : bs.length ≤ 1000000000 := by rw [← HN0.out]; exact hn0b
    have HPL := Lib.hid hpl
    have HBL := Lib.hid hbl
    clear HX hx1 S4 S5 hpl hbl
    go_upto_region 18 with fail
    go_loopw [60] (fun _ wr => ∃ (rest : List UInt8) (ps : List (Int × Int)) (u : Value), pairsIn bs = ps ++ pairsIn rest ∧ rest.length % 6 = 0 ∧ RdF G1 wr r rest (blk q (x1.cs (.slice none 0 0) u) 28 :: ownS 50 2 u ps.length (encs prc ps) :: blk aR #[.int .i64 0, .bool false] 31 :: blk aF #[.int .i64 4, .int .i64 fl, .int .i64 s, .slice A n0 c] 24 :: l)) (fun _ wr => lenAt r wr)
    case atStart => exact ⟨bs, [], _, rfl, h6, S6⟩
    case round =>
      obtain ⟨rest, ps, u, hps, hr6, S⟩ := hrel
      clear S6 g5 h5 h6
      have hla := S.lenAt
      have hl := rf_left S
      have HPS := Lib.hid hps
      clear hps
      by_cases hlt : 0 < rest.length
      · have h6r : 6 ≤ rest.length := by omega
        have hgt : decide ((rest.length : Int) > 0) = true := decide_eq_true (by omega)
        go_upto_region 19 with (first | (go_at_call 34; (with_reducible refine (hl).mono ?_); rintro e w9 ⟨rfl, rfl⟩))
        obtain ⟨n, hn⟩ : ∃ n, n = ps.length := ⟨_, rfl⟩
        have hps2 := HPS.out
        rw [pairsIn_step h6r] at hps2
        have hbk : n + 1 ≤ 1000000001 := by
          have h1 := HPL.out
          have h2 := HBL.out
          rw [hps2, List.length_append, List.length_cons] at h1
          omega
        obtain ⟨z1, hz1⟩ : ∃ z1, z1 = (numOf (rest.take 2) : Int) := ⟨_, rfl⟩
        obtain ⟨z2, hz2⟩ : ∃ z2, z2 = (numOf ((rest.drop 2).take 4) : Int) := ⟨_, rfl⟩
        obtain ⟨xs, hxs⟩ : ∃ xs, xs = encs prc ps := ⟨_, rfl⟩
        have HS2 : Hid (pairsIn bs = (ps ++ [(z1, z2)]) ++ pairsIn ((rest.drop 2).drop 4)) := Lib.hid (by rw [hps2, hz1, hz2]; simp)
        have HE2 : Hid (encs prc (ps ++ [(z1, z2)]) = xs ++ [.int .i64 z1, .int .i64 z2]) := Lib.hid (by rw [encs_append, encs_one, hxs]; rfl)
        have HLN : Hid (((rest.drop 2).drop 4).length = rest.length - 6) := Lib.hid (by simp only [List.length_drop]; omega)
        have S5 := S
        rw [← hn, ← hxs] at S5
        have HLA := Lib.hid hla
        clear S hl hla hgt hps2
        have HZ1 := Lib.hid hz1
        have HZ2 := Lib.hid hz2
        clear hz1 hz2 hxs
        refine wp_act fun a0 ha0 => ?_
        have HSZ : a0.tmps.size = 137 := by rw [ha0]; rfl
        have E0 : a0.eval (.tmp 0) = .pointer (some ⟨q, 0, none⟩) := by rw [ha0]; rfl
        have E5 : a0.eval (.tmp 5) = .pointer (some ⟨r, 0, none⟩) := by rw [ha0]; rfl
        refine wp_region_J (by kernel_rfl) 15 (by kernel_rfl) [[], [], [1], [2], [3], [], [5], [], [7, 6], [6, 8], [9], [4, 10, 8], [0, 0, 1, 2, 3, 4, 5, 6, 7, 8, 9, 10, 11], [12, 0, 1, 2, 3, 4, 5, 6, 7, 8, 9, 10, 11], [13, 11, 11, 0, 1, 2, 3, 4, 5, 6, 7, 8, 9, 10, 11]] (by kernel_rfl) (by kernel_rfl) (fun f a' W => ∃ g v', HQ f ∧ a' = acts [(0, 63, .pointer (some ⟨q, 0, none⟩)), (1, 64, .pointer (some ⟨q, 0, none⟩)), (2, 65, .pointer (some ⟨q, 0, none⟩)), (3, 66, .pointer (some ⟨q, 14, none⟩)), (4, 67, u), (5, 68, .pointer (some ⟨r, 0, none⟩)), (6, 69, .int .i64 z1), (7, 70, .pointer (some ⟨r, 0, none⟩)), (8, 71, .int .i64 z2), (9, 72, .agg #[.int .i64 z1, .int .i64 z2]), (10, 73, .slice (some ⟨g, 0, none⟩) 1 1), (11, 74, v'), (12, 75, .pointer (some ⟨q, 0, none⟩)), (13, 76, .pointer (some ⟨q, 14, none⟩))] f a0 ∧ RdF G1 W r (cond (f 8) ((rest.drop 2).drop 4) (cond (f 6) (rest.drop 2) rest)) (opt (f 10) (blk g #[.int .i64 z1, .int .i64 z2] 50) :: blk q (x1.cs (.slice none 0 0) (cond (f 14) v' u)) 28 :: ownS 50 2 (cond (f 11) v' u) (cond (f 11) (n + 1) n) (cond (f 11) (xs ++ [.int .i64 z1, .int .i64 z2]) xs) :: blk aR #[.int .i64 0, .bool false] 31 :: blk aF #[.int .i64 4, .int .i64 fl, .int .i64 s, .slice A n0 c] 24 :: l)) ?_ ?_ ?_
        · exact ⟨0, undef, (by unfold HQ; decide), rfl, (S5.drew).map fun _ T => T.swap.opt0.re [2, 0, 1]⟩
        · refine ⟨?_, ?_, ?_, ?_, ?_, ?_, ?_, ?_, ?_, ?_, ?_, ?_, ?_, ?_, ?_, trivial⟩
          · rintro f a' W h0 hd ⟨g, v', hh, rfl, S⟩
            refine wpOp_run (v := .pointer (some ⟨q, 0, none⟩)) rfl rfl (fun ρ hρ => ?_) ⟨g, v', hh, (acts_some 0 rfl (by kernel_rfl) (by kernel_rfl)).symm, S⟩
            have e0 : ρ (.tmp 0) = .pointer (some ⟨q, 0, none⟩) := by rw [hρ]; exact (acts_eval_tmp 0 (by kernel_rfl)).trans E0
            clear hρ
            go_simp
          · rintro f a' W h1 hd ⟨g, v', hh, rfl, S⟩
            refine wpOp_run (v := .pointer (some ⟨q, 0, none⟩)) rfl rfl (fun ρ hρ => ?_) ⟨g, v', hh, (acts_some 1 rfl (by kernel_rfl) (by kernel_rfl)).symm, S⟩
            have e0 : ρ (.tmp 0) = .pointer (some ⟨q, 0, none⟩) := by rw [hρ]; exact (acts_eval_tmp 0 (by kernel_rfl)).trans E0
            clear hρ
            go_simp
          · rintro f a' W h2 hd ⟨g, v', hh, rfl, S⟩
            refine wpOp_run (v := .pointer (some ⟨q, 0, none⟩)) rfl rfl (fun ρ hρ => ?_) ⟨g, v', hh, (acts_some 2 rfl (by kernel_rfl) (by kernel_rfl)).symm, S⟩
            have e0 : ρ (.tmp 64) = .pointer (some ⟨q, 0, none⟩) := by rw [hρ]; exact acts_eval_hit 1 rfl hd.1 (by rw [HSZ]; rfl) (by kernel_rfl)
            clear hρ
            go_simp
          · rintro f a' W h3 hd ⟨g, v', hh, rfl, S⟩
            refine wpOp_run (v := .pointer (some ⟨q, 14, none⟩)) rfl rfl (fun ρ hρ => ?_) ⟨g, v', hh, (acts_some 3 rfl (by kernel_rfl) (by kernel_rfl)).symm, S⟩
            have e0 : ρ (.tmp 65) = .pointer (some ⟨q, 0, none⟩) := by rw [hρ]; exact acts_eval_hit 2 rfl hd.1 (by rw [HSZ]; rfl) (by kernel_rfl)
            clear hρ
            go_simp
          · rintro f a' W h4 hd ⟨g, v', hh, rfl, S⟩
            (have z11 := no_of2 hh.2.1 h4; have z14 := no_of2 hh.2.2.1 z11)
            refine wpOp_run (v := u) rfl rfl (fun ρ hρ => ?_) ⟨g, v', ⟨hh.1, fun _ => rfl, hh.2.2⟩, (acts_some 4 rfl (by kernel_rfl) (by kernel_rfl)).symm, S⟩
            have e0 : ρ (.tmp 66) = .pointer (some ⟨q, 14, none⟩) := by rw [hρ]; exact acts_eval_hit 3 rfl hd.1 (by rw [HSZ]; rfl) (by kernel_rfl)
            clear hρ
            (have hcl : W.cell? ⟨q, 14, none⟩ = some u := (by have := S.gone.swap.cell 14; rw [z14] at this; exact this))
            go_simp
          · rintro f a' W h5 hd ⟨g, v', hh, rfl, S⟩
            refine wpOp_run (v := .pointer (some ⟨r, 0, none⟩)) rfl rfl (fun ρ hρ => ?_) ⟨g, v', hh, (acts_some 5 rfl (by kernel_rfl) (by kernel_rfl)).symm, S⟩
            have e0 : ρ (.tmp 5) = .pointer (some ⟨r, 0, none⟩) := by rw [hρ]; exact (acts_eval_tmp 5 (by kernel_rfl)).trans E5
            clear hρ
            go_simp
          · rintro f a' W h6 hd ⟨g, v', hh, rfl, S⟩
            (have z8 := no_of2 hh.2.2.2 h6; have S9 := S; rw [z8, h6] at S9; change RdF _ _ _ rest _ at S9)
            refine wpOp_call rfl rfl (fun ρ hρ => ?_) (pl_num2 S9 (by show 2 ≤ rest.length; omega)) ?_
            · skip
              have e0 : ρ (.tmp 68) = .pointer (some ⟨r, 0, none⟩) := by rw [hρ]; exact acts_eval_hit 5 rfl hd.1 (by rw [HSZ]; rfl) (by kernel_rfl)
              have ef : ρ (.func 33) = .func (.func 33) #[] #[] := by rw [hρ]; rfl
              have ec : ∀ v, ρ (.const v) = v := by rw [hρ]; exact fun _ => rfl
              clear hρ
              go_simp
            · (rintro e W' ⟨e1, S'⟩; rw [← HZ1.out] at e1; subst e1; refine ⟨_, rfl, g, v', ⟨hh.1, hh.2.1, hh.2.2.1, fun _ => rfl⟩, acts_swap rfl (k := 6) rfl (by kernel_rfl) (by kernel_rfl), ?_⟩; show RdF G1 W' r (cond (f 8) _ (cond true _ _)) _; rw [z8]; exact S')
          · rintro f a' W h7 hd ⟨g, v', hh, rfl, S⟩
            refine wpOp_run (v := .pointer (some ⟨r, 0, none⟩)) rfl rfl (fun ρ hρ => ?_) ⟨g, v', hh, (acts_some 7 rfl (by kernel_rfl) (by kernel_rfl)).symm, S⟩
            have e0 : ρ (.tmp 5) = .pointer (some ⟨r, 0, none⟩) := by rw [hρ]; exact (acts_eval_tmp 5 (by kernel_rfl)).trans E5
            clear hρ
            go_simp
          · rintro f a' W h8 hd ⟨g, v', hh, rfl, S⟩
            (have S9 := S; rw [h8, hd.2.1] at S9; change RdF _ _ _ (rest.drop 2) _ at S9)
            refine wpOp_call rfl rfl (fun ρ hρ => ?_) (pl_num4 S9 (by show 4 ≤ (rest.drop 2).length; rw [List.length_drop]; omega)) ?_
            · skip
              have e0 : ρ (.tmp 70) = .pointer (some ⟨r, 0, none⟩) := by rw [hρ]; exact acts_eval_hit 7 rfl hd.1 (by rw [HSZ]; rfl) (by kernel_rfl)
              have ef : ρ (.func 33) = .func (.func 33) #[] #[] := by rw [hρ]; rfl
              have ec : ∀ v, ρ (.const v) = v := by rw [hρ]; exact fun _ => rfl
              clear hρ
              go_simp
            · (rintro e W' ⟨e1, S'⟩; rw [← HZ2.out] at e1; subst e1; exact ⟨_, rfl, g, v', ⟨hh.1, hh.2.1, hh.2.2.1, fun _ => hd.2.1⟩, acts_swap rfl (k := 8) rfl (by kernel_rfl) (by kernel_rfl), S'⟩)
          · rintro f a' W h9 hd ⟨g, v', hh, rfl, S⟩
            refine wpOp_run (v := .agg #[.int .i64 z1, .int .i64 z2]) rfl rfl (fun ρ hρ => ?_) ⟨g, v', hh, (acts_some 9 rfl (by kernel_rfl) (by kernel_rfl)).symm, S⟩
            have e0 : ρ (.tmp 69) = .int .i64 z1 := by rw [hρ]; exact acts_eval_hit 6 rfl hd.1 (by rw [HSZ]; rfl) (by kernel_rfl)
            have e1 : ρ (.tmp 71) = .int .i64 z2 := by rw [hρ]; exact acts_eval_hit 8 rfl hd.2.1 (by rw [HSZ]; rfl) (by kernel_rfl)
            clear hρ
            go_simp
          · rintro f a' W h10 hd ⟨g, v', hh, rfl, S⟩
            refine wpOp_mem (v := .slice (some ⟨W.heap.size, 0, none⟩) 1 1) (w' := W.alloc (.cells #[.int .i64 z1, .int .i64 z2] 50)) rfl rfl (fun ρ hρ => ?_) (⟨W.heap.size, v', ⟨fun _ => rfl, hh.2⟩, acts_swap (by simp only [acts, h10, Bool.false_eq_true, if_false]) (k := 10) rfl (by kernel_rfl) (by kernel_rfl), S.map fun _ T => (Sat.optI rfl (((T.newBlk _ _).re [2, 0, 1]).drop)).swap⟩)
            have e0 : ρ (.tmp 72) = .agg #[.int .i64 z1, .int .i64 z2] := by rw [hρ]; exact acts_eval_hit 9 rfl hd.1 (by rw [HSZ]; rfl) (by kernel_rfl)
            clear hρ
            go_simp
          · rintro f a' W h11 hd ⟨g, v', hh, rfl, S⟩
            have q67 : (acts [(0, 63, .pointer (some ⟨q, 0, none⟩)), (1, 64, .pointer (some ⟨q, 0, none⟩)), (2, 65, .pointer (some ⟨q, 0, none⟩)), (3, 66, .pointer (some ⟨q, 14, none⟩)), (4, 67, u), (5, 68, .pointer (some ⟨r, 0, none⟩)), (6, 69, .int .i64 z1), (7, 70, .pointer (some ⟨r, 0, none⟩)), (8, 71, .int .i64 z2), (9, 72, .agg #[.int .i64 z1, .int .i64 z2]), (10, 73, .slice (some ⟨g, 0, none⟩) 1 1), (11, 74, v'), (12, 75, .pointer (some ⟨q, 0, none⟩)), (13, 76, .pointer (some ⟨q, 14, none⟩))] f a0).eval (.tmp 67) = u := acts_eval_hit 4 rfl hd.1 (by rw [HSZ]; rfl) (by kernel_rfl)
            have q73 : (acts [(0, 63, .pointer (some ⟨q, 0, none⟩)), (1, 64, .pointer (some ⟨q, 0, none⟩)), (2, 65, .pointer (some ⟨q, 0, none⟩)), (3, 66, .pointer (some ⟨q, 14, none⟩)), (4, 67, u), (5, 68, .pointer (some ⟨r, 0, none⟩)), (6, 69, .int .i64 z1), (7, 70, .pointer (some ⟨r, 0, none⟩)), (8, 71, .int .i64 z2), (9, 72, .agg #[.int .i64 z1, .int .i64 z2]), (10, 73, .slice (some ⟨g, 0, none⟩) 1 1), (11, 74, v'), (12, 75, .pointer (some ⟨q, 0, none⟩)), (13, 76, .pointer (some ⟨q, 14, none⟩))] f a0).eval (.tmp 73) = .slice (some ⟨g, 0, none⟩) 1 1 := acts_eval_hit 10 rfl hd.2.1 (by rw [HSZ]; rfl) (by kernel_rfl)
            (have z14 := no_of2 hh.2.2.1 h11; simp only [hd.2.1, h11, z14, cond_false] at S; obtain ⟨AA, cc, hs, T⟩ := S; have S2 := T.re [3, 0, 1, 2]; refine wpOp_list rfl ?_; refine st_append rfl _ _ 26 rfl 50 (.agg #[.int .i64 0, .int .i64 0]) 2 16 Try.underlying26 info_pr rfl (by omega) u n xs q67 S2 ⟨g, 0, none⟩ 1 1 [.int .i64 z1, .int .i64 z2] q73 rfl (fun j y hj => blk_cells (opt_iff.1 T.swap) j y hj) rfl (Nat.le_trans hbk (by decide)) (by omega) ?_; intro v2 w2 S3; refine ⟨g, v2, ⟨fun _ => hd.2.1, fun _ => hd.1, fun _ => rfl, hh.2.2.2⟩, acts_swap (by simp only [acts, h11, Bool.false_eq_true, if_false]) (k := 11) rfl (by kernel_rfl) (by kernel_rfl), ?_⟩; show RdF G1 w2 r (cond (f 8) _ (cond (f 6) _ _)) (opt (f 10) _ :: blk q (x1.cs _ (cond (f 14) v2 u)) _ :: _); rw [hd.2.1, z14]; exact ⟨AA, cc, hs, S3.re [1, 2, 3, 0]⟩)
          · rintro f a' W h12 hd ⟨g, v', hh, rfl, S⟩
            refine wpOp_run (v := .pointer (some ⟨q, 0, none⟩)) rfl rfl (fun ρ hρ => ?_) ⟨g, v', hh, (acts_some 12 rfl (by kernel_rfl) (by kernel_rfl)).symm, S⟩
            have e0 : ρ (.tmp 63) = .pointer (some ⟨q, 0, none⟩) := by rw [hρ]; exact acts_eval_hit 0 rfl hd.1 (by rw [HSZ]; rfl) (by kernel_rfl)
            clear hρ
            go_simp
          · rintro f a' W h13 hd ⟨g, v', hh, rfl, S⟩
            refine wpOp_run (v := .pointer (some ⟨q, 14, none⟩)) rfl rfl (fun ρ hρ => ?_) ⟨g, v', hh, (acts_some 13 rfl (by kernel_rfl) (by kernel_rfl)).symm, S⟩
            have e0 : ρ (.tmp 75) = .pointer (some ⟨q, 0, none⟩) := by rw [hρ]; exact acts_eval_hit 12 rfl hd.1 (by rw [HSZ]; rfl) (by kernel_rfl)
            clear hρ
            go_simp
          · rintro f a' W h14 hd ⟨g, v', hh, rfl, S⟩
            have q76 : (acts [(0, 63, .pointer (some ⟨q, 0, none⟩)), (1, 64, .pointer (some ⟨q, 0, none⟩)), (2, 65, .pointer (some ⟨q, 0, none⟩)), (3, 66, .pointer (some ⟨q, 14, none⟩)), (4, 67, u), (5, 68, .pointer (some ⟨r, 0, none⟩)), (6, 69, .int .i64 z1), (7, 70, .pointer (some ⟨r, 0, none⟩)), (8, 71, .int .i64 z2), (9, 72, .agg #[.int .i64 z1, .int .i64 z2]), (10, 73, .slice (some ⟨g, 0, none⟩) 1 1), (11, 74, v'), (12, 75, .pointer (some ⟨q, 0, none⟩)), (13, 76, .pointer (some ⟨q, 14, none⟩))] f a0).eval (.tmp 76) = .pointer (some ⟨q, 14, none⟩) := acts_eval_hit 13 rfl hd.1 (by rw [HSZ]; rfl) (by kernel_rfl)
            have q74 : (acts [(0, 63, .pointer (some ⟨q, 0, none⟩)), (1, 64, .pointer (some ⟨q, 0, none⟩)), (2, 65, .pointer (some ⟨q, 0, none⟩)), (3, 66, .pointer (some ⟨q, 14, none⟩)), (4, 67, u), (5, 68, .pointer (some ⟨r, 0, none⟩)), (6, 69, .int .i64 z1), (7, 70, .pointer (some ⟨r, 0, none⟩)), (8, 71, .int .i64 z2), (9, 72, .agg #[.int .i64 z1, .int .i64 z2]), (10, 73, .slice (some ⟨g, 0, none⟩) 1 1), (11, 74, v'), (12, 75, .pointer (some ⟨q, 0, none⟩)), (13, 76, .pointer (some ⟨q, 14, none⟩))] f a0).eval (.tmp 74) = v' := acts_eval_hit 11 rfl hd.2.1 (by rw [HSZ]; rfl) (by kernel_rfl)
            (simp only [hd.2.1, h14, cond_true, cond_false] at S; obtain ⟨AA, cc, hs, T⟩ := S; obtain ⟨A', c', rfl, -⟩ := (T.re [3, 0, 1, 2]).ownSlice; refine wpOp_list rfl ?_; refine st_set rfl _ _ _ rfl _ _ _ q76 q74 rfl _ _ (T.re [2, 0, 1]) (by kernel_rfl) (by simp [ItS.cs]) fun W' S' => ?_; refine ⟨g, _, ⟨hh.1, hh.2.1, fun _ => hd.2.1, hh.2.2.2⟩, (acts_none 14 (by kernel_rfl)).symm, ?_⟩; show RdF G1 W' r (cond (f 8) _ (cond (f 6) _ _)) (_ :: _ :: ownS _ _ (cond (f 11) _ _) (cond (f 11) _ _) (cond (f 11) _ _) :: _); rw [hd.2.1]; exact ⟨AA, cc, hs, S'.re [1, 2, 0]⟩)
        · rintro a' W ⟨g, v', -, rfl, S6⟩
          subst ha0
          simp only [acts, if_true, Act.put, List.setIfInBounds_toArray, List.set_cons_succ, List.set_cons_zero]
          have S7 : RdF G1 W r ((rest.drop 2).drop 4) (blk q (x1.cs (.slice none 0 0) v') 28 :: ownS 50 2 v' (n + 1) (xs ++ [.int .i64 z1, .int .i64 z2]) :: blk aR #[.int .i64 0, .bool false] 31 :: blk aF #[.int .i64 4, .int .i64 fl, .int .i64 s, .slice A n0 c] 24 :: l) := S6.map fun _ T => T.drop2
          rw [← HE2.out, show n + 1 = (ps ++ [(z1, z2)]).length by simp [hn]] at S7
          have hla2 := S7.lenAt
          have hln := HLN.out
          have HA2 := Lib.hid hla2
          clear S5 S6 HSZ E0 E5 hla2
          go_wp2_with fail
          go_roundw
          case rel => exact ⟨_, ps ++ [(z1, z2)], v', HS2.out, by omega, S7⟩
          case measure => rw [HA2.out, HLA.out, hln]; omega
      · have hgt : decide ((rest.length : Int) > 0) = false := decide_eq_false (by omega)
        have hnil : rest = [] := List.length_eq_zero_iff.1 (by omega)
        have hp : ps = pairsIn bs := by
          have h1 := HPS.out
          rw [hnil] at h1
          rw [h1]
          simp [pairsIn]
        have S5 := S.gone.swap
        rw [hp] at S5
        obtain ⟨G2, hG2, S6, hu⟩ := rpr_of S5
        have hG := hG1.trans hG2
        clear S5
        go_upto_region 30 with (first | (go_at_call 34; (with_reducible refine (hl).mono ?_); rintro e w9 ⟨rfl, rfl⟩))
        clear hl hla hgt S hp hnil hlt hr6
        have T9 := S6.swap
        have f0 := T9.frozen 0
        have f1 := T9.frozen 1
        have b0 := T9.cell 0
        have b1 := T9.cell 1
        have HT9 := Lib.hid ((T9.setCell 0 (.int .i64 (0))).setCell 1 (.bool (false)))
        clear T9 S6
        go_wp2_with fail
        refine ret_cell HT9.out 4 31 rfl _ rfl Try.underlying31 rfl (by kernel_rfl) rfl ?_
        exact hK.out _ _ ⟨G2, _, _, hG, rfl, SlB.nil _, hu, HT9.out.drop.drop2⟩
  · have hX : (⟨(0, false), bareS 5 s n0, [], []⟩ : RdRes) = res := by rw [← HX.out, HN0.out]; rfl
    subst hX
    clear HX
    have S4 := S3.gone
    clear S3
    have c0 := (S4.re [2, 0, 1]).cell 0
    have T9 := S4.swap
    have f0 := T9.frozen 0
    have f1 := T9.frozen 1
    have b0 := T9.cell 0
    have b1 := T9.cell 1
    have HT9 := Lib.hid ((T9.setCell 0 (.int .i64 (0))).setCell 1 (.bool (false)))
    clear T9 S4
    go_wp2_with fail
    refine ret_cell HT9.out 4 31 rfl _ rfl Try.underlying31 rfl (by kernel_rfl) rfl ?_
    exact hK.out _ _ ⟨G1, _, _, hG1, rfl, SlB.nil _, RPr.nil _, HT9.out.drop.drop2⟩
  · have hX : (⟨(0, false), { bareS 6 s n0 with a := hasF fl 1 }, bs, []⟩ : RdRes) = res := by rw [← HX.out, HN0.out]; rfl
    subst hX
    clear HX
    have hh := rf_has S3 6 fl s 1 (.slice A n0 c) (by decide)
    have c0 := (S3.gone.re [2, 0, 1]).cell 0
    have c1 := (S3.gone.re [2, 0, 1]).cell 1
    have c2 := (S3.gone.re [2, 0, 1]).cell 2
    have c3 := (S3.gone.re [2, 0, 1]).cell 3
    clear S3
    go_wp2_with fail
    (with_reducible refine hh.mono ?_)
    clear hh c0 c1 c2 c3
    rintro e w2 ⟨rfl, S4⟩
    have hr := rf_rest S4
    clear S4
    go_wp2_with fail
    (with_reducible refine hr.mono ?_)
    clear hr
    rintro e w3 ⟨v2, rfl, hv2, S5⟩
    obtain ⟨V2, cv2, rfl, -, -, -⟩ := hv2.form
    have g5 := S5.frozen 5
    have h5 : World.cell? _ ⟨q, 5, none⟩ = some _ := S5.cell 5
    have S6 : Sat G1 _ (blk q (({ bareS 6 s n0 with a := hasF fl 1 }).cs (.slice none 0 0) (.slice none 0 0)) 28 :: blk aR #[.int .i64 0, .bool false] 31 :: blk aF #[.int .i64 6, .int .i64 fl, .int .i64 s, .slice A n0 c] 24 :: l) := S5.setCell 5 (.bool (hasF fl 1))
    have g2 := S6.frozen 2
    have h2 : World.cell? _ ⟨q, 2, none⟩ = some _ := S6.cell 2
    have S7 : Sat G1 _ (blk q (({ bareS 6 s n0 with a := hasF fl 1 }).cs (.slice V2 bs.length cv2) (.slice none 0 0)) 28 :: blk aR #[.int .i64 0, .bool false] 31 :: blk aF #[.int .i64 6, .int .i64 fl, .int .i64 s, .slice A n0 c] 24 :: l) := S6.setCell 2 (.slice V2 bs.length cv2)
    go_upto_region 30 with fail
    refine wp_world S7 fun w4 S8 => ?_
    clear S5 S6 S7 g5 h5 g2 h2
    have T9 := S8.swap
    have f0 := T9.frozen 0
    have f1 := T9.frozen 1
    have b0 := T9.cell 0
    have b1 := T9.cell 1
    have HT9 := Lib.hid ((T9.setCell 0 (.int .i64 (0))).setCell 1 (.bool (false)))
    clear T9 S8
    go_wp2_with fail
    refine ret_cell HT9.out 4 31 rfl _ rfl Try.underlying31 rfl (by kernel_rfl) rfl ?_
    exact hK.out _ _ ⟨G1, _, _, hG1, rfl, hv2, RPr.nil _, HT9.out.drop.drop2⟩
  · have hX : (⟨(0, false), { bareS 7 s n0 with last := (numOf (bs.take 4) : Int) % 2147483648, code := (numOf ((bs.drop 4).take 4) : Int) }, bs.drop 8, []⟩ : RdRes) = res := by rw [← HX.out, HN0.out]; rfl
    subst hX
    clear HX
    have hb8 : 8 ≤ bs.length := len8 HLK.out
    have hn := pl_number S3 4 (by omega) (by omega)
    change Calls _ _ #[_, .int .i64 4] _ _ at hn
    have c0 := (S3.gone.re [2, 0, 1]).cell 0
    have hm := pl_mask (numOf (bs.take 4))
    clear S3
    generalize numOf (bs.take 4) = z at *
    go_wp2_with fail
    (with_reducible refine hn.mono ?_)
    clear hn c0
    rintro e w2 ⟨rfl, S4⟩
    have hn := pl_number S4 4 (by rw [List.length_drop]; omega) (by omega)
    change Calls _ _ #[_, .int .i64 4] _ _ at hn
    rw [List.drop_drop] at hn
    clear S4
    generalize numOf ((bs.drop 4).take 4) = y at *
    go_wp2_with fail
    (with_reducible refine hn.mono ?_)
    clear hn
    rintro e w3 ⟨rfl, S4⟩
    have hr := rf_rest S4
    clear S4
    go_wp2_with fail
    (with_reducible refine hr.mono ?_)
    clear hr
    rintro e w3 ⟨v2, rfl, hv2, S5⟩
    generalize bs.drop 8 = d8 at *
    obtain ⟨V2, cv2, rfl, -, -, -⟩ := hv2.form
    have g8 := S5.frozen 8
    have h8 : World.cell? _ ⟨q, 8, none⟩ = some _ := S5.cell 8
    have S6 : Sat G1 _ (blk q (({ bareS 7 s n0 with last := (z : Int) % 2147483648 }).cs (.slice none 0 0) (.slice none 0 0)) 28 :: blk aR #[.int .i64 0, .bool false] 31 :: blk aF #[.int .i64 7, .int .i64 fl, .int .i64 s, .slice A n0 c] 24 :: l) := S5.setCell 8 (.int .i64 ((z : Int) % 2147483648))
    have g7 := S6.frozen 7
    have h7 : World.cell? _ ⟨q, 7, none⟩ = some _ := S6.cell 7
    have S7 : Sat G1 _ (blk q (({ bareS 7 s n0 with last := (z : Int) % 2147483648, code := (y : Int) }).cs (.slice none 0 0) (.slice none 0 0)) 28 :: blk aR #[.int .i64 0, .bool false] 31 :: blk aF #[.int .i64 7, .int .i64 fl, .int .i64 s, .slice A n0 c] 24 :: l) := S6.setCell 7 (.int .i64 (y : Int))
    have g2 := S7.frozen 2
    have h2 : World.cell? _ ⟨q, 2, none⟩ = some _ := S7.cell 2
    have S8 : Sat G1 _ (blk q (({ bareS 7 s n0 with last := (z : Int) % 2147483648, code := (y : Int) }).cs (.slice V2 d8.length cv2) (.slice none 0 0)) 28 :: blk aR #[.int .i64 0, .bool false] 31 :: blk aF #[.int .i64 7, .int .i64 fl, .int .i64 s, .slice A n0 c] 24 :: l) := S7.setCell 2 (.slice V2 d8.length cv2)
    go_upto_region 30 with fail
    refine wp_world S8 fun w4 S9 => ?_
    clear S5 S6 S7 S8 g8 h8 g7 h7 g2 h2 hm
    have T9 := S9.swap
    have f0 := T9.frozen 0
    have f1 := T9.frozen 1
    have b0 := T9.cell 0
    have b1 := T9.cell 1
    have HT9 := Lib.hid ((T9.setCell 0 (.int .i64 (0))).setCell 1 (.bool (false)))
    clear T9 S9
    go_wp2_with fail
    refine ret_cell HT9.out 4 31 rfl _ rfl Try.underlying31 rfl (by kernel_rfl) rfl ?_
    exact hK.out _ _ ⟨G1, _, _, hG1, rfl, hv2, RPr.nil _, HT9.out.drop.drop2⟩
  · have h4 : bs.length = 4 := len4 (.inr rfl) HLK.out
    have hn := pl_number S3 4 (by omega) (by omega)
    change Calls _ _ #[_, .int .i64 4] _ _ at hn
    have c0 := (S3.gone.re [2, 0, 1]).cell 0
    have hm := pl_mask (numOf (bs.take 4))
    clear S3
    have hX : (⟨if (numOf (bs.take 4) : Int) % 2147483648 == 0 then (101, s == 0) else (0, false), { bareS 8 s n0 with inc := (numOf (bs.take 4) : Int) % 2147483648 }, [], []⟩ : RdRes) = res := by rw [← HX.out, HN0.out]; rfl
    generalize numOf (bs.take 4) = z at *
    go_wp2_with fail
    (with_reducible refine hn.mono ?_)
    clear hn c0 HX
    rintro e w2 ⟨rfl, S4⟩
    have S5 := S4.gone
    have g9 := S5.frozen 9
    have h9 : World.cell? _ ⟨q, 9, none⟩ = some _ := S5.cell 9
    have S6 : Sat G1 _ (blk q (({ bareS 8 s n0 with inc := (z : Int) % 2147483648 }).cs (.slice none 0 0) (.slice none 0 0)) 28 :: blk aR #[.int .i64 0, .bool false] 31 :: blk aF #[.int .i64 8, .int .i64 fl, .int .i64 s, .slice A n0 c] 24 :: l) := S5.setCell 9 (.int .i64 ((z : Int) % 2147483648))
    go_upto_region 26 with fail
    refine wp_world S6 fun w3 S7 => ?_
    clear S4 S5 S6 g9 h9 hm
    have b9 : w3.cell? ⟨q, 9, none⟩ = some (.int .i64 ((z : Int) % 2147483648)) := S7.cell 9
    cases hz : ((z : Int) % 2147483648 == 0) with
    | true =>
      have hX2 : (⟨(101, s == 0), { bareS 8 s n0 with inc := (z : Int) % 2147483648 }, [], []⟩ : RdRes) = res := by rw [← hX, hz]; rfl
      subst hX2
      clear hX
      have c2 := (S7.re [2, 0, 1]).cell 2
      have T9 := S7.swap
      have f0 := T9.frozen 0
      have f1 := T9.frozen 1
      have b0 := T9.cell 0
      have b1 := T9.cell 1
      have HT9 := Lib.hid ((T9.setCell 0 (.int .i64 (101))).setCell 1 (.bool (s == 0)))
      clear T9 S7
      go_wp2_with fail
      refine ret_cell HT9.out 4 31 rfl _ rfl Try.underlying31 rfl (by kernel_rfl) rfl ?_
      exact hK.out _ _ ⟨G1, _, _, hG1, rfl, SlB.nil _, RPr.nil _, HT9.out.drop.drop2⟩
    | false =>
      have hX2 : (⟨(0, false), { bareS 8 s n0 with inc := (z : Int) % 2147483648 }, [], []⟩ : RdRes) = res := by rw [← hX, hz]; rfl
      subst hX2
      clear hX
      have T9 := S7.swap
      have f0 := T9.frozen 0
      have f1 := T9.frozen 1
      have b0 := T9.cell 0
      have b1 := T9.cell 1
      have HT9 := Lib.hid ((T9.setCell 0 (.int .i64 (0))).setCell 1 (.bool (false)))
      clear T9 S7
      go_wp2_with fail
      refine ret_cell HT9.out 4 31 rfl _ rfl Try.underlying31 rfl (by kernel_rfl) rfl ?_
      exact hK.out _ _ ⟨G1, _, _, hG1, rfl, SlB.nil _, RPr.nil _, HT9.out.drop.drop2⟩
  · have hX : (⟨(0, false), { bareS 9 s n0 with l := hasF fl 4 }, bs, []⟩ : RdRes) = res := by rw [← HX.out, HN0.out]; rfl
    subst hX
    clear HX
    have hh := rf_has S3 9 fl s 4 (.slice A n0 c) (by decide)
    have c0 := (S3.gone.re [2, 0, 1]).cell 0
    have c1 := (S3.gone.re [2, 0, 1]).cell 1
    have c2 := (S3.gone.re [2, 0, 1]).cell 2
    have c3 := (S3.gone.re [2, 0, 1]).cell 3
    clear S3
    go_wp2_with fail
    (with_reducible refine hh.mono ?_)
    clear hh c0 c1 c2 c3
    rintro e w2 ⟨rfl, S4⟩
    have hr := rf_rest S4
    clear S4
    go_wp2_with fail
    (with_reducible refine hr.mono ?_)
    clear hr
    rintro e w3 ⟨v2, rfl, hv2, S5⟩
    obtain ⟨V2, cv2, rfl, -, -, -⟩ := hv2.form
    have g4 := S5.frozen 4
    have h4 : World.cell? _ ⟨q, 4, none⟩ = some _ := S5.cell 4
    have S6 : Sat G1 _ (blk q (({ bareS 9 s n0 with l := hasF fl 4 }).cs (.slice none 0 0) (.slice none 0 0)) 28 :: blk aR #[.int .i64 0, .bool false] 31 :: blk aF #[.int .i64 9, .int .i64 fl, .int .i64 s, .slice A n0 c] 24 :: l) := S5.setCell 4 (.bool (hasF fl 4))
    have g2 := S6.frozen 2
    have h2 : World.cell? _ ⟨q, 2, none⟩ = some _ := S6.cell 2
    have S7 : Sat G1 _ (blk q (({ bareS 9 s n0 with l := hasF fl 4 }).cs (.slice V2 bs.length cv2) (.slice none 0 0)) 28 :: blk aR #[.int .i64 0, .bool false] 31 :: blk aF #[.int .i64 9, .int .i64 fl, .int .i64 s, .slice A n0 c] 24 :: l) := S6.setCell 2 (.slice V2 bs.length cv2)
    go_upto_region 30 with fail
    refine wp_world S7 fun w4 S8 => ?_
    clear S5 S6 S7 g4 h4 g2 h2
    have T9 := S8.swap
    have f0 := T9.frozen 0
    have f1 := T9.frozen 1
    have b0 := T9.cell 0
    have b1 := T9.cell 1
    have HT9 := Lib.hid ((T9.setCell 0 (.int .i64 (0))).setCell 1 (.bool (false)))
    clear T9 S8
    go_wp2_with fail
    refine ret_cell HT9.out 4 31 rfl _ rfl Try.underlying31 rfl (by kernel_rfl) rfl ?_
    exact hK.out _ _ ⟨G1, _, _, hG1, rfl, hv2, RPr.nil _, HT9.out.drop.drop2⟩
  · have hX : (⟨(0, false), bareS k s n0, [], []⟩ : RdRes) = res := by rw [← HX.out, HN0.out]; simp [readS, k0, k1, k2, k3, k4, k6, k7, k8, k9]
    subst hX
    clear HX
    have S4 := S3.gone
    clear S3
    have c0 := (S4.re [2, 0, 1]).cell 0
    have T9 := S4.swap
    have f0 := T9.frozen 0
    have f1 := T9.frozen 1
    have b0 := T9.cell 0
    have b1 := T9.cell 1
    have HT9 := Lib.hid ((T9.setCell 0 (.int .i64 (0))).setCell 1 (.bool (false)))
    clear T9 S4
    go_wp2_with fail
    refine ret_cell HT9.out 4 31 rfl _ rfl Try.underlying31 rfl (by kernel_rfl) rfl ?_
    exact hK.out _ _ ⟨G1, _, _, hG1, rfl, SlB.nil _, RPr.nil _, HT9.out.drop.drop2⟩
end
end Go.Proofs.Ytdfdcenbpanegaa
