/- The walk over padded. -/
import Derived.Test.YtdfdcenbpanegaaItm
set_option linter.unusedSimpArgs false
set_option linter.unusedVariables false
namespace Go.Proofs.Ytdfdcenbpanegaa
open Go.RowKit

def padE (pad : Nat) (x : ItS) (r : List UInt8) : (Int × Bool) × ItS × List UInt8 := if r.length < pad then ((101, true), x, []) else ((0, false), x, r.take (r.length - pad))
def padW (k fl : Int) (pad : Nat) (x : ItS) (r : List UInt8) : (Int × Bool) × ItS × List UInt8 :=
  if k == 1 && hasF fl 32 then (if r.length < 5 then ((106, true), x, []) else padE pad (wghS x r) (r.drop 5)) else padE pad x r
/-- The text of a payload that may be padded. -/
def padS (k fl : Int) (x : ItS) (bs : List UInt8) : (Int × Bool) × ItS × List UInt8 :=
  if hasF fl 8 then (match bs with | [] => ((106, true), x, []) | b :: r => padW k fl b.toNat x r) else padW k fl 0 x bs
section
variable {G : Gnd} {w : World} {l : List Asrt} {q r : Nat} {bs : List UInt8}
theorem rf_has (H : RdF G w r bs l) (t f s flag : Int) (v : Value) (hf : flag = 1 ∨ flag = 4 ∨ flag = 8 ∨ flag = 32) :
    Calls Try.prog 28 #[.agg #[.int .i64 t, .int .i64 f, .int .i64 s, v], .int .i64 flag] w fun e w' => e = .returned (.bool (hasF f flag)) ∧ RdF G w' r bs l := by
  obtain ⟨A, c, hs, H⟩ := H
  exact (pl_has H t f s flag v hf).mono (by rintro e w' ⟨rfl, S⟩; exact ⟨rfl, A, c, hs, S⟩)
theorem RdF.re {l' : List Asrt} (H : RdF G w r bs l) (h : l.Perm l') : RdF G w r bs l' := by
  obtain ⟨A, c, hs, H⟩ := H
  exact ⟨A, c, hs, H.map fun _ hh => sepAll_perm (h.cons _) hh⟩
set_option maxHeartbeats 8000000 in
set_option maxRecDepth 100000 in
theorem pl_padded (x : ItS) (u : Value) (H : Sat G w (blk q (x.cs (.slice none 0 0) u) 28 :: l)) (k fl s : Int) (v : Value) (hv : SlB (cellR G.ro) v bs) (hlen : bs.length ≤ 140737488355328) (hk : k = 0 ∨ k = 1) :
    Calls Try.prog 30 #[.pointer (some ⟨q, 0, none⟩), .agg #[.int .i64 k, .int .i64 fl, .int .i64 s, v]] w fun e w' => ∃ G' v', G.le G' ∧ e = .returned (.agg #[.int .i64 (padS k fl x bs).1.1, .bool (padS k fl x bs).1.2]) ∧ SlB (Go.Proofs.Ytdfdcenbpanegaa.cellR G'.ro) v' (padS k fl x bs).2.2 ∧ Sat G' w' (blk q ((padS k fl x bs).2.1.cs v' u) 28 :: l) := by
  refine calls_any fun K hK => ?_
  obtain ⟨A, c, hvv, -, -, -⟩ := hv.form
  obtain ⟨n0, hn0⟩ : ∃ n0, n0 = bs.length := ⟨_, rfl⟩
  rw [← hn0] at hvv
  subst hvv
  have hn0b : n0 ≤ 140737488355328 := by omega
  clear hn0
  have S1 := (H.newBlk #[.int .i64 k, .int .i64 fl, .int .i64 s, .slice A n0 c] 24).newBlk #[.int .i64 0, .bool false] 31
  simp only [World.size_alloc] at S1
  have S2 : Sat G _ (blk q (x.cs (.slice none 0 0) u) 28 :: blk (w.heap.size + 1) #[.int .i64 0, .bool false] 31 :: blk w.heap.size #[.int .i64 k, .int .i64 fl, .int .i64 s, .slice A n0 c] 24 :: l) := S1.re [2, 0, 1]
  have hnew := rf_new S2 (.slice A n0 c) bs hv hlen
  clear H S1 S2 hv
  generalize hx : padS k fl x bs = res at *
  have HX := Lib.hid hx
  have HLEN := Lib.hid hlen
  clear hx hlen
  go_enter Try.func30, Try.ntmps30
  go_wp2_with fail
  (with_reducible refine hnew.mono ?_)
  clear hnew
  rintro e w1 ⟨r, G1, hG1, rfl, S3⟩
  generalize w.heap.size + 1 = aR at *
  generalize w.heap.size = aF at *
  have hh := rf_has S3 k fl s 8 (.slice A n0 c) (by decide)
  have c0 := (S3.gone.re [2, 0, 1]).cell 0
  have c1 := (S3.gone.re [2, 0, 1]).cell 1
  have c2 := (S3.gone.re [2, 0, 1]).cell 2
  have c3 := (S3.gone.re [2, 0, 1]).cell 3
  cases h8 : hasF fl 8 with
  | false =>
    rw [h8] at hh
    clear S3
    go_wp2_with fail
    (with_reducible refine hh.mono ?_)
    clear hh c0 c1 c2 c3
    rintro e w2 ⟨rfl, S4⟩
    have hX : padW k fl 0 x bs = res := by rw [← HX.out]; simp only [padS, h8, Bool.false_eq_true, if_false]
    have hL : bs.length ≤ 140737488355328 := HLEN.out
    clear h8 HX HLEN
    generalize bs = rr at *
    rcases hk with rfl | rfl
    · replace hX : padE 0 x rr = res := by rw [← hX]; rfl
      have c0 := (S4.gone.re [2, 0, 1]).cell 0
      have c1 := (S4.gone.re [2, 0, 1]).cell 1
      have c2 := (S4.gone.re [2, 0, 1]).cell 2
      have c3 := (S4.gone.re [2, 0, 1]).cell 3
      by_cases hp : (rr).length < 0
      · exact absurd hp (Nat.not_lt_zero _)
      · have hX2 : ((0, false), x, (rr).take ((rr).length)) = res := by rw [← hX]; unfold padE; rw [if_neg (by omega)]; try rfl
        subst hX2
        clear hX
        have hl := rf_left S4
        have hsb : True := trivial
        have htk := rf_take S4 ((rr).length) (by omega)
        skip
        have hl2 := hl
        clear S4 hsb
        go_wp2_with fail
        (with_reducible refine hl.mono ?_)
        clear hl
        rintro e w7 ⟨rfl, rfl⟩
        go_wp2_with fail
        (with_reducible refine hl2.mono ?_)
        clear hl2
        rintro e w7 ⟨rfl, rfl⟩
        go_wp2_with fail
        (with_reducible refine htk.mono ?_)
        clear htk
        rintro e w8 ⟨v2, rfl, hv2, S8⟩
        have S9 := S8.gone
        clear S8
        have f2 := S9.frozen 2
        have b2 : w8.cell? ⟨q, 2, none⟩ = some _ := S9.cell 2
        have S10 : Sat G1 (w8.setCell ⟨q, 2, none⟩ v2) (blk aR #[.int .i64 0, .bool false] 31 :: blk q ((x).cs v2 u) 28 :: blk aF #[.int .i64 _, .int .i64 fl, .int .i64 s, .slice A n0 c] 24 :: l) := (S9.setCell 2 v2).swap
        obtain ⟨V2, n2, cv2, rfl⟩ : ∃ V n cv, v2 = .slice V n cv := by obtain ⟨V, cv, e, -⟩ := hv2.form; exact ⟨V, _, cv, e⟩
        go_upto_region 13 with fail
        refine wp_world S10 fun w9 S11 => ?_
        have f0 := S11.frozen 0
        have f1 := S11.frozen 1
        have b0 := S11.cell 0
        have b1 := S11.cell 1
        have HS11 := Lib.hid ((S11.setCell 0 (.int .i64 0)).setCell 1 (.bool false))
        clear S9 S10 S11 f2 b2
        go_wp2_with fail
        refine ret_cell HS11.out 4 31 rfl _ rfl Try.underlying31 rfl (by kernel_rfl) rfl ?_
        exact hK.out _ _ ⟨G1, _, hG1, rfl, hv2, HS11.out.drop.swap.drop⟩
    · have hh := rf_has S4 1 fl s 32 (.slice A n0 c) (by decide)
      have c0 := (S4.gone.re [2, 0, 1]).cell 0
      have c1 := (S4.gone.re [2, 0, 1]).cell 1
      have c2 := (S4.gone.re [2, 0, 1]).cell 2
      have c3 := (S4.gone.re [2, 0, 1]).cell 3
      cases h32 : hasF fl 32 with
      | false =>
        rw [h32] at hh
        replace hX : padE 0 x rr = res := by rw [← hX]; simp only [padW, h32, Bool.and_false, Bool.false_eq_true, if_false]
        clear S4 h32
        go_wp2_with fail
        (with_reducible refine hh.mono ?_)
        clear hh c0 c1 c2 c3
        rintro e w5 ⟨rfl, S4⟩
        by_cases hp : (rr).length < 0
        · exact absurd hp (Nat.not_lt_zero _)
        · have hX2 : ((0, false), x, (rr).take ((rr).length)) = res := by rw [← hX]; unfold padE; rw [if_neg (by omega)]; try rfl
          subst hX2
          clear hX
          have hl := rf_left S4
          have hsb : True := trivial
          have htk := rf_take S4 ((rr).length) (by omega)
          skip
          have hl2 := hl
          clear S4 hsb
          go_wp2_with fail
          (with_reducible refine hl.mono ?_)
          clear hl
          rintro e w7 ⟨rfl, rfl⟩
          go_wp2_with fail
          (with_reducible refine hl2.mono ?_)
          clear hl2
          rintro e w7 ⟨rfl, rfl⟩
          go_wp2_with fail
          (with_reducible refine htk.mono ?_)
          clear htk
          rintro e w8 ⟨v2, rfl, hv2, S8⟩
          have S9 := S8.gone
          clear S8
          have f2 := S9.frozen 2
          have b2 : w8.cell? ⟨q, 2, none⟩ = some _ := S9.cell 2
          have S10 : Sat G1 (w8.setCell ⟨q, 2, none⟩ v2) (blk aR #[.int .i64 0, .bool false] 31 :: blk q ((x).cs v2 u) 28 :: blk aF #[.int .i64 _, .int .i64 fl, .int .i64 s, .slice A n0 c] 24 :: l) := (S9.setCell 2 v2).swap
          obtain ⟨V2, n2, cv2, rfl⟩ : ∃ V n cv, v2 = .slice V n cv := by obtain ⟨V, cv, e, -⟩ := hv2.form; exact ⟨V, _, cv, e⟩
          go_upto_region 13 with fail
          refine wp_world S10 fun w9 S11 => ?_
          have f0 := S11.frozen 0
          have f1 := S11.frozen 1
          have b0 := S11.cell 0
          have b1 := S11.cell 1
          have HS11 := Lib.hid ((S11.setCell 0 (.int .i64 0)).setCell 1 (.bool false))
          clear S9 S10 S11 f2 b2
          go_wp2_with fail
          refine ret_cell HS11.out 4 31 rfl _ rfl Try.underlying31 rfl (by kernel_rfl) rfl ?_
          exact hK.out _ _ ⟨G1, _, hG1, rfl, hv2, HS11.out.drop.swap.drop⟩
      | true =>
        rw [h32] at hh
        by_cases h5 : rr.length < 5
        · have hX2 : ((106, true), x, []) = res := by rw [← hX]; simp only [padW, h32, if_pos h5, BEq.rfl, Bool.and_self, if_true]
          subst hX2
          clear hX S4 h32
          go_wp2_with fail
          (with_reducible refine hh.mono ?_)
          clear hh c0 c1 c2 c3
          rintro e w5 ⟨rfl, S4⟩
          have hw := pl_weigh_not S4 (.pointer (some ⟨q, 0, none⟩)) h5
          go_wp2_with fail
          (with_reducible refine hw.mono ?_)
          clear hw
          rintro e w6 ⟨rfl, rfl⟩
          have hcn := pl_conn S4.gone 106
          clear S4
          go_wp2_with fail
          (with_reducible refine hcn.mono ?_)
          clear hcn
          rintro e w8 ⟨rfl, S8⟩
          have S9 := S8.swap
          have f0 := S9.frozen 0
          have f1 := S9.frozen 1
          have b0 := S9.cell 0
          have b1 := S9.cell 1
          have HS9 := Lib.hid ((S9.setCell 0 (.int .i64 106)).setCell 1 (.bool true))
          clear S8 S9
          go_wp2_with fail
          refine ret_cell HS9.out 4 31 rfl _ rfl Try.underlying31 rfl (by kernel_rfl) rfl ?_
          exact hK.out _ _ ⟨G1, _, hG1, rfl, SlB.nil _, HS9.out.drop.swap.drop⟩
        · replace hX : padE 0 (wghS x rr) (rr.drop 5) = res := by rw [← hX]; simp only [padW, h32, if_neg h5, BEq.rfl, Bool.and_self, if_true]
          clear S4 h32
          go_wp2_with fail
          (with_reducible refine hh.mono ?_)
          clear hh c0 c1 c2 c3
          rintro e w5 ⟨rfl, S4⟩
          have hw := pl_weigh x _ u S4 (by omega)
          clear S4
          go_wp2_with fail
          (with_reducible refine hw.mono ?_)
          clear hw
          rintro e w6 ⟨rfl, S4⟩
          have hL5 : (rr.drop 5).length ≤ 140737488355328 := by rw [List.length_drop]; omega
          generalize wghS x rr = x5 at *
          generalize rr.drop 5 = r5 at *
          by_cases hp : (r5).length < 0
          · exact absurd hp (Nat.not_lt_zero _)
          · have hX2 : ((0, false), x5, (r5).take ((r5).length)) = res := by rw [← hX]; unfold padE; rw [if_neg (by omega)]; try rfl
            subst hX2
            clear hX
            have hl := rf_left S4
            have hsb : True := trivial
            have htk := rf_take S4 ((r5).length) (by omega)
            skip
            have hl2 := hl
            clear S4 hsb
            go_wp2_with fail
            (with_reducible refine hl.mono ?_)
            clear hl
            rintro e w7 ⟨rfl, rfl⟩
            go_wp2_with fail
            (with_reducible refine hl2.mono ?_)
            clear hl2
            rintro e w7 ⟨rfl, rfl⟩
            go_wp2_with fail
            (with_reducible refine htk.mono ?_)
            clear htk
            rintro e w8 ⟨v2, rfl, hv2, S8⟩
            have S9 := S8.gone
            clear S8
            have f2 := S9.frozen 2
            have b2 : w8.cell? ⟨q, 2, none⟩ = some _ := S9.cell 2
            have S10 : Sat G1 (w8.setCell ⟨q, 2, none⟩ v2) (blk aR #[.int .i64 0, .bool false] 31 :: blk q ((x5).cs v2 u) 28 :: blk aF #[.int .i64 _, .int .i64 fl, .int .i64 s, .slice A n0 c] 24 :: l) := (S9.setCell 2 v2).swap
            obtain ⟨V2, n2, cv2, rfl⟩ : ∃ V n cv, v2 = .slice V n cv := by obtain ⟨V, cv, e, -⟩ := hv2.form; exact ⟨V, _, cv, e⟩
            go_upto_region 13 with fail
            refine wp_world S10 fun w9 S11 => ?_
            have f0 := S11.frozen 0
            have f1 := S11.frozen 1
            have b0 := S11.cell 0
            have b1 := S11.cell 1
            have HS11 := Lib.hid ((S11.setCell 0 (.int .i64 0)).setCell 1 (.bool false))
            clear S9 S10 S11 f2 b2
            go_wp2_with fail
            refine ret_cell HS11.out 4 31 rfl _ rfl Try.underlying31 rfl (by kernel_rfl) rfl ?_
            exact hK.out _ _ ⟨G1, _, hG1, rfl, hv2, HS11.out.drop.swap.drop⟩
  | true =>
    rw [h8] at hh
    cases bs with
    | nil =>
      have hX : ((106, true), x, []) = res := by rw [← HX.out]; simp only [padS, h8, if_true]
      subst hX
      clear S3 h8 HX
      go_wp2_with fail
      (with_reducible refine hh.mono ?_)
      clear hh c0 c1 c2 c3
      rintro e w2 ⟨rfl, S4⟩
      have hb := rf_byte_not S4
      go_wp2_with fail
      (with_reducible refine hb.mono ?_)
      clear hb
      rintro e w3 ⟨rfl, rfl⟩
      have hcn := pl_conn S4.gone 106
      clear S4
      go_wp2_with fail
      (with_reducible refine hcn.mono ?_)
      clear hcn
      rintro e w8 ⟨rfl, S8⟩
      have S9 := S8.swap
      have f0 := S9.frozen 0
      have f1 := S9.frozen 1
      have b0 := S9.cell 0
      have b1 := S9.cell 1
      have HS9 := Lib.hid ((S9.setCell 0 (.int .i64 106)).setCell 1 (.bool true))
      clear S8 S9
      go_wp2_with fail
      refine ret_cell HS9.out 4 31 rfl _ rfl Try.underlying31 rfl (by kernel_rfl) rfl ?_
      exact hK.out _ _ ⟨G1, _, hG1, rfl, SlB.nil _, HS9.out.drop.swap.drop⟩
    | cons b rr =>
      have hX : padW k fl b.toNat x rr = res := by rw [← HX.out]; simp only [padS, h8, if_true]
      clear S3 h8 HX
      go_wp2_with fail
      (with_reducible refine hh.mono ?_)
      clear hh c0 c1 c2 c3
      rintro e w2 ⟨rfl, S4⟩
      have hb := rf_byte S4
      clear S4
      go_wp2_with fail
      (with_reducible refine hb.mono ?_)
      clear hb
      rintro e w3 ⟨rfl, S4⟩
      have hL : rr.length ≤ 140737488355328 := by have := HLEN.out; simp only [List.length_cons] at this; omega
      have hpb := b.toNat_lt
      clear HLEN
      generalize b.toNat = pd at *
      rcases hk with rfl | rfl
      · replace hX : padE pd x rr = res := by rw [← hX]; rfl
        have c0 := (S4.gone.re [2, 0, 1]).cell 0
        have c1 := (S4.gone.re [2, 0, 1]).cell 1
        have c2 := (S4.gone.re [2, 0, 1]).cell 2
        have c3 := (S4.gone.re [2, 0, 1]).cell 3
        by_cases hp : (rr).length < pd
        · have hX2 : ((101, true), x, []) = res := by rw [← hX]; unfold padE; rw [if_pos (by omega)]
          subst hX2
          clear hX
          have hgt : decide ((pd : Int) > ((rr).length : Int)) = true := decide_eq_true (by omega)
          have hl := rf_left S4
          go_wp2_with fail
          (with_reducible refine hl.mono ?_)
          clear hl
          rintro e w7 ⟨rfl, rfl⟩
          have hcn := pl_conn S4.gone 101
          clear S4
          go_wp2_with fail
          (with_reducible refine hcn.mono ?_)
          clear hcn
          rintro e w8 ⟨rfl, S8⟩
          have S9 := S8.swap
          have f0 := S9.frozen 0
          have f1 := S9.frozen 1
          have b0 := S9.cell 0
          have b1 := S9.cell 1
          have HS9 := Lib.hid ((S9.setCell 0 (.int .i64 101)).setCell 1 (.bool true))
          clear S8 S9
          go_wp2_with fail
          refine ret_cell HS9.out 4 31 rfl _ rfl Try.underlying31 rfl (by kernel_rfl) rfl ?_
          exact hK.out _ _ ⟨G1, _, hG1, rfl, SlB.nil _, HS9.out.drop.swap.drop⟩
        · have hX2 : ((0, false), x, (rr).take ((rr).length - pd)) = res := by rw [← hX]; unfold padE; rw [if_neg (by omega)]; try rfl
          subst hX2
          clear hX
          have hl := rf_left S4
          have hsb : (((rr).length - pd : Nat) : Int) = ((rr).length : Int) - pd := by omega
          have htk := rf_take S4 ((rr).length - pd) (by omega)
          rw [hsb] at htk
          have hl2 := hl
          clear S4 hsb
          go_wp2_with fail
          (with_reducible refine hl.mono ?_)
          clear hl
          rintro e w7 ⟨rfl, rfl⟩
          go_wp2_with fail
          (with_reducible refine hl2.mono ?_)
          clear hl2
          rintro e w7 ⟨rfl, rfl⟩
          go_wp2_with fail
          (with_reducible refine htk.mono ?_)
          clear htk
          rintro e w8 ⟨v2, rfl, hv2, S8⟩
          have S9 := S8.gone
          clear S8
          have f2 := S9.frozen 2
          have b2 : w8.cell? ⟨q, 2, none⟩ = some _ := S9.cell 2
          have S10 : Sat G1 (w8.setCell ⟨q, 2, none⟩ v2) (blk aR #[.int .i64 0, .bool false] 31 :: blk q ((x).cs v2 u) 28 :: blk aF #[.int .i64 _, .int .i64 fl, .int .i64 s, .slice A n0 c] 24 :: l) := (S9.setCell 2 v2).swap
          obtain ⟨V2, n2, cv2, rfl⟩ : ∃ V n cv, v2 = .slice V n cv := by obtain ⟨V, cv, e, -⟩ := hv2.form; exact ⟨V, _, cv, e⟩
          go_upto_region 13 with fail
          refine wp_world S10 fun w9 S11 => ?_
          have f0 := S11.frozen 0
          have f1 := S11.frozen 1
          have b0 := S11.cell 0
          have b1 := S11.cell 1
          have HS11 := Lib.hid ((S11.setCell 0 (.int .i64 0)).setCell 1 (.bool false))
          clear S9 S10 S11 f2 b2
          go_wp2_with fail
          refine ret_cell HS11.out 4 31 rfl _ rfl Try.underlying31 rfl (by kernel_rfl) rfl ?_
          exact hK.out _ _ ⟨G1, _, hG1, rfl, hv2, HS11.out.drop.swap.drop⟩
      · have hh := rf_has S4 1 fl s 32 (.slice A n0 c) (by decide)
        have c0 := (S4.gone.re [2, 0, 1]).cell 0
        have c1 := (S4.gone.re [2, 0, 1]).cell 1
        have c2 := (S4.gone.re [2, 0, 1]).cell 2
        have c3 := (S4.gone.re [2, 0, 1]).cell 3
        cases h32 : hasF fl 32 with
        | false =>
          rw [h32] at hh
          replace hX : padE pd x rr = res := by rw [← hX]; simp only [padW, h32, Bool.and_false, Bool.false_eq_true, if_false]
          clear S4 h32
          go_wp2_with fail
          (with_reducible refine hh.mono ?_)
          clear hh c0 c1 c2 c3
          rintro e w5 ⟨rfl, S4⟩
          by_cases hp : (rr).length < pd
          · have hX2 : ((101, true), x, []) = res := by rw [← hX]; unfold padE; rw [if_pos (by omega)]
            subst hX2
            clear hX
            have hgt : decide ((pd : Int) > ((rr).length : Int)) = true := decide_eq_true (by omega)
            have hl := rf_left S4
            go_wp2_with fail
            (with_reducible refine hl.mono ?_)
            clear hl
            rintro e w7 ⟨rfl, rfl⟩
            have hcn := pl_conn S4.gone 101
            clear S4
            go_wp2_with fail
            (with_reducible refine hcn.mono ?_)
            clear hcn
            rintro e w8 ⟨rfl, S8⟩
            have S9 := S8.swap
            have f0 := S9.frozen 0
            have f1 := S9.frozen 1
            have b0 := S9.cell 0
            have b1 := S9.cell 1
            have HS9 := Lib.hid ((S9.setCell 0 (.int .i64 101)).setCell 1 (.bool true))
            clear S8 S9
            go_wp2_with fail
            refine ret_cell HS9.out 4 31 rfl _ rfl Try.underlying31 rfl (by kernel_rfl) rfl ?_
            exact hK.out _ _ ⟨G1, _, hG1, rfl, SlB.nil _, HS9.out.drop.swap.drop⟩
          · have hX2 : ((0, false), x, (rr).take ((rr).length - pd)) = res := by rw [← hX]; unfold padE; rw [if_neg (by omega)]; try rfl
            subst hX2
            clear hX
            have hl := rf_left S4
            have hsb : (((rr).length - pd : Nat) : Int) = ((rr).length : Int) - pd := by omega
            have htk := rf_take S4 ((rr).length - pd) (by omega)
            rw [hsb] at htk
            have hl2 := hl
            clear S4 hsb
            go_wp2_with fail
            (with_reducible refine hl.mono ?_)
            clear hl
            rintro e w7 ⟨rfl, rfl⟩
            go_wp2_with fail
            (with_reducible refine hl2.mono ?_)
            clear hl2
            rintro e w7 ⟨rfl, rfl⟩
            go_wp2_with fail
            (with_reducible refine htk.mono ?_)
            clear htk
            rintro e w8 ⟨v2, rfl, hv2, S8⟩
            have S9 := S8.gone
            clear S8
            have f2 := S9.frozen 2
            have b2 : w8.cell? ⟨q, 2, none⟩ = some _ := S9.cell 2
            have S10 : Sat G1 (w8.setCell ⟨q, 2, none⟩ v2) (blk aR #[.int .i64 0, .bool false] 31 :: blk q ((x).cs v2 u) 28 :: blk aF #[.int .i64 _, .int .i64 fl, .int .i64 s, .slice A n0 c] 24 :: l) := (S9.setCell 2 v2).swap
            obtain ⟨V2, n2, cv2, rfl⟩ : ∃ V n cv, v2 = .slice V n cv := by obtain ⟨V, cv, e, -⟩ := hv2.form; exact ⟨V, _, cv, e⟩
            go_upto_region 13 with fail
            refine wp_world S10 fun w9 S11 => ?_
            have f0 := S11.frozen 0
            have f1 := S11.frozen 1
            have b0 := S11.cell 0
            have b1 := S11.cell 1
            have HS11 := Lib.hid ((S11.setCell 0 (.int .i64 0)).setCell 1 (.bool false))
            clear S9 S10 S11 f2 b2
            go_wp2_with fail
            refine ret_cell HS11.out 4 31 rfl _ rfl Try.underlying31 rfl (by kernel_rfl) rfl ?_
            exact hK.out _ _ ⟨G1, _, hG1, rfl, hv2, HS11.out.drop.swap.drop⟩
        | true =>
          rw [h32] at hh
          by_cases h5 : rr.length < 5
          · have hX2 : ((106, true), x, []) = res := by rw [← hX]; simp only [padW, h32, if_pos h5, BEq.rfl, Bool.and_self, if_true]
            subst hX2
            clear hX S4 h32
            go_wp2_with fail
            (with_reducible refine hh.mono ?_)
            clear hh c0 c1 c2 c3
            rintro e w5 ⟨rfl, S4⟩
            have hw := pl_weigh_not S4 (.pointer (some ⟨q, 0, none⟩)) h5
            go_wp2_with fail
            (with_reducible refine hw.mono ?_)
            clear hw
            rintro e w6 ⟨rfl, rfl⟩
            have hcn := pl_conn S4.gone 106
            clear S4
            go_wp2_with fail
            (with_reducible refine hcn.mono ?_)
            clear hcn
            rintro e w8 ⟨rfl, S8⟩
            have S9 := S8.swap
            have f0 := S9.frozen 0
            have f1 := S9.frozen 1
            have b0 := S9.cell 0
            have b1 := S9.cell 1
            have HS9 := Lib.hid ((S9.setCell 0 (.int .i64 106)).setCell 1 (.bool true))
            clear S8 S9
            go_wp2_with fail
            refine ret_cell HS9.out 4 31 rfl _ rfl Try.underlying31 rfl (by kernel_rfl) rfl ?_
            exact hK.out _ _ ⟨G1, _, hG1, rfl, SlB.nil _, HS9.out.drop.swap.drop⟩
          · replace hX : padE pd (wghS x rr) (rr.drop 5) = res := by rw [← hX]; simp only [padW, h32, if_neg h5, BEq.rfl, Bool.and_self, if_true]
            clear S4 h32
            go_wp2_with fail
            (with_reducible refine hh.mono ?_)
            clear hh c0 c1 c2 c3
            rintro e w5 ⟨rfl, S4⟩
            have hw := pl_weigh x _ u S4 (by omega)
            clear S4
            go_wp2_with fail
            (with_reducible refine hw.mono ?_)
            clear hw
            rintro e w6 ⟨rfl, S4⟩
            have hL5 : (rr.drop 5).length ≤ 140737488355328 := by rw [List.length_drop]; omega
            generalize wghS x rr = x5 at *
            generalize rr.drop 5 = r5 at *
            by_cases hp : (r5).length < pd
            · have hX2 : ((101, true), x5, []) = res := by rw [← hX]; unfold padE; rw [if_pos (by omega)]
              subst hX2
              clear hX
              have hgt : decide ((pd : Int) > ((r5).length : Int)) = true := decide_eq_true (by omega)
              have hl := rf_left S4
              go_wp2_with fail
              (with_reducible refine hl.mono ?_)
              clear hl
              rintro e w7 ⟨rfl, rfl⟩
              have hcn := pl_conn S4.gone 101
              clear S4
              go_wp2_with fail
              (with_reducible refine hcn.mono ?_)
              clear hcn
              rintro e w8 ⟨rfl, S8⟩
              have S9 := S8.swap
              have f0 := S9.frozen 0
              have f1 := S9.frozen 1
              have b0 := S9.cell 0
              have b1 := S9.cell 1
              have HS9 := Lib.hid ((S9.setCell 0 (.int .i64 101)).setCell 1 (.bool true))
              clear S8 S9
              go_wp2_with fail
              refine ret_cell HS9.out 4 31 rfl _ rfl Try.underlying31 rfl (by kernel_rfl) rfl ?_
              exact hK.out _ _ ⟨G1, _, hG1, rfl, SlB.nil _, HS9.out.drop.swap.drop⟩
            · have hX2 : ((0, false), x5, (r5).take ((r5).length - pd)) = res := by rw [← hX]; unfold padE; rw [if_neg (by omega)]; try rfl
              subst hX2
              clear hX
              have hl := rf_left S4
              have hsb : (((r5).length - pd : Nat) : Int) = ((r5).length : Int) - pd := by omega
              have htk := rf_take S4 ((r5).length - pd) (by omega)
              rw [hsb] at htk
              have hl2 := hl
              clear S4 hsb
              go_wp2_with fail
              (with_reducible refine hl.mono ?_)
              clear hl
              rintro e w7 ⟨rfl, rfl⟩
              go_wp2_with fail
              (with_reducible refine hl2.mono ?_)
              clear hl2
              rintro e w7 ⟨rfl, rfl⟩
              go_wp2_with fail
              (with_reducible refine htk.mono ?_)
              clear htk
              rintro e w8 ⟨v2, rfl, hv2, S8⟩
              have S9 := S8.gone
              clear S8
              have f2 := S9.frozen 2
              have b2 : w8.cell? ⟨q, 2, none⟩ = some _ := S9.cell 2
              have S10 : Sat G1 (w8.setCell ⟨q, 2, none⟩ v2) (blk aR #[.int .i64 0, .bool false] 31 :: blk q ((x5).cs v2 u) 28 :: blk aF #[.int .i64 _, .int .i64 fl, .int .i64 s, .slice A n0 c] 24 :: l) := (S9.setCell 2 v2).swap
              obtain ⟨V2, n2, cv2, rfl⟩ : ∃ V n cv, v2 = .slice V n cv := by obtain ⟨V, cv, e, -⟩ := hv2.form; exact ⟨V, _, cv, e⟩
              go_upto_region 13 with fail
              refine wp_world S10 fun w9 S11 => ?_
              have f0 := S11.frozen 0
              have f1 := S11.frozen 1
              have b0 := S11.cell 0
              have b1 := S11.cell 1
              have HS11 := Lib.hid ((S11.setCell 0 (.int .i64 0)).setCell 1 (.bool false))
              clear S9 S10 S11 f2 b2
              go_wp2_with fail
              refine ret_cell HS11.out 4 31 rfl _ rfl Try.underlying31 rfl (by kernel_rfl) rfl ?_
              exact hK.out _ _ ⟨G1, _, hG1, rfl, hv2, HS11.out.drop.swap.drop⟩
end
end Go.Proofs.Ytdfdcenbpanegaa
