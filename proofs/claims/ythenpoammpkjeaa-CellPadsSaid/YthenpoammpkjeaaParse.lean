/- The walk over frame.Parse. -/
import Derived.Test.YthenpoammpkjeaaBytes
set_option linter.unusedSimpArgs false
set_option linter.unusedVariables false
namespace Go.Proofs.Ythenpoammpkjeaa
open Go.RowKit

theorem i64_mask31 (n : Int) : bits .and .i64 n 2147483647 = n % 2147483648 := by
  have h31 : (BitVec.ofInt 64 2147483647).toNat = 2 ^ 31 - 1 := by decide
  have key : (BitVec.ofInt 64 n &&& BitVec.ofInt 64 2147483647).toNat = (n % ((2 ^ 64 : Nat) : Int)).toNat % 2 ^ 31 := by
    rw [BitVec.toNat_and, BitVec.toNat_ofInt, h31, Nat.and_two_pow_sub_one_eq_mod]
  show IntKind.i64.wrap ((BitVec.ofInt 64 n &&& BitVec.ofInt 64 2147483647).toNat : Nat) = n % 2147483648
  rw [key, IntKind.wrap_i64]
  omega
def zeroFr : Value := .agg #[.int .i64 0, .int .i64 0, .int .i64 0, .slice none 0 0]
/-- What a frame's head says. -/
def hdN (bs : List UInt8) : Nat := numOf (bs.take 3)
def hdT (bs : List UInt8) : Nat := numOf ((bs.drop 3).take 1)
def hdF (bs : List UInt8) : Nat := numOf ((bs.drop 4).take 1)
def hdS (bs : List UInt8) : Nat := numOf ((bs.drop 5).take 4) % 2147483648
/-- What is wrong with the bytes: 16, 106 or nothing. -/
def headE (bs : List UInt8) (most : Int) : Int := if bs.length < 9 then 16 else if most < hdN bs then 106 else if bs.length < 9 + hdN bs then 16 else 0
theorem results_cell_tt {P : Program} {fn : Func} {p1 p2 p3 : Tmp} {y1 : TypeId} (h : fn.results = #[.cell p1 y1, .tmp p2, .tmp p3]) (tmps : Array Value) (w : World) (g1 : Nat) (t1 : TypeId) (c1 : Array Value) (d1 : TypeDesc)
    (hp1 : tmps.getD p1 undef = .pointer (some ⟨g1, 0, none⟩)) (hg1 : w.heap[g1]? = some (.cells c1 t1 (0, 0))) (hu1 : P.underlying y1 = some d1) (hd1 : (match d1 with | .struct _ | .array _ _ => true | _ => false) = true) (hi1 : (P.info? y1).map (·.size) = some c1.size) :
    (results fn tmps).run P w = .ok (.tuple #[.agg c1, tmps.getD p2 undef, tmps.getD p3 undef]) w := by
  have h1 : tmps[p1]?.getD undef = .pointer (some ⟨g1, 0, none⟩) := by simpa using hp1
  simp [results, h, h1, asAddr, run_loadVar_row w g1 t1 y1 c1 (0, 0) d1 hg1 hu1 hd1 hi1]
theorem cell_spot {w : World} {a : Addr} {v : Value} (h : w.cell? a = some v) : ∃ b off, a = ⟨b, off, none⟩ := by
  rw [← cellR_heap] at h
  rcases a with ⟨b, off, sp⟩
  cases sp with
  | none => exact ⟨b, off, rfl⟩
  | some s =>
    simp only [cellR] at h
    split at h <;> simp at h
theorem SlB.addr {w : World} {a : Addr} {n c : Nat} {bs : List UInt8} (h : SlB w.cell? (.slice (some a) n c) bs) (hn : 0 < bs.length) : ∃ b off, a = ⟨b, off, none⟩ := by
  obtain ⟨⟨A', c1, e, _, _, h5⟩, _⟩ := h
  cases e
  obtain ⟨a', e, hc⟩ := h5 0 (byteV bs[0]) (by simp [hn])
  cases e
  obtain ⟨b, off, h⟩ := cell_spot hc
  unfold Addr.add at h
  simp at h
  exact ⟨b, off, h⟩
theorem take_drop_take (bs : List UInt8) (a b c : Nat) (h : a + b ≤ c) : ((bs.take c).drop a).take b = (bs.drop a).take b := by
  rw [List.drop_take, List.take_take, Nat.min_eq_left (by omega)]
set_option maxHeartbeats 4000000 in
set_option maxRecDepth 100000 in
theorem frame_parse {G : Gnd} {w : World} {l : List Asrt} (H : Sat G w l) (v : Value) (bs : List UInt8) (most : Int) (hv : ∀ W, Sat G W l → SlB W.cell? v bs) (hn : bs.length ≤ 140737488351232) :
    Calls Try.prog 43 #[v, .int .i64 most] w fun e w' => ∃ G' u, G.le G' ∧ Sat G' w' l ∧
      ((headE bs most ≠ 0 ∧ e = .returned (.tuple #[zeroFr, .int .i64 0, .int .i64 (headE bs most)])) ∨
       (headE bs most = 0 ∧ e = .returned (.tuple #[.agg #[.int .i64 (hdT bs), .int .i64 (hdF bs), .int .i64 (hdS bs), u], .int .i64 (9 + hdN bs), .int .i64 0]) ∧ SlB (Go.Proofs.Ythenpoammpkjeaa.cellR G'.ro) u ((bs.drop 9).take (hdN bs)))) := by
  refine calls_any fun K hK => ?_
  obtain ⟨A, c, rfl, hc1, hc2, hA⟩ := (hv w H).form
  have hc3 : c ≤ 9223372036854775807 := hc2
  have HV := Lib.hid hv
  have S := H.newBlk #[.int .i64 0, .int .i64 0, .int .i64 0, .slice none 0 0] 40
  clear H hv
  by_cases h9 : bs.length < 9
  · have e1 : headE bs most = 16 := if_pos h9
    rw [e1] at hK
    clear e1
    go_enter Try.func43, Try.ntmps43
    go_wp2_with fail
    exact bodyPost_ret (results_cell_tt rfl _ _ _ _ _ _ rfl (S).blk_at Try.underlying40 rfl (by kernel_rfl)) rfl (hK.out _ _ ⟨G, undef, Gnd.le.rfl', S.drop, .inl ⟨by decide, rfl⟩⟩)
  cases A with
  | none => have := hA rfl; omega
  | some a =>
    clear hA
    have h9' : 9 ≤ bs.length := by omega
    obtain ⟨b0, o0, rfl⟩ := (HV.out _ S.drop).addr (by omega)
    have l9 : (bs.take 9).length = 9 := by rw [List.length_take]; omega
    have hnew := fun (W : World) (S : Sat G W (blk w.heap.size #[.int .i64 0, .int .i64 0, .int .i64 0, .slice none 0 0] 40 :: l)) => rd_new S (.slice (some ⟨b0, o0, none⟩) 9 c) (bs.take 9) ((HV.out W S.drop).to 9 (by omega) c (by omega) (Nat.le_refl _)).1 (by omega)
    replace hnew := hnew _ S
    clear S
    go_enter Try.func43, Try.ntmps43
    go_wp2_with fail
    (with_reducible refine hnew.mono ?_)
    clear hnew
    rintro e w1 ⟨r, rfl, S1⟩
    have x1 := frame_number S1 3 (by omega) (by omega)
    clear S1
    rw [show numOf ((bs.take 9).take 3) = hdN bs by unfold hdN; rw [List.take_take]; rfl] at x1
    change Calls _ _ #[_, .int .i64 3] _ _ at x1
    generalize w.heap.size = p at *
    go_wp2_with fail
    (with_reducible refine x1.mono ?_)
    clear x1
    rintro e w2 ⟨rfl, S2⟩
    have x1 := frame_number S2 1 (by rw [List.length_drop, l9]; omega) (by omega)
    clear S2
    rw [take_drop_take bs 3 1 9 (by omega)] at x1
    change Calls _ _ #[_, .int .i64 1] _ (fun e w' => e = .returned (.int .i64 (hdT bs)) ∧ _) at x1
    go_wp2_with fail
    (with_reducible refine x1.mono ?_)
    clear x1
    rintro e w3 ⟨rfl, S3⟩
    rw [List.drop_drop] at S3
    have x1 := frame_number S3 1 (by rw [List.length_drop, l9]; omega) (by omega)
    clear S3
    rw [take_drop_take bs (3 + 1) 1 9 (by omega)] at x1
    change Calls _ _ #[_, .int .i64 1] _ (fun e w' => e = .returned (.int .i64 (hdF bs)) ∧ _) at x1
    go_wp2_with fail
    (with_reducible refine x1.mono ?_)
    clear x1
    rintro e w4 ⟨rfl, S4⟩
    rw [List.drop_drop] at S4
    have x1 := frame_number S4 4 (by rw [List.length_drop, l9]; omega) (by omega)
    clear S4
    rw [take_drop_take bs (3 + 1 + 1) 4 9 (by omega)] at x1
    change Calls _ _ #[_, .int .i64 4] _ (fun e w' => e = .returned (.int .i64 (numOf ((bs.drop 5).take 4) : Nat)) ∧ _) at x1
    go_wp2_with fail
    (with_reducible refine x1.mono ?_)
    clear x1
    rintro e w5 ⟨rfl, S5⟩
    have hS : bits .and .i64 (numOf ((bs.drop 5).take 4) : Int) 2147483647 = (hdS bs : Int) := by rw [i64_mask31]; unfold hdS; omega
    have S6 := S5.gone
    have hN : hdN bs < 16777216 := Nat.lt_of_lt_of_le (numOf_lt _) (Nat.le_trans (Nat.pow_le_pow_right (by omega) (show (bs.take 3).length ≤ 3 by rw [List.length_take]; omega)) (by decide))
    have S7 : Sat G ((((w5.setCell ⟨p, 0, none⟩ (.int .i64 (hdT bs))).setCell ⟨p, 1, none⟩ (.int .i64 (hdF bs))).setCell ⟨p, 2, none⟩ (.int .i64 (hdS bs))).setCell ⟨p, 3, none⟩ (.slice none 0 0)) (blk p #[.int .i64 (hdT bs), .int .i64 (hdF bs), .int .i64 (hdS bs), .slice none 0 0] 40 :: l) :=
      (((S6.setCell 0 (.int .i64 (hdT bs))).setCell 1 (.int .i64 (hdF bs))).setCell 2 (.int .i64 (hdS bs))).setCell 3 (.slice none 0 0)
    have f0 := S6.frozen 0
    have f1 := S6.frozen 1
    have f2 := S6.frozen 2
    have f3 := S6.frozen 3
    have c0 : w5.cell? ⟨p, 0, none⟩ = some (.int .i64 0) := S6.cell 0
    have c1 : w5.cell? ⟨p, 1, none⟩ = some (.int .i64 0) := S6.cell 1
    have c2 : w5.cell? ⟨p, 2, none⟩ = some (.int .i64 0) := S6.cell 2
    have c3 : w5.cell? ⟨p, 3, none⟩ = some (.slice none 0 0) := S6.cell 3
    clear S5 S6
    have hdl : (bs.drop 9).length = bs.length - 9 := List.length_drop
    go_upto_region 6 with fail
    refine wp_world S7 fun W8 S8 => ?_
    clear S7 hS f0 f1 f2 f3 c0 c1 c2 c3
    by_cases hm : most < hdN bs
    · have e1 : headE bs most = 106 := by unfold headE; rw [if_neg h9, if_pos hm]
      rw [e1] at hK
      clear e1
      have c0 : W8.cell? ⟨p, 0, none⟩ = some (.int .i64 (hdT bs)) := S8.cell 0
      have c1 : W8.cell? ⟨p, 1, none⟩ = some (.int .i64 (hdF bs)) := S8.cell 1
      have c2 : W8.cell? ⟨p, 2, none⟩ = some (.int .i64 (hdS bs)) := S8.cell 2
      have c3 : W8.cell? ⟨p, 3, none⟩ = some (.slice none 0 0) := S8.cell 3
      have f0 := S8.frozen 0
      have f1 := S8.frozen 1
      have f2 := S8.frozen 2
      have f3 := S8.frozen 3
      have S9 : Sat G ((((W8.setCell ⟨p, 0, none⟩ (.int .i64 0)).setCell ⟨p, 1, none⟩ (.int .i64 0)).setCell ⟨p, 2, none⟩ (.int .i64 0)).setCell ⟨p, 3, none⟩ (.slice none 0 0)) (blk p #[.int .i64 0, .int .i64 0, .int .i64 0, .slice none 0 0] 40 :: l) :=
        (((S8.setCell 0 (.int .i64 0)).setCell 1 (.int .i64 0)).setCell 2 (.int .i64 0)).setCell 3 (.slice none 0 0)
      clear S8
      go_wp2_with fail
      exact bodyPost_ret (results_cell_tt rfl _ _ _ _ _ _ rfl (S9).blk_at Try.underlying40 rfl (by kernel_rfl)) rfl (hK.out _ _ ⟨G, undef, Gnd.le.rfl', S9.drop, .inl ⟨by decide, rfl⟩⟩)
    by_cases hs : bs.length < 9 + hdN bs
    · have e1 : headE bs most = 16 := by unfold headE; rw [if_neg h9, if_neg hm, if_pos hs]
      rw [e1] at hK
      clear e1
      have c0 : W8.cell? ⟨p, 0, none⟩ = some (.int .i64 (hdT bs)) := S8.cell 0
      have c1 : W8.cell? ⟨p, 1, none⟩ = some (.int .i64 (hdF bs)) := S8.cell 1
      have c2 : W8.cell? ⟨p, 2, none⟩ = some (.int .i64 (hdS bs)) := S8.cell 2
      have c3 : W8.cell? ⟨p, 3, none⟩ = some (.slice none 0 0) := S8.cell 3
      have f0 := S8.frozen 0
      have f1 := S8.frozen 1
      have f2 := S8.frozen 2
      have f3 := S8.frozen 3
      have S9 : Sat G ((((W8.setCell ⟨p, 0, none⟩ (.int .i64 0)).setCell ⟨p, 1, none⟩ (.int .i64 0)).setCell ⟨p, 2, none⟩ (.int .i64 0)).setCell ⟨p, 3, none⟩ (.slice none 0 0)) (blk p #[.int .i64 0, .int .i64 0, .int .i64 0, .slice none 0 0] 40 :: l) :=
        (((S8.setCell 0 (.int .i64 0)).setCell 1 (.int .i64 0)).setCell 2 (.int .i64 0)).setCell 3 (.slice none 0 0)
      clear S8
      go_wp2_with fail
      exact bodyPost_ret (results_cell_tt rfl _ _ _ _ _ _ rfl (S9).blk_at Try.underlying40 rfl (by kernel_rfl)) rfl (hK.out _ _ ⟨G, undef, Gnd.le.rfl', S9.drop, .inl ⟨by decide, rfl⟩⟩)
    · have e1 : headE bs most = 0 := by unfold headE; rw [if_neg h9, if_neg hm, if_neg hs]
      rw [e1] at hK
      clear e1
      have hb := (HV.out W8 S8.drop).from 9 h9'
      have hln : ((bs.drop 9).take (hdN bs)).length = hdN bs := by rw [List.length_take, hdl]; omega
      have hcl := fun A (hx : fromA (some ⟨b0, o0, none⟩) c 9 = A) => bytes_clone S8 (.slice A (hdN bs) (c - 9)) ((bs.drop 9).take (hdN bs)) (by
        have := (hx ▸ hb).to (hdN bs) (by omega) (c - 9) (by omega) (Nat.le_refl _); exact this.1) (by omega)
      generalize hdN bs = n at *
      by_cases h9c : c = 9
      · subst h9c
        have hcl2 := hcl (some ⟨b0, o0, none⟩) (by unfold fromA; rw [if_pos rfl])
        clear hcl hb
        obtain rfl : n = 0 := by omega
        go_wp2_with fail
        (with_reducible refine hcl2.mono ?_)
        clear hcl2
        rintro e w6 ⟨u, rfl, S9⟩
        clear hln
        generalize (bs.drop 9).take 0 = pl at *
        obtain ⟨G', hG, S10, hu⟩ := S9.ownFrz
        clear S9 S8
        obtain ⟨A', c', rfl, -, -, -⟩ := hu.form
        have c3 : w6.cell? ⟨p, 3, none⟩ = some (.slice none 0 0) := S10.cell 3
        have f3 := S10.frozen 3
        have S11 := S10.setCell 3 (.slice A' pl.length c')
        clear S10
        go_upto_region 11 with fail
        refine wp_world S11 fun W9 S12 => ?_
        clear S11 c3 f3
        have c0 : W9.cell? ⟨p, 0, none⟩ = some (.int .i64 (hdT bs)) := S12.cell 0
        have c1 : W9.cell? ⟨p, 1, none⟩ = some (.int .i64 (hdF bs)) := S12.cell 1
        have c2 : W9.cell? ⟨p, 2, none⟩ = some (.int .i64 (hdS bs)) := S12.cell 2
        have c3 : W9.cell? ⟨p, 3, none⟩ = some (.slice A' pl.length c') := S12.cell 3
        have f0 := S12.frozen 0
        have f1 := S12.frozen 1
        have f2 := S12.frozen 2
        have f3 := S12.frozen 3
        have S13 : Sat G' ((((W9.setCell ⟨p, 0, none⟩ (.int .i64 (hdT bs))).setCell ⟨p, 1, none⟩ (.int .i64 (hdF bs))).setCell ⟨p, 2, none⟩ (.int .i64 (hdS bs))).setCell ⟨p, 3, none⟩ (.slice A' pl.length c')) (blk p #[.int .i64 (hdT bs), .int .i64 (hdF bs), .int .i64 (hdS bs), .slice A' pl.length c'] 40 :: l) :=
          (((S12.setCell 0 (.int .i64 (hdT bs))).setCell 1 (.int .i64 (hdF bs))).setCell 2 (.int .i64 (hdS bs))).setCell 3 (.slice A' pl.length c')
        clear S12
        go_wp2_with fail
        exact bodyPost_ret (results_cell_tt rfl _ _ _ _ _ _ rfl (S13).blk_at Try.underlying40 rfl (by kernel_rfl)) rfl (hK.out _ _ ⟨G', _, hG, S13.drop, .inr ⟨by simp, rfl, hu⟩⟩)
      · have hcl2 := hcl (some ⟨b0, o0 + 9, none⟩) (by unfold fromA; rw [if_neg h9c]; rfl)
        clear hcl hb
        go_wp2_with fail
        (with_reducible refine hcl2.mono ?_)
        clear hcl2
        rintro e w6 ⟨u, rfl, S9⟩
        clear hln
        generalize (bs.drop 9).take n = pl at *
        obtain ⟨G', hG, S10, hu⟩ := S9.ownFrz
        clear S9 S8
        obtain ⟨A', c', rfl, -, -, -⟩ := hu.form
        have c3 : w6.cell? ⟨p, 3, none⟩ = some (.slice none 0 0) := S10.cell 3
        have f3 := S10.frozen 3
        have S11 := S10.setCell 3 (.slice A' pl.length c')
        clear S10
        go_upto_region 11 with fail
        refine wp_world S11 fun W9 S12 => ?_
        clear S11 c3 f3
        have c0 : W9.cell? ⟨p, 0, none⟩ = some (.int .i64 (hdT bs)) := S12.cell 0
        have c1 : W9.cell? ⟨p, 1, none⟩ = some (.int .i64 (hdF bs)) := S12.cell 1
        have c2 : W9.cell? ⟨p, 2, none⟩ = some (.int .i64 (hdS bs)) := S12.cell 2
        have c3 : W9.cell? ⟨p, 3, none⟩ = some (.slice A' pl.length c') := S12.cell 3
        have f0 := S12.frozen 0
        have f1 := S12.frozen 1
        have f2 := S12.frozen 2
        have f3 := S12.frozen 3
        have S13 : Sat G' ((((W9.setCell ⟨p, 0, none⟩ (.int .i64 (hdT bs))).setCell ⟨p, 1, none⟩ (.int .i64 (hdF bs))).setCell ⟨p, 2, none⟩ (.int .i64 (hdS bs))).setCell ⟨p, 3, none⟩ (.slice A' pl.length c')) (blk p #[.int .i64 (hdT bs), .int .i64 (hdF bs), .int .i64 (hdS bs), .slice A' pl.length c'] 40 :: l) :=
          (((S12.setCell 0 (.int .i64 (hdT bs))).setCell 1 (.int .i64 (hdF bs))).setCell 2 (.int .i64 (hdS bs))).setCell 3 (.slice A' pl.length c')
        clear S12
        go_wp2_with fail
        exact bodyPost_ret (results_cell_tt rfl _ _ _ _ _ _ rfl (S13).blk_at Try.underlying40 rfl (by kernel_rfl)) rfl (hK.out _ _ ⟨G', _, hG, S13.drop, .inr ⟨by simp, rfl, hu⟩⟩)
end Go.Proofs.Ythenpoammpkjeaa
