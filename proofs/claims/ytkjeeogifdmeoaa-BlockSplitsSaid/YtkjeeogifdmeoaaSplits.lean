/- The walk of the law BlockSplits. -/
import Derived.Test.YtkjeeogifdmeoaaSplitP
import Derived.Test.YtkjeeogifdmeoaaAw
import Derived.Deep.QuietTactic
import Derived.BigQuiet
import Derived.IntWalk
set_option linter.unusedSimpArgs false
set_option linter.unusedVariables false
namespace Go.Proofs.Ytkjeeogifdmeoaa
open Go.RowKit

theorem arg_padded {w : World} {v : Value} {d : D} (h : ArgV w (Ty.agg [.int .i64, .sl 1 (.int .u8), .bool, .int .i64]) v d) : ∃ st u bs e n, v = .agg #[.int .i64 st, u, .bool e, .int .i64 n] ∧ SlB (cellR (Gnd.of w).ro) u bs ∧ bs.length ≤ 140737488351232 := by
  obtain ⟨cs, rfl, h⟩ := h
  obtain ⟨ds, rfl⟩ : ∃ ds, d = .agg ds := by cases d <;> (try simp only [Rd] at h) <;> exact ⟨_, rfl⟩
  simp only [Rd] at h
  obtain ⟨_, _, c0, _, rfl, e0, _, r0, h⟩ := rdAll_cons h
  obtain ⟨_, _, c1, _, rfl, rfl, l1, r1, h⟩ := rdAll_cons h
  obtain ⟨_, _, c2, _, rfl, rfl, _, r2, h⟩ := rdAll_cons h
  obtain ⟨_, _, c3, _, rfl, rfl, _, r3, h⟩ := rdAll_cons h
  obtain rfl := rdAll_nil h
  obtain ⟨m0, rfl⟩ := rd_int1 r0
  obtain ⟨x, bs, rfl, s1, z1⟩ := rd_bytes1 l1 r1
  obtain ⟨e, rfl⟩ := rd_bool1 r2
  obtain ⟨m3, rfl⟩ := rd_int1 r3
  exact ⟨m0, x, bs, e, m3, by rw [show cs = #[.int .i64 m0, x, .bool e, .int .i64 m3] from Array.toList_inj.1 (by rw [e0]; rfl)], s1, z1⟩
set_option maxHeartbeats 1000000 in
theorem as_split_not (w : World) (st n : Int) (v : Value) (d : Bool) (h' : ¬ (1 ≤ st ∧ st ≤ 2147483647 ∧ 1 ≤ n ∧ n ≤ 16384)) :
    Calls Try.prog 17 #[.int .i64 st, v, .bool d, .int .i64 n] w fun e' w' => e' = .returned (.tuple #[.slice none 0 0, .int .i64 11]) ∧ w = w' := by
  refine calls_any fun K hK => ?_
  by_cases a1 : st < 1
  · clear h'
    go_enter Try.func17, Try.ntmps17
    go_wp2_with fail
    exact hK.out _ _ ⟨rfl, rfl⟩
  by_cases a2 : 2147483647 < st
  · clear h'
    go_enter Try.func17, Try.ntmps17
    go_wp2_with fail
    exact hK.out _ _ ⟨rfl, rfl⟩
  by_cases a3 : n < 1
  · clear h'
    go_enter Try.func17, Try.ntmps17
    go_wp2_with fail
    exact hK.out _ _ ⟨rfl, rfl⟩
  · have a4 : 16384 < n := by omega
    clear h'
    go_enter Try.func17, Try.ntmps17
    go_wp2_with fail
    exact hK.out _ _ ⟨rfl, rfl⟩
set_option maxHeartbeats 16000000 in
set_option maxRecDepth 100000 in
theorem splits_big (w : World) (st n : Int) (u : Value) (bs : List UInt8) (d : Bool) (hu : SlB (cellR (Gnd.of w).ro) u bs) (hb : 300 < (bs.length : Int)) :
    Calls Try.prog 6 #[.agg #[.int .i64 st, u, .bool d, .int .i64 n]] w fun e w' => e = .returned (.bool true) ∧ Below w.heap.size w w' := by
  refine calls_any fun K hK => ?_
  have HU := Lib.hid hu
  obtain ⟨A, c, rfl, -, -, -⟩ := hu.form
  have S0 := (Sat.start w).newBlk #[.int .i64 st, .slice A bs.length c, .bool d, .int .i64 n] 52
  clear hu
  go_enter Try.func6, Try.ntmps6
  go_upto_region 1 with fail
  obtain ⟨p1, hp1⟩ : ∃ p, p = w.heap.size := ⟨_, rfl⟩
  rw [← hp1] at S0 ⊢
  clear hp1
  refine wp_world S0 fun w1 S1 => ?_
  clear S0
  have o0 := S1.cell 0
  have o1 := S1.cell 1
  have o2 := S1.cell 2
  have o3 := S1.cell 3
  have HS := Lib.hid S1
  clear S1
  go_quiet (fail)
  clear o0 o1 o2 o3
  go_upto_region 2 with fail
  refine wp_world (HS.out.drewQ _) fun w2 S2 => ?_
  clear HS
  go_wp2_with fail
  (with_reducible refine (law_awake (S2)).mono ?_); rintro e w9 ⟨rfl, G9, hG9, S9⟩; go_wp2_with fail; exact hK.out _ _ ⟨rfl, S9.above (Gnd.le.trans (Gnd.le.rfl') hG9)⟩
set_option maxHeartbeats 16000000 in
set_option maxRecDepth 100000 in
theorem splits_range (w : World) (st n : Int) (u : Value) (bs : List UInt8) (d : Bool) (hu : SlB (cellR (Gnd.of w).ro) u bs) (hb : bs.length ≤ 300) (h' : ¬ (1 ≤ st ∧ st ≤ 2147483647 ∧ 1 ≤ n ∧ n ≤ 16384)) :
    Calls Try.prog 6 #[.agg #[.int .i64 st, u, .bool d, .int .i64 n]] w fun e w' => e = .returned (.bool true) ∧ Below w.heap.size w w' := by
  refine calls_any fun K hK => ?_
  have HU := Lib.hid hu
  obtain ⟨A, c, rfl, -, -, -⟩ := hu.form
  have S0 := (Sat.start w).newBlk #[.int .i64 st, .slice A bs.length c, .bool d, .int .i64 n] 52
  clear hu
  have hf := fun (W : World) => as_split_not W st n (.slice A bs.length c) d h'
  by_cases a1 : st < 1
  · clear h'
    go_enter Try.func6, Try.ntmps6
    go_upto_region 1 with fail
    obtain ⟨p1, hp1⟩ : ∃ p, p = w.heap.size := ⟨_, rfl⟩
    rw [← hp1] at S0 ⊢
    clear hp1
    refine wp_world S0 fun w1 S1 => ?_
    clear S0
    have o0 := S1.cell 0
    have o1 := S1.cell 1
    have o2 := S1.cell 2
    have o3 := S1.cell 3
    have HS := Lib.hid S1
    clear S1
    go_quiet (fail)
    clear o0 o1 o2 o3
    go_upto_region 2 with fail
    refine wp_world (HS.out.drewQ _) fun w2 S2 => ?_
    clear HS
    go_wp2_with fail
    (with_reducible refine (hf _).mono ?_)
    clear hf
    rintro e w3 ⟨rfl, rfl⟩
    go_wp2_with fail
    (with_reducible refine (law_awake (S2)).mono ?_); rintro e w9 ⟨rfl, G9, hG9, S9⟩; go_wp2_with fail; exact hK.out _ _ ⟨rfl, S9.above (Gnd.le.trans (Gnd.le.rfl') hG9)⟩
  by_cases a2 : 2147483647 < st
  · clear h'
    go_enter Try.func6, Try.ntmps6
    go_upto_region 1 with fail
    obtain ⟨p1, hp1⟩ : ∃ p, p = w.heap.size := ⟨_, rfl⟩
    rw [← hp1] at S0 ⊢
    clear hp1
    refine wp_world S0 fun w1 S1 => ?_
    clear S0
    have o0 := S1.cell 0
    have o1 := S1.cell 1
    have o2 := S1.cell 2
    have o3 := S1.cell 3
    have HS := Lib.hid S1
    clear S1
    go_quiet (fail)
    clear o0 o1 o2 o3
    go_upto_region 2 with fail
    refine wp_world (HS.out.drewQ _) fun w2 S2 => ?_
    clear HS
    go_wp2_with fail
    (with_reducible refine (hf _).mono ?_)
    clear hf
    rintro e w3 ⟨rfl, rfl⟩
    go_wp2_with fail
    (with_reducible refine (law_awake (S2)).mono ?_); rintro e w9 ⟨rfl, G9, hG9, S9⟩; go_wp2_with fail; exact hK.out _ _ ⟨rfl, S9.above (Gnd.le.trans (Gnd.le.rfl') hG9)⟩
  by_cases a3 : n < 1
  · clear h'
    go_enter Try.func6, Try.ntmps6
    go_upto_region 1 with fail
    obtain ⟨p1, hp1⟩ : ∃ p, p = w.heap.size := ⟨_, rfl⟩
    rw [← hp1] at S0 ⊢
    clear hp1
    refine wp_world S0 fun w1 S1 => ?_
    clear S0
    have o0 := S1.cell 0
    have o1 := S1.cell 1
    have o2 := S1.cell 2
    have o3 := S1.cell 3
    have HS := Lib.hid S1
    clear S1
    go_quiet (fail)
    clear o0 o1 o2 o3
    go_upto_region 2 with fail
    refine wp_world (HS.out.drewQ _) fun w2 S2 => ?_
    clear HS
    go_wp2_with fail
    (with_reducible refine (hf _).mono ?_)
    clear hf
    rintro e w3 ⟨rfl, rfl⟩
    go_wp2_with fail
    (with_reducible refine (law_awake (S2)).mono ?_); rintro e w9 ⟨rfl, G9, hG9, S9⟩; go_wp2_with fail; exact hK.out _ _ ⟨rfl, S9.above (Gnd.le.trans (Gnd.le.rfl') hG9)⟩
  · have a4 : 16384 < n := by omega
    clear h'
    go_enter Try.func6, Try.ntmps6
    go_upto_region 1 with fail
    obtain ⟨p1, hp1⟩ : ∃ p, p = w.heap.size := ⟨_, rfl⟩
    rw [← hp1] at S0 ⊢
    clear hp1
    refine wp_world S0 fun w1 S1 => ?_
    clear S0
    have o0 := S1.cell 0
    have o1 := S1.cell 1
    have o2 := S1.cell 2
    have o3 := S1.cell 3
    have HS := Lib.hid S1
    clear S1
    go_quiet (fail)
    clear o0 o1 o2 o3
    go_upto_region 2 with fail
    refine wp_world (HS.out.drewQ _) fun w2 S2 => ?_
    clear HS
    go_wp2_with fail
    (with_reducible refine (hf _).mono ?_)
    clear hf
    rintro e w3 ⟨rfl, rfl⟩
    go_wp2_with fail
    (with_reducible refine (law_awake (S2)).mono ?_); rintro e w9 ⟨rfl, G9, hG9, S9⟩; go_wp2_with fail; exact hK.out _ _ ⟨rfl, S9.above (Gnd.le.trans (Gnd.le.rfl') hG9)⟩
set_option maxHeartbeats 16000000 in
set_option maxRecDepth 100000 in
theorem splits_right (w : World) (st n : Int) (u : Value) (bs : List UInt8) (d : Bool) (hu : SlB (cellR (Gnd.of w).ro) u bs) (hb : bs.length ≤ 300) (h : 1 ≤ st ∧ st ≤ 2147483647 ∧ 1 ≤ n ∧ n ≤ 16384) :
    Calls Try.prog 6 #[.agg #[.int .i64 st, u, .bool d, .int .i64 n]] w fun e w' => e = .returned (.bool true) ∧ Below w.heap.size w w' := by
  refine calls_any fun K hK => ?_
  have HU := Lib.hid hu
  obtain ⟨A, c, rfl, -, -, -⟩ := hu.form
  have S0 := (Sat.start w).newBlk #[.int .i64 st, .slice A bs.length c, .bool d, .int .i64 n] 52
  clear hu
  obtain ⟨a1, a2, a3, a4⟩ := h
  obtain ⟨M, rfl⟩ : ∃ M : Nat, n = M := ⟨n.toNat, by omega⟩
  have hf := fun (W : World) (l : List Asrt) (S : Sat (Gnd.of w) W l) => as_split S st _ bs d M a1 a2 (by omega) (by omega) HU.out (by omega)
  have hw1 : IntKind.i64.wrap ((bs.length : Int) + (M : Int)) = ((bs.length + M : Nat) : Int) := by rw [IntWalk.i64_in _ (by omega)]; simp
  have hw2 : IntKind.i64.wrap (((bs.length + M : Nat) : Int) - 1) = ((bs.length + M - 1 : Nat) : Int) := by rw [IntWalk.i64_in _ (by omega)]; omega
  have hM0 : ((M : Int) == 0) = false := beq_eq_false_iff_ne.2 (by omega)
  go_enter Try.func6, Try.ntmps6
  go_upto_region 1 with fail
  obtain ⟨p1, hp1⟩ : ∃ p, p = w.heap.size := ⟨_, rfl⟩
  rw [← hp1] at S0 ⊢
  clear hp1
  refine wp_world S0 fun w1 S1 => ?_
  clear S0
  have o0 := S1.cell 0
  have o1 := S1.cell 1
  have o2 := S1.cell 2
  have o3 := S1.cell 3
  have HS := Lib.hid S1
  clear S1
  go_quiet (fail)
  clear o0 o1 o2 o3
  go_upto_region 2 with fail
  refine wp_world (HS.out.drewQ _) fun w2 S2 => ?_
  clear HS
  go_wp2_with fail
  (with_reducible refine (hf _ _ S2).mono ?_)
  clear hf S2
  rintro e w3 ⟨G1, u2, F, hG1, rfl, hrf, hcu, hn1, hn2, hn3, S3⟩
  obtain ⟨X, xc, rfl, hx1, hx2, hel⟩ := hrf
  obtain ⟨n, hn⟩ : ∃ n, F.length = n := ⟨_, rfl⟩
  have HF := Lib.hid hn
  have HEL := Lib.hid hel
  have HCU := Lib.hid hcu
  rw [hn] at hx1 hn1 hn2 hn3 ⊢
  have hq : ((bs.length + M - 1) / M) = if bs.length = 0 then 0 else n := by
    split
    · rename_i hz; rw [hz, Nat.zero_add]; exact Nat.div_eq_of_lt (by omega)
    · rename_i hz
      obtain ⟨j, rfl⟩ : ∃ j, n = j + 1 := ⟨n - 1, by omega⟩
      refine Nat.div_eq_of_lt_le ?_ ?_
      · rcases hn3 with h | h
        · obtain rfl : j = 0 := by omega
          omega
        · rw [Nat.add_sub_cancel] at h; rw [Nat.add_mul]; omega
      · rw [Nat.add_mul (j + 1)]; omega
  have hq3 : ((bs.length : Int) + (M : Int) - 1) / (M : Int) = ((((bs.length + M - 1) / M : Nat)) : Int) := by rw [show (bs.length : Int) + (M : Int) - 1 = ((bs.length + M - 1 : Nat) : Int) by omega]; norm_cast
  rw [hq] at hq3
  have hnb : n ≤ 301 := by
    rcases hn3 with h | h
    · omega
    · have := Nat.le_mul_of_pos_right (n - 1) (show 0 < M by omega)
      omega
  have HN3 := Lib.hid hn3
  have HN2 := Lib.hid hn2
  clear hq hn2 hn hel hcu
  have hnew := as_new S3 300 (by decide) (by decide)
  clear S3
  go_wp2_with fail
  (with_reducible refine hnew.mono ?_)
  clear hnew
  rintro e w4 ⟨p, rfl, S4⟩
  by_cases hbz : bs.length = 0
  · have hn1' : n = 1 := by rcases hn3 with h | h <;> omega
    have hz0 : ((n : Int) != 1) = false := by rw [hn1']; rfl
    rw [if_pos hbz] at hq3
    replace hq3 : ((bs.length : Int) + (M : Int) - 1) / (M : Int) = 0 := hq3
    clear hn1' hbz hn3
    go_wp2_with fail
    go_loopw [91] (fun i wr => ∃ (k : Nat) (G2 : Gnd), k ≤ n ∧ i = .int .i64 k ∧ G1.le G2 ∧ Sat G2 wr [asA p 300 (if k = n then idle else bstAt st bs d M k), blk p1 #[.int .i64 st, .slice A bs.length c, .bool d, .int .i64 M] 52]) (fun i _ => n - (intOf i).toNat)
    case atStart => exact ⟨0, G1, Nat.zero_le _, rfl, Gnd.le.rfl', by rw [if_neg (by omega)]; exact S4⟩
    case round =>
      clear S4 hq3 hw1 hw2
      obtain ⟨k, G2, hk, rfl, hG2, S⟩ := hrel
      by_cases hlt : k < n
      · rw [if_neg (by omega)] at S
        have hFl := HF.out
        obtain ⟨f, hf⟩ : ∃ f, F[k]? = some f := ⟨_, List.getElem?_eq_getElem (by omega)⟩
        obtain ⟨g, rfl, hcl⟩ := HEL.out k f hf
        obtain ⟨f1, f2, f3, f4⟩ := HCU.out k f hf
        obtain ⟨ty, fl, s, fv⟩ := f
        simp only at f1 f2 f3 f4
        have f3s := f3.symm
        subst f3s
        rw [hFl] at f2
        have m0 := S.cellR (cellR_mono hG2.ro (hcl 0 (by decide)))
        have m1 := S.cellR (cellR_mono hG2.ro (hcl 1 (by decide)))
        have m2 := S.cellR (cellR_mono hG2.ro (hcl 2 (by decide)))
        have m3 := S.cellR (cellR_mono hG2.ro (hcl 3 (by decide)))
        rw [Nat.add_zero] at m0
        obtain ⟨FA, fc', rfl, -, -, -⟩ := f4.form
        have hN3 := HN3.out
        have hN2 := HN2.out
        obtain ⟨tb, htb⟩ : ∃ tb, tb = (bs.drop (k * M)).take M := ⟨_, rfl⟩
        rw [← htb] at f4 m3
        have hL1 : tb.length ≤ M := by rw [htb, List.length_take]; omega
        have hL2 : k + 1 < n → tb.length = M := fun h => by
          rcases hN3 with h1 | h1
          · omega
          · have := Nat.mul_le_mul_right M (show k + 1 ≤ n - 1 by omega)
            rw [Nat.add_mul] at this
            rw [htb, List.length_take, List.length_drop]
            omega
        have hL3 : tb.length ≤ 300 := by rw [htb, List.length_take, List.length_drop]; omega
        obtain ⟨xe, hxe, hpar⟩ := split_parse (tb := tb) a1 k n d
        rw [← f1, ← f2] at hpar
        have hty : ty = if k = 0 then 1 else 9 := f1
        have HF4 := Lib.hid f4
        have S5 := S.newBlk #[.int .i64 ty, .int .i64 fl, .int .i64 st, .slice FA tb.length fc'] 57
        have HS5 := Lib.hid S5
        have HCL := Lib.hid hcl
        have HTY := Lib.hid hty
        have HTB := Lib.hid htb
        have HPR := Lib.hid hpar
        have HXE := Lib.hid hxe
        clear S S5 hcl f1 f2 hty htb hpar hxe f4 hN3 hN2
        go_upto_region 13 with fail
        generalize wr.heap.size = q1 at *
        refine wp_world HS5.out fun w5 S6 => ?_
        clear HS5 m0 m1 m2 m3
        have x0 := S6.cell 0
        have x1 := S6.cell 1
        have x2 := S6.cell 2
        have x3 := S6.cell 3
        have hp := pl_parse S6 ty fl st _ (HF4.out.mono hG2) (by omega)
        rw [HPR.out] at hp
        simp only [ItS.cs] at hp
        clear S6
        go_wp2_with fail
        (with_reducible refine hp.mono ?_)
        clear hp x0 x1 x2 x3
        rintro e w6 ⟨G3, v2, r2, hG3, rfl, hv2, hr2, S7⟩
        obtain ⟨VA, vc, rfl, -, -, -⟩ := hv2.form
        obtain ⟨RA, rc, rfl, -⟩ := id hr2
        have S8 := (S7.newBlk #[.int .i64 ty, .int .i64 st, .slice VA tb.length vc, .bool xe, .bool (decide (k + 1 = n)), .bool false, .int .i64 0, .int .i64 0, .int .i64 0, .int .i64 0, .int .i64 0, .int .i64 0, .bool false, .bool false, .slice RA 0 rc] 34).newBlk #[.int .i64 0, .bool false] 43
        simp only [World.size_alloc] at S8
        have HV2 := Lib.hid hv2
        clear S7 hv2 hr2
        go_upto_region 14 with fail
        refine wp_world S8 fun w7 S9 => ?_
        clear S8
        generalize w6.heap.size + 1 = q3 at *
        generalize w6.heap.size = q2 at *
        have y0 := S9.swap.cell 0
        have y1 := S9.swap.cell 1
        have y2 := S9.swap.cell 2
        have y3 := S9.swap.cell 3
        have y4 := S9.swap.cell 4
        have y5 := S9.swap.cell 5
        have y6 := S9.swap.cell 6
        have y7 := S9.swap.cell 7
        have y8 := S9.swap.cell 8
        have y9 := S9.swap.cell 9
        have y10 := S9.swap.cell 10
        have y11 := S9.swap.cell 11
        have y12 := S9.swap.cell 12
        have y13 := S9.swap.cell 13
        have y14 := S9.swap.cell 14
        have hon := as_on (S9.re [3, 0, 1, 2, 4]) ⟨ty, st, .slice VA tb.length vc, xe, decide (k + 1 = n), false, 0, 0, 0, 0, 0, 0, false, false, .slice RA 0 rc⟩ tb ⟨⟨_, _, _, rfl⟩, ⟨_, _, _, rfl⟩⟩ HV2.out (by unfold bstAt; split <;> simp [idle] <;> omega)
        have hoa := on_at (s := st) (t := bs) (e := d) (m := M) (i := k) (n := n) (x := ⟨ty, st, .slice VA tb.length vc, xe, decide (k + 1 = n), false, 0, 0, 0, 0, 0, 0, false, false, .slice RA 0 rc⟩) HTY.out rfl HXE.out rfl hb HN2.out
        rw [← HTB.out] at hoa
        rw [hoa] at hon
        simp only [ItD.cells] at hon
        clear hoa
        clear S9
        by_cases hi : k + 1 = n
        · rw [if_pos hi] at hon
          simp only [Bool.false_eq_true, if_false] at hon
          rw [decide_eq_true hi] at y4 hon
          have hz1 : ((k : Int) == (n : Int) - 1) = true := beq_iff_eq.2 (by omega)
          have hz2 : decide ((tb.length : Int) > (M : Int)) = false := decide_eq_false (by omega)
          have hz3 : decide ((k : Int) < (n : Int) - 1) = false := decide_eq_false (by omega)
          have HST : Hid ((if k + 1 = n then idle else bstAt st bs d M (k + 1)) = idle) := Lib.hid (if_pos hi)
          clear hi
          go_wp2_with fail
          (with_reducible refine hon.mono ?_)
          clear hon y0 y1 y2 y3 y4 y5 y6 y7 y8 y9 y10 y11 y12 y13 y14
          rintro e w8 ⟨G4, ub, hG4, rfl, hub, S10⟩
          obtain ⟨UB, cb, rfl, -, -, -⟩ := hub.form
          have HB := Lib.hid hub
          have S11 := S10
          clear S10 hub
          have S12 := S11.newBlk #[.int .i64 st, .slice UB bs.length cb, .bool d] 41
          have S13 := S12.newBlk #[.int .i64 0, .bool false] 43
          simp only [World.size_alloc] at S13
          clear S11 S12
          go_upto_region 15 with fail
          generalize w8.heap.size + 1 = q5 at *
          generalize w8.heap.size = q4 at *
          refine wp_world S13 fun w9 S14 => ?_
          clear S13
          have x0 := S14.pull3.cell 0
          have x1 := S14.pull3.cell 1
          have hok := pl_ok S14 0 false
          rw [show ((0 : Int) == 0 && !false) = true from rfl] at hok
          clear S14
          go_wp2_with fail
          (with_reducible refine hok.mono ?_)
          clear hok x0 x1
          rintro e w10 ⟨rfl, S15⟩
          have x0 := S15.cell 0
          have x1 := S15.cell 1
          have hok := pl_ok S15 0 false
          rw [show ((0 : Int) == 0 && !false) = true from rfl] at hok
          clear S15
          go_wp2_with fail
          (with_reducible refine hok.mono ?_)
          clear hok x0 x1
          rintro e w11 ⟨rfl, S16⟩
          have x3 := (S16.re [5, 0, 1, 2, 3, 4]).cell 3
          have z0 := S16.swap.cell 0
          have z1 := S16.swap.cell 1
          have z2 := S16.swap.cell 2
          have cv1 := conv_bytes _ bs _ ((HB.out.sat S16).1)
          have cv2 := conv_bytes _ bs _ (((HU.out.mono ((hG1.trans hG2).trans (hG3.trans hG4))).sat S16).1)
          have HS := Lib.hid (S16.drop.drop.drop2.drop2.drop2)
          clear S16
          go_wp2_with fail
          go_roundw
          case rel =>
            refine ⟨k + 1, G4, by omega, by go_num, (hG2.trans hG3).trans hG4, ?_⟩
            rw [HST.out]
            exact HS.out
          case measure => simp [intOf]; omega
        · rw [if_neg hi] at hon
          simp only [Bool.false_eq_true, if_false, idle] at hon
          rw [decide_eq_false hi] at y4 hon
          have hLM := hL2 (by omega)
          have hz1 : ((k : Int) == (n : Int) - 1) = false := beq_eq_false_iff_ne.2 (by omega)
          have hz2 : decide ((tb.length : Int) > (M : Int)) = false := decide_eq_false (by omega)
          have hz3 : decide ((k : Int) < (n : Int) - 1) = true := decide_eq_true (by omega)
          have hz4 : ((tb.length : Int) != (M : Int)) = false := by rw [hLM]; simp
          have HST : Hid ((if k + 1 = n then idle else bstAt st bs d M (k + 1)) = bstAt st bs d M (k + 1)) := Lib.hid (if_neg hi)
          clear hi hLM
          go_wp2_with fail
          (with_reducible refine hon.mono ?_)
          clear hon y0 y1 y2 y3 y4 y5 y6 y7 y8 y9 y10 y11 y12 y13 y14
          rintro e w8 ⟨G4, ub, hG4, rfl, hub, S10⟩
          obtain ⟨UB, cb, rfl, -, -, -⟩ := hub.form
          have HB := Lib.hid hub
          have S11 := S10
          clear S10 hub
          have S12 := S11.newBlk #[.int .i64 0, .slice UB 0 cb, .bool false] 41
          have S13 := S12.newBlk #[.int .i64 0, .bool false] 43
          simp only [World.size_alloc] at S13
          clear S11 S12
          go_upto_region 15 with fail
          generalize w8.heap.size + 1 = q5 at *
          generalize w8.heap.size = q4 at *
          refine wp_world S13 fun w9 S14 => ?_
          clear S13
          have x0 := S14.pull3.cell 0
          have x1 := S14.pull3.cell 1
          have hok := pl_ok S14 0 false
          rw [show ((0 : Int) == 0 && !false) = true from rfl] at hok
          clear S14
          go_wp2_with fail
          (with_reducible refine hok.mono ?_)
          clear hok x0 x1
          rintro e w10 ⟨rfl, S15⟩
          have x0 := S15.cell 0
          have x1 := S15.cell 1
          have hok := pl_ok S15 0 false
          rw [show ((0 : Int) == 0 && !false) = true from rfl] at hok
          clear S15
          go_wp2_with fail
          (with_reducible refine hok.mono ?_)
          clear hok x0 x1
          rintro e w11 ⟨rfl, S16⟩
          have x3 := (S16.re [5, 0, 1, 2, 3, 4]).cell 3
          have HS := Lib.hid (S16.drop.drop.drop2.drop2.drop2)
          clear S16
          go_wp2_with fail
          go_roundw
          case rel =>
            refine ⟨k + 1, G4, by omega, by go_num, (hG2.trans hG3).trans hG4, ?_⟩
            rw [HST.out]
            exact HS.out
          case measure => simp [intOf]; omega
      · obtain rfl : k = n := by omega
        clear HEL
        go_wp2_with fail
        (with_reducible refine (law_awake (S)).mono ?_); rintro e w9 ⟨rfl, G9, hG9, S9⟩; go_wp2_with fail; exact hK.out _ _ ⟨rfl, S9.above (Gnd.le.trans ((Gnd.le.trans hG1 hG2)) hG9)⟩
  · have hlt1 : ¬ ((n : Int) < 1) := by omega
    rw [if_neg hbz] at hq3
    clear hbz hn3
    go_wp2_with fail
    go_loopw [91] (fun i wr => ∃ (k : Nat) (G2 : Gnd), k ≤ n ∧ i = .int .i64 k ∧ G1.le G2 ∧ Sat G2 wr [asA p 300 (if k = n then idle else bstAt st bs d M k), blk p1 #[.int .i64 st, .slice A bs.length c, .bool d, .int .i64 M] 52]) (fun i _ => n - (intOf i).toNat)
    case atStart => exact ⟨0, G1, Nat.zero_le _, rfl, Gnd.le.rfl', by rw [if_neg (by omega)]; exact S4⟩
    case round =>
      clear S4 hq3 hw1 hw2
      obtain ⟨k, G2, hk, rfl, hG2, S⟩ := hrel
      by_cases hlt : k < n
      · rw [if_neg (by omega)] at S
        have hFl := HF.out
        obtain ⟨f, hf⟩ : ∃ f, F[k]? = some f := ⟨_, List.getElem?_eq_getElem (by omega)⟩
        obtain ⟨g, rfl, hcl⟩ := HEL.out k f hf
        obtain ⟨f1, f2, f3, f4⟩ := HCU.out k f hf
        obtain ⟨ty, fl, s, fv⟩ := f
        simp only at f1 f2 f3 f4
        have f3s := f3.symm
        subst f3s
        rw [hFl] at f2
        have m0 := S.cellR (cellR_mono hG2.ro (hcl 0 (by decide)))
        have m1 := S.cellR (cellR_mono hG2.ro (hcl 1 (by decide)))
        have m2 := S.cellR (cellR_mono hG2.ro (hcl 2 (by decide)))
        have m3 := S.cellR (cellR_mono hG2.ro (hcl 3 (by decide)))
        rw [Nat.add_zero] at m0
        obtain ⟨FA, fc', rfl, -, -, -⟩ := f4.form
        have hN3 := HN3.out
        have hN2 := HN2.out
        obtain ⟨tb, htb⟩ : ∃ tb, tb = (bs.drop (k * M)).take M := ⟨_, rfl⟩
        rw [← htb] at f4 m3
        have hL1 : tb.length ≤ M := by rw [htb, List.length_take]; omega
        have hL2 : k + 1 < n → tb.length = M := fun h => by
          rcases hN3 with h1 | h1
          · omega
          · have := Nat.mul_le_mul_right M (show k + 1 ≤ n - 1 by omega)
            rw [Nat.add_mul] at this
            rw [htb, List.length_take, List.length_drop]
            omega
        have hL3 : tb.length ≤ 300 := by rw [htb, List.length_take, List.length_drop]; omega
        obtain ⟨xe, hxe, hpar⟩ := split_parse (tb := tb) a1 k n d
        rw [← f1, ← f2] at hpar
        have hty : ty = if k = 0 then 1 else 9 := f1
        have HF4 := Lib.hid f4
        have S5 := S.newBlk #[.int .i64 ty, .int .i64 fl, .int .i64 st, .slice FA tb.length fc'] 57
        have HS5 := Lib.hid S5
        have HCL := Lib.hid hcl
        have HTY := Lib.hid hty
        have HTB := Lib.hid htb
        have HPR := Lib.hid hpar
        have HXE := Lib.hid hxe
        clear S S5 hcl f1 f2 hty htb hpar hxe f4 hN3 hN2
        go_upto_region 13 with fail
        generalize wr.heap.size = q1 at *
        refine wp_world HS5.out fun w5 S6 => ?_
        clear HS5 m0 m1 m2 m3
        have x0 := S6.cell 0
        have x1 := S6.cell 1
        have x2 := S6.cell 2
        have x3 := S6.cell 3
        have hp := pl_parse S6 ty fl st _ (HF4.out.mono hG2) (by omega)
        rw [HPR.out] at hp
        simp only [ItS.cs] at hp
        clear S6
        go_wp2_with fail
        (with_reducible refine hp.mono ?_)
        clear hp x0 x1 x2 x3
        rintro e w6 ⟨G3, v2, r2, hG3, rfl, hv2, hr2, S7⟩
        obtain ⟨VA, vc, rfl, -, -, -⟩ := hv2.form
        obtain ⟨RA, rc, rfl, -⟩ := id hr2
        have S8 := (S7.newBlk #[.int .i64 ty, .int .i64 st, .slice VA tb.length vc, .bool xe, .bool (decide (k + 1 = n)), .bool false, .int .i64 0, .int .i64 0, .int .i64 0, .int .i64 0, .int .i64 0, .int .i64 0, .bool false, .bool false, .slice RA 0 rc] 34).newBlk #[.int .i64 0, .bool false] 43
        simp only [World.size_alloc] at S8
        have HV2 := Lib.hid hv2
        clear S7 hv2 hr2
        go_upto_region 14 with fail
        refine wp_world S8 fun w7 S9 => ?_
        clear S8
        generalize w6.heap.size + 1 = q3 at *
        generalize w6.heap.size = q2 at *
        have y0 := S9.swap.cell 0
        have y1 := S9.swap.cell 1
        have y2 := S9.swap.cell 2
        have y3 := S9.swap.cell 3
        have y4 := S9.swap.cell 4
        have y5 := S9.swap.cell 5
        have y6 := S9.swap.cell 6
        have y7 := S9.swap.cell 7
        have y8 := S9.swap.cell 8
        have y9 := S9.swap.cell 9
        have y10 := S9.swap.cell 10
        have y11 := S9.swap.cell 11
        have y12 := S9.swap.cell 12
        have y13 := S9.swap.cell 13
        have y14 := S9.swap.cell 14
        have hon := as_on (S9.re [3, 0, 1, 2, 4]) ⟨ty, st, .slice VA tb.length vc, xe, decide (k + 1 = n), false, 0, 0, 0, 0, 0, 0, false, false, .slice RA 0 rc⟩ tb ⟨⟨_, _, _, rfl⟩, ⟨_, _, _, rfl⟩⟩ HV2.out (by unfold bstAt; split <;> simp [idle] <;> omega)
        have hoa := on_at (s := st) (t := bs) (e := d) (m := M) (i := k) (n := n) (x := ⟨ty, st, .slice VA tb.length vc, xe, decide (k + 1 = n), false, 0, 0, 0, 0, 0, 0, false, false, .slice RA 0 rc⟩) HTY.out rfl HXE.out rfl hb HN2.out
        rw [← HTB.out] at hoa
        rw [hoa] at hon
        simp only [ItD.cells] at hon
        clear hoa
        clear S9
        by_cases hi : k + 1 = n
        · rw [if_pos hi] at hon
          simp only [Bool.false_eq_true, if_false] at hon
          rw [decide_eq_true hi] at y4 hon
          have hz1 : ((k : Int) == (n : Int) - 1) = true := beq_iff_eq.2 (by omega)
          have hz2 : decide ((tb.length : Int) > (M : Int)) = false := decide_eq_false (by omega)
          have hz3 : decide ((k : Int) < (n : Int) - 1) = false := decide_eq_false (by omega)
          have HST : Hid ((if k + 1 = n then idle else bstAt st bs d M (k + 1)) = idle) := Lib.hid (if_pos hi)
          clear hi
          go_wp2_with fail
          (with_reducible refine hon.mono ?_)
          clear hon y0 y1 y2 y3 y4 y5 y6 y7 y8 y9 y10 y11 y12 y13 y14
          rintro e w8 ⟨G4, ub, hG4, rfl, hub, S10⟩
          obtain ⟨UB, cb, rfl, -, -, -⟩ := hub.form
          have HB := Lib.hid hub
          have S11 := S10
          clear S10 hub
          have S12 := S11.newBlk #[.int .i64 st, .slice UB bs.length cb, .bool d] 41
          have S13 := S12.newBlk #[.int .i64 0, .bool false] 43
          simp only [World.size_alloc] at S13
          clear S11 S12
          go_upto_region 15 with fail
          generalize w8.heap.size + 1 = q5 at *
          generalize w8.heap.size = q4 at *
          refine wp_world S13 fun w9 S14 => ?_
          clear S13
          have x0 := S14.pull3.cell 0
          have x1 := S14.pull3.cell 1
          have hok := pl_ok S14 0 false
          rw [show ((0 : Int) == 0 && !false) = true from rfl] at hok
          clear S14
          go_wp2_with fail
          (with_reducible refine hok.mono ?_)
          clear hok x0 x1
          rintro e w10 ⟨rfl, S15⟩
          have x0 := S15.cell 0
          have x1 := S15.cell 1
          have hok := pl_ok S15 0 false
          rw [show ((0 : Int) == 0 && !false) = true from rfl] at hok
          clear S15
          go_wp2_with fail
          (with_reducible refine hok.mono ?_)
          clear hok x0 x1
          rintro e w11 ⟨rfl, S16⟩
          have x3 := (S16.re [5, 0, 1, 2, 3, 4]).cell 3
          have z0 := S16.swap.cell 0
          have z1 := S16.swap.cell 1
          have z2 := S16.swap.cell 2
          have cv1 := conv_bytes _ bs _ ((HB.out.sat S16).1)
          have cv2 := conv_bytes _ bs _ (((HU.out.mono ((hG1.trans hG2).trans (hG3.trans hG4))).sat S16).1)
          have HS := Lib.hid (S16.drop.drop.drop2.drop2.drop2)
          clear S16
          go_wp2_with fail
          go_roundw
          case rel =>
            refine ⟨k + 1, G4, by omega, by go_num, (hG2.trans hG3).trans hG4, ?_⟩
            rw [HST.out]
            exact HS.out
          case measure => simp [intOf]; omega
        · rw [if_neg hi] at hon
          simp only [Bool.false_eq_true, if_false, idle] at hon
          rw [decide_eq_false hi] at y4 hon
          have hLM := hL2 (by omega)
          have hz1 : ((k : Int) == (n : Int) - 1) = false := beq_eq_false_iff_ne.2 (by omega)
          have hz2 : decide ((tb.length : Int) > (M : Int)) = false := decide_eq_false (by omega)
          have hz3 : decide ((k : Int) < (n : Int) - 1) = true := decide_eq_true (by omega)
          have hz4 : ((tb.length : Int) != (M : Int)) = false := by rw [hLM]; simp
          have HST : Hid ((if k + 1 = n then idle else bstAt st bs d M (k + 1)) = bstAt st bs d M (k + 1)) := Lib.hid (if_neg hi)
          clear hi hLM
          go_wp2_with fail
          (with_reducible refine hon.mono ?_)
          clear hon y0 y1 y2 y3 y4 y5 y6 y7 y8 y9 y10 y11 y12 y13 y14
          rintro e w8 ⟨G4, ub, hG4, rfl, hub, S10⟩
          obtain ⟨UB, cb, rfl, -, -, -⟩ := hub.form
          have HB := Lib.hid hub
          have S11 := S10
          clear S10 hub
          have S12 := S11.newBlk #[.int .i64 0, .slice UB 0 cb, .bool false] 41
          have S13 := S12.newBlk #[.int .i64 0, .bool false] 43
          simp only [World.size_alloc] at S13
          clear S11 S12
          go_upto_region 15 with fail
          generalize w8.heap.size + 1 = q5 at *
          generalize w8.heap.size = q4 at *
          refine wp_world S13 fun w9 S14 => ?_
          clear S13
          have x0 := S14.pull3.cell 0
          have x1 := S14.pull3.cell 1
          have hok := pl_ok S14 0 false
          rw [show ((0 : Int) == 0 && !false) = true from rfl] at hok
          clear S14
          go_wp2_with fail
          (with_reducible refine hok.mono ?_)
          clear hok x0 x1
          rintro e w10 ⟨rfl, S15⟩
          have x0 := S15.cell 0
          have x1 := S15.cell 1
          have hok := pl_ok S15 0 false
          rw [show ((0 : Int) == 0 && !false) = true from rfl] at hok
          clear S15
          go_wp2_with fail
          (with_reducible refine hok.mono ?_)
          clear hok x0 x1
          rintro e w11 ⟨rfl, S16⟩
          have x3 := (S16.re [5, 0, 1, 2, 3, 4]).cell 3
          have HS := Lib.hid (S16.drop.drop.drop2.drop2.drop2)
          clear S16
          go_wp2_with fail
          go_roundw
          case rel =>
            refine ⟨k + 1, G4, by omega, by go_num, (hG2.trans hG3).trans hG4, ?_⟩
            rw [HST.out]
            exact HS.out
          case measure => simp [intOf]; omega
      · obtain rfl : k = n := by omega
        clear HEL
        go_wp2_with fail
        (with_reducible refine (law_awake (S)).mono ?_); rintro e w9 ⟨rfl, G9, hG9, S9⟩; go_wp2_with fail; exact hK.out _ _ ⟨rfl, S9.above (Gnd.le.trans ((Gnd.le.trans hG1 hG2)) hG9)⟩
theorem blockSplits_walk (w : World) (v0 : Value) (h0 : ∃ d, ArgV w (Ty.agg [.int .i64, .sl 1 (.int .u8), .bool, .int .i64]) v0 d) :
    Calls Try.prog 6 #[v0] w fun e w' => e = .returned (.bool true) ∧ Below w.heap.size w w' := by
  obtain ⟨_, h0⟩ := h0
  obtain ⟨st, u, bs, d, n, rfl, hu, hl⟩ := arg_padded h0
  by_cases hb : 300 < (bs.length : Int)
  · exact splits_big w st n u bs d hu hb
  by_cases h : 1 ≤ st ∧ st ≤ 2147483647 ∧ 1 ≤ n ∧ n ≤ 16384
  · exact splits_right w st n u bs d hu (by omega) h
  · exact splits_range w st n u bs d hu (by omega) h
end Go.Proofs.Ytkjeeogifdmeoaa
