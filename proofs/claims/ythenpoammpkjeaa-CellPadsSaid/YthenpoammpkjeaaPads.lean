/- The walk of the law CellPads. -/
import Derived.Test.YthenpoammpkjeaaPadsP
import Derived.Test.YthenpoammpkjeaaRdA
import Derived.Test.YthenpoammpkjeaaAw
import Derived.Deep.QuietTactic
import Derived.BigQuiet
import Derived.IntWalk
set_option linter.unusedSimpArgs false
set_option linter.unusedVariables false
namespace Go.Proofs.Ythenpoammpkjeaa
open Go.RowKit

theorem Sat.drewQ {G : Gnd} {w : World} {l : List Asrt} (H : Sat G w l) (n : Nat) : Sat G (w.drewN n) l := H.below ⟨rfl, rfl, rfl, Nat.le_refl _, fun _ _ => rfl⟩
theorem arg_padded {w : World} {v : Value} {d : D} (h : ArgV w (Ty.agg [.int .i64, .sl 1 (.int .u8), .bool, .int .i64]) v d) : ∃ st u bs e n, v = .agg #[.int .i64 st, u, .bool e, .int .i64 n] ∧ SlB (cellR (Gnd.of w).ro) u bs ∧ bs.length ≤ 140737488351232 ∧ (Lit.int .i64 n).wf = true := by
  obtain ⟨cs, rfl, h⟩ := h
  obtain ⟨ds, rfl⟩ : ∃ ds, d = .agg ds := by cases d <;> (try simp only [Rd] at h) <;> exact ⟨_, rfl⟩
  simp only [Rd] at h
  obtain ⟨_, _, c0, _, rfl, e0, _, r0, h⟩ := rdAll_cons h
  obtain ⟨_, _, c1, _, rfl, rfl, l1, r1, h⟩ := rdAll_cons h
  obtain ⟨_, _, c2, _, rfl, rfl, _, r2, h⟩ := rdAll_cons h
  obtain ⟨_, _, c3, _, rfl, rfl, _, r3, h⟩ := rdAll_cons h
  obtain rfl := rdAll_nil h
  obtain ⟨m0, rfl, -⟩ := rd_int1 r0
  obtain ⟨x, bs, rfl, s1, z1⟩ := rd_bytes1 l1 r1
  obtain ⟨e, rfl⟩ := rd_bool1 r2
  obtain ⟨m3, rfl, w3⟩ := rd_int1 r3
  exact ⟨m0, x, bs, e, m3, by rw [show cs = #[.int .i64 m0, x, .bool e, .int .i64 m3] from Array.toList_inj.1 (by rw [e0]; rfl)], s1, z1, w3⟩
set_option maxHeartbeats 8000000 in
set_option maxRecDepth 100000 in
theorem pads_big (w : World) (st n : Int) (u : Value) (bs : List UInt8) (d : Bool) (hu : SlB (cellR (Gnd.of w).ro) u bs) (hn0 : -9223372036854775808 ≤ n) (hn1 : n ≤ 9223372036854775807) (hb : 1200 < (bs.length : Int)) :
    Calls Try.prog 8 #[.agg #[.int .i64 st, u, .bool d, .int .i64 n]] w fun e w' => e = .returned (.bool true) ∧ Below w.heap.size w w' := by
  refine calls_any fun K hK => ?_
  have HU := Lib.hid hu
  obtain ⟨A, c, rfl, -, -, -⟩ := hu.form
  have S0 := (Sat.start w).newBlk #[.int .i64 st, .slice A bs.length c, .bool d, .int .i64 n] 46
  clear hu
  go_enter Try.func8, Try.ntmps8
  go_upto_region 1 with fail
  obtain ⟨p1, hp1⟩ : ∃ p, p = w.heap.size := ⟨_, rfl⟩
  rw [← hp1] at S0 ⊢
  clear hp1
  refine wp_world S0 fun w1 S1 => ?_
  clear S0
  have o0 := S1.cell 0
  have o1 := S1.cell 1
  have o2 := S1.cell 2
  have o3 := S1.cell 3
  have HS := Lib.hid S1
  clear S1
  go_quiet (fail)
  clear o0 o1 o2 o3
  go_upto_region 2 with fail
  refine wp_world (HS.out.drewQ _) fun w2 S2 => ?_
  clear HS
  go_wp2_with fail
  (with_reducible refine (law_awake (S2)).mono ?_); rintro e w9 ⟨rfl, G9, hG9, S9⟩; go_wp2_with fail; exact hK.out _ _ ⟨rfl, S9.above (Gnd.le.trans (Gnd.le.rfl') hG9)⟩
set_option maxHeartbeats 8000000 in
set_option maxRecDepth 100000 in
theorem pads_range (w : World) (st n : Int) (u : Value) (bs : List UInt8) (d : Bool) (hu : SlB (cellR (Gnd.of w).ro) u bs) (hn0 : -9223372036854775808 ≤ n) (hn1 : n ≤ 9223372036854775807) (hb : bs.length ≤ 1200) (h : padRight st n = false) :
    Calls Try.prog 8 #[.agg #[.int .i64 st, u, .bool d, .int .i64 n]] w fun e w' => e = .returned (.bool true) ∧ Below w.heap.size w w' := by
  refine calls_any fun K hK => ?_
  have HU := Lib.hid hu
  obtain ⟨A, c, rfl, -, -, -⟩ := hu.form
  have S0 := (Sat.start w).newBlk #[.int .i64 st, .slice A bs.length c, .bool d, .int .i64 n] 46
  clear hu
  have h' : ¬ (1 ≤ st ∧ st ≤ 2147483647 ∧ 2 ≤ n ∧ n ≤ 1024) := of_decide_eq_false h
  have hf := fun (W : World) (l : List Asrt) (S : Sat (Gnd.of w) W l) => cell_pad_range S st n A bs.length c d h
  clear h
  by_cases a1 : st < 1
  · clear h'
    go_enter Try.func8, Try.ntmps8
    go_upto_region 1 with fail
    obtain ⟨p1, hp1⟩ : ∃ p, p = w.heap.size := ⟨_, rfl⟩
    rw [← hp1] at S0 ⊢
    clear hp1
    refine wp_world S0 fun w1 S1 => ?_
    clear S0
    have o0 := S1.cell 0
    have o1 := S1.cell 1
    have o2 := S1.cell 2
    have o3 := S1.cell 3
    have HS := Lib.hid S1
    clear S1
    go_quiet (fail)
    clear o0 o1 o2 o3
    go_upto_region 2 with fail
    refine wp_world (HS.out.drewQ _) fun w2 S2 => ?_
    clear HS
    have S3 := S2
    clear S2
    go_wp2_with fail
    (with_reducible refine (hf _ _ S3).mono ?_)
    clear hf S3
    rintro e w3 ⟨rfl, S4⟩
    unfold zeroFr
    have S5 := S4.newBlk #[.int .i64 0, .int .i64 0, .int .i64 0, .slice none 0 0] 40
    clear S4
    go_upto_region 5 with fail
    generalize w3.heap.size = p2 at *
    refine wp_world S5 fun w4 S6 => ?_
    clear S5
    have o0 := S6.cell 0
    have o1 := S6.cell 1
    have o2 := S6.cell 2
    have o3 := S6.cell 3
    have heq := frame_equal S6 0 0 0 0 0 0 (.slice none 0 0) (.slice none 0 0) [] [] (fun W SW => (SlB.nil _).1) (fun W SW => (SlB.nil _).1)
    rw [decide_eq_true (by simp)] at heq
    clear S6
    go_wp2_with fail
    (with_reducible refine heq.mono ?_)
    clear heq o0 o1 o2 o3
    rintro e w5 ⟨rfl, S7⟩
    go_wp2_with fail
    (with_reducible refine (law_awake (S7)).mono ?_); rintro e w9 ⟨rfl, G9, hG9, S9⟩; go_wp2_with fail; exact hK.out _ _ ⟨rfl, S9.above (Gnd.le.trans (Gnd.le.rfl') hG9)⟩
  by_cases a2 : 2147483647 < st
  · clear h'
    go_enter Try.func8, Try.ntmps8
    go_upto_region 1 with fail
    obtain ⟨p1, hp1⟩ : ∃ p, p = w.heap.size := ⟨_, rfl⟩
    rw [← hp1] at S0 ⊢
    clear hp1
    refine wp_world S0 fun w1 S1 => ?_
    clear S0
    have o0 := S1.cell 0
    have o1 := S1.cell 1
    have o2 := S1.cell 2
    have o3 := S1.cell 3
    have HS := Lib.hid S1
    clear S1
    go_quiet (fail)
    clear o0 o1 o2 o3
    go_upto_region 2 with fail
    refine wp_world (HS.out.drewQ _) fun w2 S2 => ?_
    clear HS
    have S3 := S2
    clear S2
    go_wp2_with fail
    (with_reducible refine (hf _ _ S3).mono ?_)
    clear hf S3
    rintro e w3 ⟨rfl, S4⟩
    unfold zeroFr
    have S5 := S4.newBlk #[.int .i64 0, .int .i64 0, .int .i64 0, .slice none 0 0] 40
    clear S4
    go_upto_region 5 with fail
    generalize w3.heap.size = p2 at *
    refine wp_world S5 fun w4 S6 => ?_
    clear S5
    have o0 := S6.cell 0
    have o1 := S6.cell 1
    have o2 := S6.cell 2
    have o3 := S6.cell 3
    have heq := frame_equal S6 0 0 0 0 0 0 (.slice none 0 0) (.slice none 0 0) [] [] (fun W SW => (SlB.nil _).1) (fun W SW => (SlB.nil _).1)
    rw [decide_eq_true (by simp)] at heq
    clear S6
    go_wp2_with fail
    (with_reducible refine heq.mono ?_)
    clear heq o0 o1 o2 o3
    rintro e w5 ⟨rfl, S7⟩
    go_wp2_with fail
    (with_reducible refine (law_awake (S7)).mono ?_); rintro e w9 ⟨rfl, G9, hG9, S9⟩; go_wp2_with fail; exact hK.out _ _ ⟨rfl, S9.above (Gnd.le.trans (Gnd.le.rfl') hG9)⟩
  by_cases a3 : n < 2
  · clear h'
    go_enter Try.func8, Try.ntmps8
    go_upto_region 1 with fail
    obtain ⟨p1, hp1⟩ : ∃ p, p = w.heap.size := ⟨_, rfl⟩
    rw [← hp1] at S0 ⊢
    clear hp1
    refine wp_world S0 fun w1 S1 => ?_
    clear S0
    have o0 := S1.cell 0
    have o1 := S1.cell 1
    have o2 := S1.cell 2
    have o3 := S1.cell 3
    have HS := Lib.hid S1
    clear S1
    go_quiet (fail)
    clear o0 o1 o2 o3
    go_upto_region 2 with fail
    refine wp_world (HS.out.drewQ _) fun w2 S2 => ?_
    clear HS
    have S3 := S2
    clear S2
    go_wp2_with fail
    (with_reducible refine (hf _ _ S3).mono ?_)
    clear hf S3
    rintro e w3 ⟨rfl, S4⟩
    unfold zeroFr
    have S5 := S4.newBlk #[.int .i64 0, .int .i64 0, .int .i64 0, .slice none 0 0] 40
    clear S4
    go_upto_region 5 with fail
    generalize w3.heap.size = p2 at *
    refine wp_world S5 fun w4 S6 => ?_
    clear S5
    have o0 := S6.cell 0
    have o1 := S6.cell 1
    have o2 := S6.cell 2
    have o3 := S6.cell 3
    have heq := frame_equal S6 0 0 0 0 0 0 (.slice none 0 0) (.slice none 0 0) [] [] (fun W SW => (SlB.nil _).1) (fun W SW => (SlB.nil _).1)
    rw [decide_eq_true (by simp)] at heq
    clear S6
    go_wp2_with fail
    (with_reducible refine heq.mono ?_)
    clear heq o0 o1 o2 o3
    rintro e w5 ⟨rfl, S7⟩
    go_wp2_with fail
    (with_reducible refine (law_awake (S7)).mono ?_); rintro e w9 ⟨rfl, G9, hG9, S9⟩; go_wp2_with fail; exact hK.out _ _ ⟨rfl, S9.above (Gnd.le.trans (Gnd.le.rfl') hG9)⟩
  · have a4 : 1024 < n := by omega
    clear h'
    go_enter Try.func8, Try.ntmps8
    go_upto_region 1 with fail
    obtain ⟨p1, hp1⟩ : ∃ p, p = w.heap.size := ⟨_, rfl⟩
    rw [← hp1] at S0 ⊢
    clear hp1
    refine wp_world S0 fun w1 S1 => ?_
    clear S0
    have o0 := S1.cell 0
    have o1 := S1.cell 1
    have o2 := S1.cell 2
    have o3 := S1.cell 3
    have HS := Lib.hid S1
    clear S1
    go_quiet (fail)
    clear o0 o1 o2 o3
    go_upto_region 2 with fail
    refine wp_world (HS.out.drewQ _) fun w2 S2 => ?_
    clear HS
    have S3 := S2
    clear S2
    go_wp2_with fail
    (with_reducible refine (hf _ _ S3).mono ?_)
    clear hf S3
    rintro e w3 ⟨rfl, S4⟩
    unfold zeroFr
    have S5 := S4.newBlk #[.int .i64 0, .int .i64 0, .int .i64 0, .slice none 0 0] 40
    clear S4
    go_upto_region 5 with fail
    generalize w3.heap.size = p2 at *
    refine wp_world S5 fun w4 S6 => ?_
    clear S5
    have o0 := S6.cell 0
    have o1 := S6.cell 1
    have o2 := S6.cell 2
    have o3 := S6.cell 3
    have heq := frame_equal S6 0 0 0 0 0 0 (.slice none 0 0) (.slice none 0 0) [] [] (fun W SW => (SlB.nil _).1) (fun W SW => (SlB.nil _).1)
    rw [decide_eq_true (by simp)] at heq
    clear S6
    go_wp2_with fail
    (with_reducible refine heq.mono ?_)
    clear heq o0 o1 o2 o3
    rintro e w5 ⟨rfl, S7⟩
    go_wp2_with fail
    (with_reducible refine (law_awake (S7)).mono ?_); rintro e w9 ⟨rfl, G9, hG9, S9⟩; go_wp2_with fail; exact hK.out _ _ ⟨rfl, S9.above (Gnd.le.trans (Gnd.le.rfl') hG9)⟩
set_option maxHeartbeats 8000000 in
set_option maxRecDepth 100000 in
theorem pads_full (w : World) (st n : Int) (u : Value) (bs : List UInt8) (d : Bool) (hu : SlB (cellR (Gnd.of w).ro) u bs) (hn0 : -9223372036854775808 ≤ n) (hn1 : n ≤ 9223372036854775807) (hb : bs.length ≤ 1200) (h : padRight st n = true) (hp : n - 1 - bs.length < 0 ∨ 255 < n - 1 - bs.length) :
    Calls Try.prog 8 #[.agg #[.int .i64 st, u, .bool d, .int .i64 n]] w fun e w' => e = .returned (.bool true) ∧ Below w.heap.size w w' := by
  refine calls_any fun K hK => ?_
  have HU := Lib.hid hu
  obtain ⟨A, c, rfl, -, -, -⟩ := hu.form
  have S0 := (Sat.start w).newBlk #[.int .i64 st, .slice A bs.length c, .bool d, .int .i64 n] 46
  clear hu
  obtain ⟨a1, a2, a3, a4⟩ : (1 ≤ st ∧ st ≤ 2147483647 ∧ 2 ≤ n ∧ n ≤ 1024) := of_decide_eq_true h
  have hf := fun (W : World) (l : List Asrt) (S : Sat (Gnd.of w) W l) => cell_pad_full S st n A bs.length c d h (by omega) hp
  clear h
  by_cases b1 : n - 1 < (bs.length : Int)
  · clear hp
    go_enter Try.func8, Try.ntmps8
    go_upto_region 1 with fail
    obtain ⟨p1, hp1⟩ : ∃ p, p = w.heap.size := ⟨_, rfl⟩
    rw [← hp1] at S0 ⊢
    clear hp1
    refine wp_world S0 fun w1 S1 => ?_
    clear S0
    have o0 := S1.cell 0
    have o1 := S1.cell 1
    have o2 := S1.cell 2
    have o3 := S1.cell 3
    have HS := Lib.hid S1
    clear S1
    go_quiet (fail)
    clear o0 o1 o2 o3
    go_upto_region 2 with fail
    refine wp_world (HS.out.drewQ _) fun w2 S2 => ?_
    clear HS
    have S3 := S2
    clear S2
    go_wp2_with fail
    (with_reducible refine (hf _ _ S3).mono ?_)
    clear hf S3
    rintro e w3 ⟨rfl, S4⟩
    unfold zeroFr
    have S5 := S4.newBlk #[.int .i64 0, .int .i64 0, .int .i64 0, .slice none 0 0] 40
    clear S4
    go_upto_region 5 with fail
    generalize w3.heap.size = p2 at *
    refine wp_world S5 fun w4 S6 => ?_
    clear S5
    have o0 := S6.cell 0
    have o1 := S6.cell 1
    have o2 := S6.cell 2
    have o3 := S6.cell 3
    have heq := frame_equal S6 0 0 0 0 0 0 (.slice none 0 0) (.slice none 0 0) [] [] (fun W SW => (SlB.nil _).1) (fun W SW => (SlB.nil _).1)
    rw [decide_eq_true (by simp)] at heq
    clear S6
    go_wp2_with fail
    (with_reducible refine heq.mono ?_)
    clear heq o0 o1 o2 o3
    rintro e w5 ⟨rfl, S7⟩
    go_wp2_with fail
    (with_reducible refine (law_awake (S7)).mono ?_); rintro e w9 ⟨rfl, G9, hG9, S9⟩; go_wp2_with fail; exact hK.out _ _ ⟨rfl, S9.above (Gnd.le.trans (Gnd.le.rfl') hG9)⟩
  · have b2 : (bs.length : Int) + 255 < n - 1 := by omega
    clear hp
    go_enter Try.func8, Try.ntmps8
    go_upto_region 1 with fail
    obtain ⟨p1, hp1⟩ : ∃ p, p = w.heap.size := ⟨_, rfl⟩
    rw [← hp1] at S0 ⊢
    clear hp1
    refine wp_world S0 fun w1 S1 => ?_
    clear S0
    have o0 := S1.cell 0
    have o1 := S1.cell 1
    have o2 := S1.cell 2
    have o3 := S1.cell 3
    have HS := Lib.hid S1
    clear S1
    go_quiet (fail)
    clear o0 o1 o2 o3
    go_upto_region 2 with fail
    refine wp_world (HS.out.drewQ _) fun w2 S2 => ?_
    clear HS
    have S3 := S2
    clear S2
    go_wp2_with fail
    (with_reducible refine (hf _ _ S3).mono ?_)
    clear hf S3
    rintro e w3 ⟨rfl, S4⟩
    unfold zeroFr
    have S5 := S4.newBlk #[.int .i64 0, .int .i64 0, .int .i64 0, .slice none 0 0] 40
    clear S4
    go_upto_region 5 with fail
    generalize w3.heap.size = p2 at *
    refine wp_world S5 fun w4 S6 => ?_
    clear S5
    have o0 := S6.cell 0
    have o1 := S6.cell 1
    have o2 := S6.cell 2
    have o3 := S6.cell 3
    have heq := frame_equal S6 0 0 0 0 0 0 (.slice none 0 0) (.slice none 0 0) [] [] (fun W SW => (SlB.nil _).1) (fun W SW => (SlB.nil _).1)
    rw [decide_eq_true (by simp)] at heq
    clear S6
    go_wp2_with fail
    (with_reducible refine heq.mono ?_)
    clear heq o0 o1 o2 o3
    rintro e w5 ⟨rfl, S7⟩
    go_wp2_with fail
    (with_reducible refine (law_awake (S7)).mono ?_); rintro e w9 ⟨rfl, G9, hG9, S9⟩; go_wp2_with fail; exact hK.out _ _ ⟨rfl, S9.above (Gnd.le.trans (Gnd.le.rfl') hG9)⟩
set_option maxHeartbeats 8000000 in
set_option maxRecDepth 100000 in
theorem pads_right (w : World) (st n : Int) (u : Value) (bs : List UInt8) (d : Bool) (hu : SlB (cellR (Gnd.of w).ro) u bs) (hn0 : -9223372036854775808 ≤ n) (hn1 : n ≤ 9223372036854775807) (hb : bs.length ≤ 1200) (h : padRight st n = true) (hp : ¬ (n - 1 - bs.length < 0 ∨ 255 < n - 1 - bs.length)) :
    Calls Try.prog 8 #[.agg #[.int .i64 st, u, .bool d, .int .i64 n]] w fun e w' => e = .returned (.bool true) ∧ Below w.heap.size w w' := by
  refine calls_any fun K hK => ?_
  have HU := Lib.hid hu
  obtain ⟨A, c, rfl, -, -, -⟩ := hu.form
  have S0 := (Sat.start w).newBlk #[.int .i64 st, .slice A bs.length c, .bool d, .int .i64 n] 46
  clear hu
  obtain ⟨a1, a2, a3, a4⟩ : (1 ≤ st ∧ st ≤ 2147483647 ∧ 2 ≤ n ∧ n ≤ 1024) := of_decide_eq_true h
  obtain ⟨z, hz⟩ : ∃ z : Nat, n - 1 - bs.length = z := ⟨(n - 1 - bs.length).toNat, by omega⟩
  have hz2 : z ≤ 255 := by omega
  have hf := fun (W : World) (l : List Asrt) (S : Sat (Gnd.of w) W l) => cell_pad S st n _ bs d HU.out h z hz hz2
  obtain ⟨N, rfl⟩ : ∃ N : Nat, n = N := ⟨n.toNat, by omega⟩
  have hpl : (padB bs z).length = N := by rw [padB_length]; omega
  have q1 : ¬ ((N : Int) - 1 < (bs.length : Int)) := by omega
  have q2 : ¬ ((bs.length : Int) + 255 < (N : Int) - 1) := by omega
  obtain ⟨fl, hfl⟩ : ∃ fl : Int, fl = if d = true then 9 else 8 := ⟨_, rfl⟩
  have HZ := Lib.hid hz
  have HFL := Lib.hid hfl
  clear h hp hz hfl
  go_enter Try.func8, Try.ntmps8
  go_upto_region 1 with fail
  obtain ⟨p1, hp1⟩ : ∃ p, p = w.heap.size := ⟨_, rfl⟩
  rw [← hp1] at S0 ⊢
  clear hp1
  refine wp_world S0 fun w1 S1 => ?_
  clear S0
  have o0 := S1.cell 0
  have o1 := S1.cell 1
  have o2 := S1.cell 2
  have o3 := S1.cell 3
  have HS := Lib.hid S1
  clear S1
  go_quiet (fail)
  clear o0 o1 o2 o3
  go_upto_region 2 with fail
  refine wp_world (HS.out.drewQ _) fun w2 S2 => ?_
  clear HS
  go_wp2_with fail
  replace hf := hf _ _ S2
  (with_reducible refine hf.mono ?_)
  clear hf
  rintro e w3 ⟨G1, u1, hG1, rfl, S3, hu1⟩
  obtain ⟨A1, c1, rfl, -, -, -⟩ := hu1.form
  rw [← HFL.out]
  have S4 := S3.newBlk #[.int .i64 0, .int .i64 fl, .int .i64 st, .slice A1 (padB bs z).length c1] 40
  have HU1 := Lib.hid hu1
  have HPL := Lib.hid hpl
  rw [hpl] at S4 ⊢
  clear S3 hu1 hpl
  go_upto_region 9 with fail
  generalize w3.heap.size = p2 at *
  refine wp_world S4 fun w4 S5 => ?_
  clear S4
  have o0 := S5.cell 0
  have o1 := S5.cell 1
  have o2 := S5.cell 2
  have o3 := S5.cell 3
  have hp := pl_parse S5 0 fl st _ HU1.out (by rw [HPL.out]; omega)
  rw [HFL.out, pad_parse hz2 a1 d, ← HFL.out, HPL.out] at hp
  simp only [ItS.cs, bareS] at hp
  clear S5
  go_wp2_with fail
  (with_reducible refine hp.mono ?_)
  clear hp o0 o1 o2 o3
  rintro e w5 ⟨G2, v2, q2, hG2, rfl, hv2, hq2, S6⟩
  obtain ⟨VA, vc, rfl, -, -, -⟩ := hv2.form
  obtain ⟨UA, uc, rfl, -⟩ := id hq2
  have S7 := (S6.newBlk #[.int .i64 0, .int .i64 st, .slice VA bs.length vc, .bool d, .bool false, .bool false, .int .i64 N, .int .i64 0, .int .i64 0, .int .i64 0, .int .i64 0, .int .i64 0, .bool false, .bool false, .slice UA 0 uc] 51).newBlk #[.int .i64 0, .bool false] 53
  simp only [World.size_alloc] at S7
  have HV := Lib.hid hv2
  clear S6 hv2 hq2
  go_upto_region 10 with fail
  refine wp_world S7 fun w6 S8 => ?_
  clear S7
  generalize w5.heap.size + 1 = p4 at *
  generalize w5.heap.size = p3 at *
  have b0 := S8.cell 0
  have b1 := S8.cell 1
  have hok := pl_ok S8 0 false
  rw [show ((0 : Int) == 0 && !false) = true from rfl] at hok
  clear S8
  go_wp2_with fail
  (with_reducible refine hok.mono ?_)
  clear hok b0 b1
  rintro e w7 ⟨rfl, S9⟩
  have y0 := S9.swap.cell 0
  have y1 := S9.swap.cell 1
  have y2 := S9.swap.cell 2
  have y3 := S9.swap.cell 3
  have y6 := S9.swap.cell 6
  have S10 := S9.re [2, 0, 1]
  have o0 := S10.cell 0
  have o1 := S10.cell 1
  have o2 := S10.cell 2
  have o3 := S10.cell 3
  have cv1 := conv_bytes _ bs _ ((HV.out.sat S9).1)
  have cv2 := conv_bytes _ bs _ (((HU.out.mono (hG1.trans hG2)).sat S9).1)
  have hrt := frame_right S10 0 fl st A1 N c1
  rw [show frRight 0 fl st N = true from decide_eq_true (by have := HFL.out; cases d <;> simp at this <;> omega)] at hrt
  clear S9 S10
  go_wp2_with fail
  (with_reducible refine hrt.mono ?_)
  clear hrt y0 y1 y2 y3 y6 o0 o1 o2 o3 cv1 cv2
  rintro e w8 ⟨rfl, S11⟩
  go_wp2_with fail
  (with_reducible refine (law_awake (S11)).mono ?_); rintro e w9 ⟨rfl, G9, hG9, S9⟩; go_wp2_with fail; exact hK.out _ _ ⟨rfl, S9.above (Gnd.le.trans ((Gnd.le.trans hG1 hG2)) hG9)⟩
theorem cellPads_walk (w : World) (v0 : Value) (h0 : ∃ d, ArgV w (Ty.agg [.int .i64, .sl 1 (.int .u8), .bool, .int .i64]) v0 d) :
    Calls Try.prog 8 #[v0] w fun e w' => e = .returned (.bool true) ∧ Below w.heap.size w w' := by
  obtain ⟨_, h0⟩ := h0
  obtain ⟨st, u, bs, d, n, rfl, hu, hl, hn⟩ := arg_padded h0
  obtain ⟨n0, n1⟩ := bounds_i64 hn
  by_cases hb : 1200 < (bs.length : Int)
  · exact pads_big w st n u bs d hu n0 n1 hb
  cases h : padRight st n with
  | false => exact pads_range w st n u bs d hu n0 n1 (by omega) h
  | true =>
    by_cases hp : n - 1 - bs.length < 0 ∨ 255 < n - 1 - bs.length
    · exact pads_full w st n u bs d hu n0 n1 (by omega) h hp
    · exact pads_right w st n u bs d hu n0 n1 (by omega) h hp
end Go.Proofs.Ythenpoammpkjeaa
