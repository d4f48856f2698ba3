/- The walk over cell.Pad. -/
import Derived.Test.YthenpoammpkjeaaFill
set_option linter.unusedSimpArgs false
set_option linter.unusedVariables false
namespace Go.Proofs.Ythenpoammpkjeaa
open Go.RowKit

/-- May a text be padded for this stream, in this cell? -/
def padRight (st n : Int) : Bool := decide (1 ≤ st ∧ st ≤ 2147483647 ∧ 2 ≤ n ∧ n ≤ 1024)
/-- The padded text. -/
def padB (bs : List UInt8) (z : Nat) : List UInt8 := UInt8.ofNat z :: (bs ++ List.replicate z 0)
theorem padB_length (bs : List UInt8) (z : Nat) : (padB bs z).length = 1 + bs.length + z := by simp [padB]; omega
theorem results_cell_t' {P : Program} {fn : Func} {p1 p2 : Tmp} {y1 : TypeId} (h : fn.results = #[.cell p1 y1, .tmp p2]) (tmps : Array Value) (w : World) (g1 : Nat) (t1 : TypeId) (c1 : Array Value) (d1 : TypeDesc)
    (hp1 : tmps.getD p1 undef = .pointer (some ⟨g1, 0, none⟩)) (hg1 : w.heap[g1]? = some (.cells c1 t1 (0, 0))) (hu1 : P.underlying y1 = some d1) (hd1 : (match d1 with | .struct _ | .array _ _ => true | _ => false) = true) (hi1 : (P.info? y1).map (·.size) = some c1.size) :
    (results fn tmps).run P w = .ok (.tuple #[.agg c1, tmps.getD p2 undef]) w := results_cell_t h tmps w g1 t1 c1 d1 hp1 hg1 hu1 hd1 hi1
set_option maxHeartbeats 4000000 in
set_option maxRecDepth 100000 in
theorem cell_pad_range {G : Gnd} {w : World} {l : List Asrt} (H : Sat G w l) (st n : Int) (A : Option Addr) (m c : Nat) (d : Bool) (h : padRight st n = false) :
    Calls Try.prog 22 #[.int .i64 st, .slice A m c, .bool d, .int .i64 n] w fun e w' => e = .returned (.tuple #[zeroFr, .int .i64 11]) ∧ Sat G w' l := by
  refine calls_any fun K hK => ?_
  have S := H.newBlk #[.int .i64 0, .int .i64 0, .int .i64 0, .slice none 0 0] 40
  clear H
  unfold zeroFr at hK
  have h' : ¬ (1 ≤ st ∧ st ≤ 2147483647 ∧ 2 ≤ n ∧ n ≤ 1024) := of_decide_eq_false h
  by_cases a1 : st < 1
  · clear h h'
    go_enter Try.func22, Try.ntmps22
    go_wp2_with fail
    exact bodyPost_ret (results_cell_t rfl _ _ _ _ _ _ rfl (S).blk_at Try.underlying40 rfl (by kernel_rfl)) rfl (hK.out _ _ ⟨rfl, S.drop⟩)
  by_cases a2 : 2147483647 < st
  · clear h h'
    go_enter Try.func22, Try.ntmps22
    go_wp2_with fail
    exact bodyPost_ret (results_cell_t rfl _ _ _ _ _ _ rfl (S).blk_at Try.underlying40 rfl (by kernel_rfl)) rfl (hK.out _ _ ⟨rfl, S.drop⟩)
  by_cases a3 : n < 2
  · clear h h'
    go_enter Try.func22, Try.ntmps22
    go_wp2_with fail
    exact bodyPost_ret (results_cell_t rfl _ _ _ _ _ _ rfl (S).blk_at Try.underlying40 rfl (by kernel_rfl)) rfl (hK.out _ _ ⟨rfl, S.drop⟩)
  · have a4 : 1024 < n := by omega
    clear h h'
    go_enter Try.func22, Try.ntmps22
    go_wp2_with fail
    exact bodyPost_ret (results_cell_t rfl _ _ _ _ _ _ rfl (S).blk_at Try.underlying40 rfl (by kernel_rfl)) rfl (hK.out _ _ ⟨rfl, S.drop⟩)
set_option maxHeartbeats 4000000 in
set_option maxRecDepth 100000 in
theorem cell_pad_full {G : Gnd} {w : World} {l : List Asrt} (H : Sat G w l) (st n : Int) (A : Option Addr) (m c : Nat) (d : Bool) (h : padRight st n = true) (hm : m ≤ 1000000) (hp : n - 1 - m < 0 ∨ 255 < n - 1 - m) :
    Calls Try.prog 22 #[.int .i64 st, .slice A m c, .bool d, .int .i64 n] w fun e w' => e = .returned (.tuple #[zeroFr, .int .i64 15]) ∧ Sat G w' l := by
  refine calls_any fun K hK => ?_
  have S := H.newBlk #[.int .i64 0, .int .i64 0, .int .i64 0, .slice none 0 0] 40
  clear H
  unfold zeroFr at hK
  obtain ⟨a1, a2, a3, a4⟩ : (1 ≤ st ∧ st ≤ 2147483647 ∧ 2 ≤ n ∧ n ≤ 1024) := of_decide_eq_true h
  clear h
  by_cases b1 : n - 1 - (m : Int) < 0
  · clear hp
    go_enter Try.func22, Try.ntmps22
    go_wp2_with fail
    exact bodyPost_ret (results_cell_t rfl _ _ _ _ _ _ rfl (S).blk_at Try.underlying40 rfl (by kernel_rfl)) rfl (hK.out _ _ ⟨rfl, S.drop⟩)
  · have b2 : 255 < n - 1 - (m : Int) := by omega
    clear hp
    go_enter Try.func22, Try.ntmps22
    go_wp2_with fail
    exact bodyPost_ret (results_cell_t rfl _ _ _ _ _ _ rfl (S).blk_at Try.underlying40 rfl (by kernel_rfl)) rfl (hK.out _ _ ⟨rfl, S.drop⟩)
theorem st_copy {P : Program} {ops : Array Oper} {rest : List Oper} {o : Oper} {a : Act} {w : World} {Q : Exit → Act → World → Prop} {G : Gnd} {l : List Asrt} (hgd : o.guard = none) (d s : Operand) (dT sT : TypeId)
    (ho : o.op = .call { callee := .builtin .copy, args := #[d, s], argTypes := #[dT, sT] }) (elem : TypeId) (hu : P.underlying dT = some (.slice elem)) (hsz : (P.info? elem).map (·.size) = some 1)
    (g off dLen dCap : Nat) (hd : a.eval d = .slice (some ⟨g, off, none⟩) dLen dCap) (v : Value) (bs : List UInt8) (hs : a.eval s = v) (hb : SlB w.cell? v bs) (hle : bs.length ≤ dLen) (cur : Array Value) (t : TypeId)
    (S : Sat G w (blk g cur t :: l)) (hfit : off + bs.length ≤ cur.size)
    (h : ∀ w', Sat G w' (blk g (cur.toList.take off ++ (bs.map byteV ++ cur.toList.drop (off + bs.length))).toArray t :: l) → wpList P ops Q rest (a.put o.dst (goInt bs.length)) w') : wpList P ops Q (o :: rest) a w := by
  obtain ⟨A, c, rfl, hc1, hc2, hcA⟩ := hb.form
  by_cases h0 : bs.length = 0
  · obtain rfl : bs = [] := List.eq_nil_of_length_eq_zero h0
    refine wpList_copy_nothing hgd d s dT sT ho elem hu hsz _ A dLen dCap 0 c hd hs (by simp) ?_
    exact h w (by simpa using S)
  · obtain ⟨ad, rfl⟩ : ∃ ad, A = some ad := by
      cases A with
      | some x => exact ⟨x, rfl⟩
      | none => exact absurd (hcA rfl) (by omega)
    have hl : (bs.map byteV).length = bs.length := List.length_map ..
    refine wpList_copy_own hgd d s dT sT ho elem hu hsz g off dLen dCap ad bs.length c hd hs cur t S.blk_at (bs.map byteV) (by rw [hl]; exact (Nat.min_eq_left hle).symm) (fun j u hj => ?_) (by rw [hl]; exact hfit) (by simp [byteV, Value.oneCell']) ?_
    · obtain ⟨A', c', e, h1, h2, h3⟩ := hb.1
      cases e
      obtain ⟨x, hx, hc⟩ := h3 j u hj
      cases hx
      exact hc
    · rw [hl]
      exact h _ (S.setRow' _ rfl rfl rfl rfl)
/-- A row of one's own that is turned no more. -/
theorem slb_of_row {G : Gnd} {w : World} {l : List Asrt} {q N : Nat} {bs : List UInt8} (H : Sat G w (blk q (bs.map byteV).toArray 5 :: l)) (hN : bs.length = N) (hm : N ≤ maxLen) :
    ∃ G', G.le G' ∧ Sat G' w l ∧ SlB (Go.Proofs.Ythenpoammpkjeaa.cellR G'.ro) (.slice (some ⟨q, 0, none⟩) N N) bs := by
  subst hN
  have S2 := H.ownBlk (size := 1) bs.length (by simp) hm
  rw [show (bs.map byteV).toArray.toList = bs.map byteV from rfl] at S2
  exact S2.ownFrz
theorem madeCells_zero (N : Nat) (h : 0 < N) : (madeCells #[Value.int .u8 0] N)[0]? = some (.int .u8 0) := by
  rw [← Array.getElem?_toList, toList_madeCells_one]
  simp [h]
theorem pad_row (bs : List UInt8) (z N : Nat) (hN : N = 1 + bs.length + z) (hz : z ≤ 255) :
    (((madeCells #[Value.int .u8 0] N).setIfInBounds 0 (.int .u8 z)).toList.take 1 ++ (bs.map byteV ++ ((madeCells #[Value.int .u8 0] N).setIfInBounds 0 (.int .u8 z)).toList.drop (1 + bs.length))) = (padB bs z).map byteV := by
  subst hN
  have e : (madeCells #[Value.int .u8 0] (1 + bs.length + z)).toList = Value.int .u8 0 :: (List.replicate (bs.length + z) (0 : UInt8)).map byteV := by
    rw [toList_madeCells_one, show 1 + bs.length + z = (bs.length + z) + 1 by omega, List.replicate_succ, List.map_replicate]; rfl
  have hb : byteV (UInt8.ofNat z) = .int .u8 z := by unfold byteV; rw [UInt8.toNat_ofNat']; simp; omega
  rw [Array.toList_setIfInBounds, e]
  simp only [List.set_cons_zero, List.take_succ_cons, List.take_zero, padB, List.map_cons, hb, List.map_append, List.cons_append, List.nil_append]
  rw [show 1 + bs.length = bs.length + 1 by omega, List.drop_succ_cons, ← List.map_drop, List.drop_replicate]
  congr 5
  omega
set_option maxHeartbeats 4000000 in
set_option maxRecDepth 100000 in
theorem cell_pad {G : Gnd} {w : World} {l : List Asrt} (H : Sat G w l) (st n : Int) (v : Value) (bs : List UInt8) (d : Bool) (hb : SlB (cellR G.ro) v bs) (h : padRight st n = true) (z : Nat) (hz : n - 1 - bs.length = z) (hz2 : z ≤ 255) :
    Calls Try.prog 22 #[.int .i64 st, v, .bool d, .int .i64 n] w fun e w' => ∃ G' u, G.le G' ∧ e = .returned (.tuple #[.agg #[.int .i64 0, .int .i64 (if d then 9 else 8), .int .i64 st, u], .int .i64 0]) ∧ Sat G' w' l ∧ SlB (Go.Proofs.Ythenpoammpkjeaa.cellR G'.ro) u (padB bs z) := by
  refine calls_any fun K hK => ?_
  obtain ⟨A, c, rfl, hc1, hc2, hcA⟩ := hb.form
  have hc3 : c ≤ 9223372036854775807 := hc2
  obtain ⟨a1, a2, a3, a4⟩ : (1 ≤ st ∧ st ≤ 2147483647 ∧ 2 ≤ n ∧ n ≤ 1024) := of_decide_eq_true h
  clear h
  obtain ⟨N, rfl⟩ : ∃ N : Nat, n = N := ⟨n.toNat, by omega⟩
  have S := (H.newBlk #[.int .i64 0, .int .i64 0, .int .i64 0, .slice none 0 0] 40).newBlk #[.int .i64 0, .int .i64 8, .int .i64 st, .slice none 0 0] 40
  have e0 : ∀ o, (w.alloc o).heap.size = w.heap.size + 1 := fun o => by simp
  rw [e0] at S
  clear H e0
  have hmk := run_make_row' (P := Try.prog) 22 5 (.int .u8 0) 1 Try.underlying22 info_u8 rfl .i64 .i64 N (by omega) (by omega)
  have ho : bits .or .i64 8 1 = 9 := by decide
  have HZ := Lib.hid hz
  have hz3 : (N : Int) - 1 - bs.length = z := hz
  have hz0 : 0 ≤ (N : Int) - 1 - bs.length := by omega
  have hz5 : (N : Int) - 1 - bs.length ≤ 255 := by omega
  have hz6 : ¬ ((255 : Int) < (N : Int) - 1 - bs.length) := by omega
  clear hz
  cases d with
  | true =>
    go_enter Try.func22, Try.ntmps22
    go_upto_region 8 with fail
    refine wp_world S fun W1 S1 => ?_
    clear S
    generalize w.heap.size = p at *
    have c1 : W1.cell? ⟨p + 1, 1, none⟩ = some (.int .i64 8) := S1.cell 1
    have f1 := S1.frozen 1
    have S2 : Sat G (W1.setCell ⟨p + 1, 1, none⟩ (.int .i64 9)) (blk (p + 1) #[.int .i64 0, .int .i64 9, .int .i64 st, .slice none 0 0] 40 :: blk p #[.int .i64 0, .int .i64 0, .int .i64 0, .slice none 0 0] 40 :: l) := S1.setCell 1 (.int .i64 9)
    go_upto_region 9 with fail
    refine wp_world S2 fun W2 S3 => ?_
    clear S2 S1 c1 f1
    have hmk' := hmk W2
    have c3 : (W2.alloc (.cells (madeCells #[.int .u8 0] N) 5)).cell? ⟨p + 1, 3, none⟩ = some (.slice none 0 0) := (S3.newBlk (madeCells #[.int .u8 0] N) 5).swap.cell 3
    have f3 := (S3.newBlk (madeCells #[.int .u8 0] N) 5).swap.frozen 3
    have S4 : Sat G ((W2.alloc (.cells (madeCells #[.int .u8 0] N) 5)).setCell ⟨p + 1, 3, none⟩ (.slice (some ⟨W2.heap.size, 0, none⟩) N N)) (blk (p + 1) #[.int .i64 0, .int .i64 9, .int .i64 st, .slice (some ⟨W2.heap.size, 0, none⟩) N N] 40 :: blk W2.heap.size (madeCells #[.int .u8 0] N) 5 :: blk p #[.int .i64 0, .int .i64 0, .int .i64 0, .slice none 0 0] 40 :: l) :=
      (S3.newBlk (madeCells #[.int .u8 0] N) 5).swap.setCell 3 (.slice (some ⟨W2.heap.size, 0, none⟩) N N)
    clear S3
    go_upto_region 10 with fail
    refine wp_world S4 fun W3 S5 => ?_
    clear S4 c3 f3 hmk' hmk
    generalize W2.heap.size = q at *
    have c3 : W3.cell? ⟨p + 1, 3, none⟩ = some (.slice (some ⟨q, 0, none⟩) N N) := S5.cell 3
    have d0 : W3.cell? ⟨q, 0, none⟩ = some (.int .u8 0) := by
      rw [S5.swap.cell 0, madeCells_zero N (by omega)]
    have f0 := S5.swap.frozen 0
    have hz8 : IntKind.u8.wrap (z : Int) = z := by unfold IntKind.wrap; simp [IntKind.bits, IntKind.signed]; omega
    have S6 : Sat G (W3.setCell ⟨q, 0, none⟩ (.int .u8 z)) (blk q ((madeCells #[.int .u8 0] N).setIfInBounds 0 (.int .u8 z)) 5 :: blk (p + 1) #[.int .i64 0, .int .i64 9, .int .i64 st, .slice (some ⟨q, 0, none⟩) N N] 40 :: blk p #[.int .i64 0, .int .i64 0, .int .i64 0, .slice none 0 0] 40 :: l) := S5.swap.setCell 0 (.int .u8 z)
    clear S5
    go_upto_region 11 with fail
    refine wp_world S6 fun W4 S7 => ?_
    clear S6 c3 d0 f0
    have c3 : W4.cell? ⟨p + 1, 3, none⟩ = some (.slice (some ⟨q, 0, none⟩) N N) := S7.swap.cell 3
    have hbW := hb.sat S7
    have hr8 := pad_row bs z N (by have := HZ.out; omega) hz2
    have hsz8 : ((madeCells #[Value.int .u8 0] N).setIfInBounds 0 (.int .u8 z)).size = N := by rw [Array.size_setIfInBounds, ← Array.length_toList, toList_madeCells_one, List.length_replicate]
    generalize (madeCells #[Value.int .u8 0] N).setIfInBounds 0 (.int .u8 z) = row at *
    go_upto_region 12 with (refine st_copy rfl (.tmp 58) (.tmp 59) 22 22 rfl 5 Try.underlying22 rfl q 1 (N - 1) (N - 1) rfl _ bs rfl hbW (by omega) _ 5 S7 (by rw [hsz8]; omega) ?_; intro W5 S8; rw [hr8] at S8; clear S7 hbW c3 hr8 hsz8)
    have c0 : W5.cell? ⟨p + 1, 0, none⟩ = some (.int .i64 0) := S8.swap.cell 0
    have c1 : W5.cell? ⟨p + 1, 1, none⟩ = some (.int .i64 9) := S8.swap.cell 1
    have c2 : W5.cell? ⟨p + 1, 2, none⟩ = some (.int .i64 st) := S8.swap.cell 2
    have c3 : W5.cell? ⟨p + 1, 3, none⟩ = some (.slice (some ⟨q, 0, none⟩) N N) := S8.swap.cell 3
    have T8 := S8.pull2
    have d0 : W5.cell? ⟨p, 0, none⟩ = some (.int .i64 0) := T8.cell 0
    have d1 : W5.cell? ⟨p, 1, none⟩ = some (.int .i64 0) := T8.cell 1
    have d2 : W5.cell? ⟨p, 2, none⟩ = some (.int .i64 0) := T8.cell 2
    have d3 : W5.cell? ⟨p, 3, none⟩ = some (.slice none 0 0) := T8.cell 3
    have f0 := T8.frozen 0
    have f1 := T8.frozen 1
    have f2 := T8.frozen 2
    have f3 := T8.frozen 3
    have S9 : Sat G ((((W5.setCell ⟨p, 0, none⟩ (.int .i64 0)).setCell ⟨p, 1, none⟩ (.int .i64 9)).setCell ⟨p, 2, none⟩ (.int .i64 st)).setCell ⟨p, 3, none⟩ (.slice (some ⟨q, 0, none⟩) N N)) (blk p #[.int .i64 0, .int .i64 9, .int .i64 st, .slice (some ⟨q, 0, none⟩) N N] 40 :: blk q ((padB bs z).map byteV).toArray 5 :: blk (p + 1) #[.int .i64 0, .int .i64 9, .int .i64 st, .slice (some ⟨q, 0, none⟩) N N] 40 :: l) :=
      (((T8.setCell 0 (.int .i64 0)).setCell 1 (.int .i64 9)).setCell 2 (.int .i64 st)).setCell 3 (.slice (some ⟨q, 0, none⟩) N N)
    have hN : (padB bs z).length = N := by rw [padB_length]; have := HZ.out; omega
    obtain ⟨G', hG, S10, hu⟩ := slb_of_row S9.drop hN (Nat.le_trans (show N ≤ 1024 by omega) (by decide))
    clear S8 T8 hz5 hz6 hz3 hz0
    go_wp2_with fail
    exact bodyPost_ret (results_cell_t rfl _ _ _ _ _ _ rfl (S9).blk_at Try.underlying40 rfl (by kernel_rfl)) rfl (hK.out _ _ ⟨G', _, hG, rfl, S10.drop, hu⟩)
  | false =>
    go_enter Try.func22, Try.ntmps22
    go_upto_region 9 with fail
    refine wp_world S fun W2 S3 => ?_
    clear S
    generalize w.heap.size = p at *
    have hmk' := hmk W2
    have c3 : (W2.alloc (.cells (madeCells #[.int .u8 0] N) 5)).cell? ⟨p + 1, 3, none⟩ = some (.slice none 0 0) := (S3.newBlk (madeCells #[.int .u8 0] N) 5).swap.cell 3
    have f3 := (S3.newBlk (madeCells #[.int .u8 0] N) 5).swap.frozen 3
    have S4 : Sat G ((W2.alloc (.cells (madeCells #[.int .u8 0] N) 5)).setCell ⟨p + 1, 3, none⟩ (.slice (some ⟨W2.heap.size, 0, none⟩) N N)) (blk (p + 1) #[.int .i64 0, .int .i64 8, .int .i64 st, .slice (some ⟨W2.heap.size, 0, none⟩) N N] 40 :: blk W2.heap.size (madeCells #[.int .u8 0] N) 5 :: blk p #[.int .i64 0, .int .i64 0, .int .i64 0, .slice none 0 0] 40 :: l) :=
      (S3.newBlk (madeCells #[.int .u8 0] N) 5).swap.setCell 3 (.slice (some ⟨W2.heap.size, 0, none⟩) N N)
    clear S3
    go_upto_region 10 with fail
    refine wp_world S4 fun W3 S5 => ?_
    clear S4 c3 f3 hmk' hmk
    generalize W2.heap.size = q at *
    have c3 : W3.cell? ⟨p + 1, 3, none⟩ = some (.slice (some ⟨q, 0, none⟩) N N) := S5.cell 3
    have d0 : W3.cell? ⟨q, 0, none⟩ = some (.int .u8 0) := by
      rw [S5.swap.cell 0, madeCells_zero N (by omega)]
    have f0 := S5.swap.frozen 0
    have hz8 : IntKind.u8.wrap (z : Int) = z := by unfold IntKind.wrap; simp [IntKind.bits, IntKind.signed]; omega
    have S6 : Sat G (W3.setCell ⟨q, 0, none⟩ (.int .u8 z)) (blk q ((madeCells #[.int .u8 0] N).setIfInBounds 0 (.int .u8 z)) 5 :: blk (p + 1) #[.int .i64 0, .int .i64 8, .int .i64 st, .slice (some ⟨q, 0, none⟩) N N] 40 :: blk p #[.int .i64 0, .int .i64 0, .int .i64 0, .slice none 0 0] 40 :: l) := S5.swap.setCell 0 (.int .u8 z)
    clear S5
    go_upto_region 11 with fail
    refine wp_world S6 fun W4 S7 => ?_
    clear S6 c3 d0 f0
    have c3 : W4.cell? ⟨p + 1, 3, none⟩ = some (.slice (some ⟨q, 0, none⟩) N N) := S7.swap.cell 3
    have hbW := hb.sat S7
    have hr8 := pad_row bs z N (by have := HZ.out; omega) hz2
    have hsz8 : ((madeCells #[Value.int .u8 0] N).setIfInBounds 0 (.int .u8 z)).size = N := by rw [Array.size_setIfInBounds, ← Array.length_toList, toList_madeCells_one, List.length_replicate]
    generalize (madeCells #[Value.int .u8 0] N).setIfInBounds 0 (.int .u8 z) = row at *
    go_upto_region 12 with (refine st_copy rfl (.tmp 58) (.tmp 59) 22 22 rfl 5 Try.underlying22 rfl q 1 (N - 1) (N - 1) rfl _ bs rfl hbW (by omega) _ 5 S7 (by rw [hsz8]; omega) ?_; intro W5 S8; rw [hr8] at S8; clear S7 hbW c3 hr8 hsz8)
    have c0 : W5.cell? ⟨p + 1, 0, none⟩ = some (.int .i64 0) := S8.swap.cell 0
    have c1 : W5.cell? ⟨p + 1, 1, none⟩ = some (.int .i64 8) := S8.swap.cell 1
    have c2 : W5.cell? ⟨p + 1, 2, none⟩ = some (.int .i64 st) := S8.swap.cell 2
    have c3 : W5.cell? ⟨p + 1, 3, none⟩ = some (.slice (some ⟨q, 0, none⟩) N N) := S8.swap.cell 3
    have T8 := S8.pull2
    have d0 : W5.cell? ⟨p, 0, none⟩ = some (.int .i64 0) := T8.cell 0
    have d1 : W5.cell? ⟨p, 1, none⟩ = some (.int .i64 0) := T8.cell 1
    have d2 : W5.cell? ⟨p, 2, none⟩ = some (.int .i64 0) := T8.cell 2
    have d3 : W5.cell? ⟨p, 3, none⟩ = some (.slice none 0 0) := T8.cell 3
    have f0 := T8.frozen 0
    have f1 := T8.frozen 1
    have f2 := T8.frozen 2
    have f3 := T8.frozen 3
    have S9 : Sat G ((((W5.setCell ⟨p, 0, none⟩ (.int .i64 0)).setCell ⟨p, 1, none⟩ (.int .i64 8)).setCell ⟨p, 2, none⟩ (.int .i64 st)).setCell ⟨p, 3, none⟩ (.slice (some ⟨q, 0, none⟩) N N)) (blk p #[.int .i64 0, .int .i64 8, .int .i64 st, .slice (some ⟨q, 0, none⟩) N N] 40 :: blk q ((padB bs z).map byteV).toArray 5 :: blk (p + 1) #[.int .i64 0, .int .i64 8, .int .i64 st, .slice (some ⟨q, 0, none⟩) N N] 40 :: l) :=
      (((T8.setCell 0 (.int .i64 0)).setCell 1 (.int .i64 8)).setCell 2 (.int .i64 st)).setCell 3 (.slice (some ⟨q, 0, none⟩) N N)
    have hN : (padB bs z).length = N := by rw [padB_length]; have := HZ.out; omega
    obtain ⟨G', hG, S10, hu⟩ := slb_of_row S9.drop hN (Nat.le_trans (show N ≤ 1024 by omega) (by decide))
    clear S8 T8 hz5 hz6 hz3 hz0
    go_wp2_with fail
    exact bodyPost_ret (results_cell_t rfl _ _ _ _ _ _ rfl (S9).blk_at Try.underlying40 rfl (by kernel_rfl)) rfl (hK.out _ _ ⟨G', _, hG, rfl, S10.drop, hu⟩)
end Go.Proofs.Ythenpoammpkjeaa
