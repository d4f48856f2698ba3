/- The walk of the law StateCounts. -/
import Derived.Test.YtdmfapmdjhjlhaaDoorCountsP
set_option linter.unusedSimpArgs false
set_option linter.unusedVariables false
namespace Go.Proofs.YtdmfapmdjhjlhaaDoor
open Go.RowKit

set_option maxHeartbeats 16000000 in
set_option maxRecDepth 100000 in
theorem stateCounts_walk (w : World) (v0 : Value) (h0 : ∃ d, ArgV w (.sl 8 (.int .i64)) v0 d) (htw : TabW w) :
    Calls Tryd.prog 4 #[v0] w fun e w' => e = .returned (.bool true) ∧ Below w.heap.size w w' := by
  refine calls_any fun K hK => ?_
  have ht := TabG.of htw
  obtain ⟨_, h0⟩ := h0
  obtain ⟨l, h0⟩ := arg_sl h0
  obtain ⟨es, h0⟩ := ints_of h0
  change RInts (Gnd.of w).ro v0 es at h0
  obtain ⟨A, c, rfl, hlc, hc, hel⟩ := h0
  have HEL := Lib.hid hel
  clear hel htw
  have hnew := rn_new (Sat.start w)
  by_cases hlen : 200 < (es.length : Int)
  · go_enter Tryd.func4, Tryd.ntmps4
    go_wp2_with fail
    (with_reducible refine hnew.mono ?_)
    rintro y w1 ⟨r, rfl, S1⟩
    clear hnew
    have hnew := rn_new S1
    clear S1
    go_wp2_with fail
    (with_reducible refine hnew.mono ?_)
    rintro y w2 ⟨q, rfl, S2⟩
    clear hnew
    go_wp2_with fail
    (with_reducible refine (law_awake (S2.drop.drop) ht).mono ?_); rintro y w9 ⟨rfl, S9⟩; go_wp2_with fail; exact hK.out _ _ ⟨rfl, S9.above Gnd.le.rfl'⟩
  go_enter Tryd.func4, Tryd.ntmps4
  go_wp2_with fail
  (with_reducible refine hnew.mono ?_)
  clear hnew
  rintro y w1 ⟨r, rfl, S1⟩
  have hnew := rn_new S1
  clear S1
  go_wp2_with fail
  (with_reducible refine hnew.mono ?_)
  rintro y w2 ⟨q, rfl, S2⟩
  clear hnew
  go_wp2_with fail
  have S3 := S2.swap
  clear S2
  go_loopw [5, 37] (fun a i wr => ∃ (k n : Nat) (C : List Int), k ≤ es.length ∧ i = .int .i64 k ∧ n < 5 ∧ C.length = 9 ∧ (∀ y ∈ C, 0 ≤ y ∧ y ≤ (k : Int)) ∧ a = .int .i64 (isum C) ∧ Sat (Gnd.of w) wr [runA r n C, runA q n C]) (fun _ i _ => es.length - (intOf i).toNat)
  case atStart => exact ⟨0, 0, [0, 0, 0, 0, 0, 0, 0, 0, 0], Nat.zero_le _, rfl, by decide, rfl, by decide, rfl, S3⟩
  case round =>
    obtain ⟨k, n, C, hk, rfl, hn5, hC, hCr, rfl, S⟩ := hrel
    clear S3
    by_cases hlt : k < es.length
    · obtain ⟨ad, bo, off, rfl, had, d0, -⟩ := HEL.out k hlt
      have c0 := S.cellR d0
      have hAt := rn_at S
      have hdo := rn_do S ht hC (fun y hy => by have := hCr y hy; omega) (es.getD k 0)
      obtain ⟨m, hR⟩ := cnt_any n hn5 (es.getD k 0)
      have hmy := fun {W : World} (h : TabW W) => st_may n (es.getD k 0) h
      generalize es.getD k 0 = e at *
      clear d0 S
      obtain ⟨r1, r2, r3, r4, r5, r6, r7⟩ := hR
      have hdq := fun {W : World} {l : List Asrt} (S : Sat (Gnd.of w) W (runA q n C :: l)) => rn_do S ht hC (fun y hy => by have := hCr y hy; omega) e
      have hlen2 := (bump_len C e (pDo n e).cnt).trans hC
      have HBR := Lib.hid (bump_range (k := (k : Int)) hCr (by omega) e (pDo n e).cnt)
      have hsum := isum_bump hC r7
      have hsb := isum_bound hCr
      rw [hC] at hsb
      obtain ⟨hsb0, hsb1⟩ := hsb
      have hwr : IntKind.i64.wrap (isum C + 1) = isum C + 1 := IntWalk.i64_in _ (by omega)
      rw [r4] at hmy
      clear r4 hCr
      generalize hC2 : bump C e (pDo n e).cnt = C2 at *
      rw [r1] at hdo hdq
      unfold codeGood codeOk at r3
      generalize pDo n e = pp at *
      obtain ⟨pn, pe, pc, pk, pb⟩ := pp
      simp only at hdo hdq r3 r5 r6 r7 hsum hmy hC2 HBR
      clear r1 r7
      have HSM := Lib.hid hsum
      clear hsum
      cases hpe : (pe == 0) with
      | false =>
        rw [hpe, Bool.false_and] at r3
        subst r3
        rw [show bump C e false = C from rfl] at hC2
        subst hC2
        clear hdq
        by_cases h105 : pc = 105
        · obtain rfl := r6 h105
          subst h105
          clear r5 r6
          go_wp2_with fail
          (with_reducible refine hAt.mono ?_)
          clear hAt
          rintro y w3 ⟨rfl, rfl⟩
          go_wp2_with fail
          (with_reducible refine hdo.mono ?_)
          clear hdo
          rintro y w3 ⟨rfl, S4⟩
          have S5 := S4.newBlk #[.int .i64 105, .bool pk] 33
          have e0 := S5.cell 0
          have e1 := S5.cell 1
          clear S4
          have hm2 := hmy (S5.tab ht)
          clear hmy
          have HS5 := Lib.hid S5
          clear S5
          go_wp2_with fail
          (with_reducible refine hm2.mono ?_)
          clear hm2
          rintro y w5 ⟨rfl, rfl⟩
          go_wp2_with fail
          (with_reducible refine (rn_at HS5.out.drop).mono ?_)
          rintro y w8 ⟨rfl, rfl⟩
          go_wp2_with fail
          (with_reducible refine (law_awake (HS5.out.drop.drop.drop) ht).mono ?_); rintro y w9 ⟨rfl, S9⟩; go_wp2_with fail; exact hK.out _ _ ⟨rfl, S9.above Gnd.le.rfl'⟩
        · have h105b : (pc == 105) = false := beq_eq_false_iff_ne.2 h105
          obtain rfl : m = n := by have := r5 rfl; omega
          clear r5 r6
          go_wp2_with fail
          (with_reducible refine hAt.mono ?_)
          clear hAt
          rintro y w3 ⟨rfl, rfl⟩
          go_wp2_with fail
          (with_reducible refine hdo.mono ?_)
          clear hdo
          rintro y w3 ⟨rfl, S4⟩
          have S5 := S4.newBlk #[.int .i64 pc, .bool pk] 33
          have e0 := S5.cell 0
          have e1 := S5.cell 1
          clear S4
          have hm2 := hmy (S5.tab ht)
          clear hmy
          have HS5 := Lib.hid S5
          clear S5
          go_wp2_with fail
          (with_reducible refine hm2.mono ?_)
          clear hm2
          rintro y w5 ⟨rfl, rfl⟩
          go_wp2_with fail
          go_roundw
          case rel => exact ⟨k + 1, _, C, by omega, by go_num, by assumption, by assumption, HBR.out, rfl, HS5.out.drop⟩
          case measure => simp [intOf]; omega
      | true =>
        cases hok : (pc == 0 && !pk) with
        | false =>
          rw [hpe, hok, Bool.true_and] at r3
          subst r3
          rw [show bump C e false = C from rfl] at hC2
          subst hC2
          clear hdq
          by_cases h105 : pc = 105
          · obtain rfl := r6 h105
            subst h105
            clear r5 r6
            go_wp2_with fail
            (with_reducible refine hAt.mono ?_)
            clear hAt
            rintro y w3 ⟨rfl, rfl⟩
            go_wp2_with fail
            (with_reducible refine hdo.mono ?_)
            clear hdo
            rintro y w3 ⟨rfl, S4⟩
            have S5 := S4.newBlk #[.int .i64 105, .bool pk] 33
            have e0 := S5.cell 0
            have e1 := S5.cell 1
            clear S4
            have hfo := fun {W : World} {l : List Asrt} (S : Sat (Gnd.of w) W l) => fa_ok S (105) pk
            rw [hok] at hfo
            have hf1 := hfo S5
            clear S5
            go_wp2_with fail
            (with_reducible refine hf1.mono ?_)
            clear hf1 e0 e1
            rintro y w4 ⟨rfl, S6⟩
            have e0 := S6.cell 0
            have e1 := S6.cell 1
            have hm2 := hmy (S6.tab ht)
            clear hmy
            have hf1 := hfo S6
            clear hfo S6
            go_wp2_with fail
            (with_reducible refine hm2.mono ?_)
            clear hm2
            rintro y w5 ⟨rfl, rfl⟩
            go_wp2_with fail
            (with_reducible refine hf1.mono ?_)
            clear hf1 e0 e1
            rintro y w6 ⟨rfl, S7⟩
            have e0 := S7.cell 0
            have e1 := S7.cell 1
            have HS5 := Lib.hid S7
            clear S7
            go_wp2_with fail
            (with_reducible refine (rn_at HS5.out.drop).mono ?_)
            rintro y w8 ⟨rfl, rfl⟩
            go_wp2_with fail
            (with_reducible refine (law_awake (HS5.out.drop.drop.drop) ht).mono ?_); rintro y w9 ⟨rfl, S9⟩; go_wp2_with fail; exact hK.out _ _ ⟨rfl, S9.above Gnd.le.rfl'⟩
          · have h105b : (pc == 105) = false := beq_eq_false_iff_ne.2 h105
            obtain rfl : m = n := by have := r5 rfl; omega
            clear r5 r6
            go_wp2_with fail
            (with_reducible refine hAt.mono ?_)
            clear hAt
            rintro y w3 ⟨rfl, rfl⟩
            go_wp2_with fail
            (with_reducible refine hdo.mono ?_)
            clear hdo
            rintro y w3 ⟨rfl, S4⟩
            have S5 := S4.newBlk #[.int .i64 pc, .bool pk] 33
            have e0 := S5.cell 0
            have e1 := S5.cell 1
            clear S4
            have hfo := fun {W : World} {l : List Asrt} (S : Sat (Gnd.of w) W l) => fa_ok S (pc) pk
            rw [hok] at hfo
            have hf1 := hfo S5
            clear S5
            go_wp2_with fail
            (with_reducible refine hf1.mono ?_)
            clear hf1 e0 e1
            rintro y w4 ⟨rfl, S6⟩
            have e0 := S6.cell 0
            have e1 := S6.cell 1
            have hm2 := hmy (S6.tab ht)
            clear hmy
            have hf1 := hfo S6
            clear hfo S6
            go_wp2_with fail
            (with_reducible refine hm2.mono ?_)
            clear hm2
            rintro y w5 ⟨rfl, rfl⟩
            go_wp2_with fail
            (with_reducible refine hf1.mono ?_)
            clear hf1 e0 e1
            rintro y w6 ⟨rfl, S7⟩
            have e0 := S7.cell 0
            have e1 := S7.cell 1
            have HS5 := Lib.hid S7
            clear S7
            go_wp2_with fail
            go_roundw
            case rel => exact ⟨k + 1, _, C, by omega, by go_num, by assumption, by assumption, HBR.out, rfl, HS5.out.drop⟩
            case measure => simp [intOf]; omega
        | true =>
          rw [hpe, hok, Bool.true_and] at r3
          subst r3
          have hpc : pc = 0 := by simp at hok; exact hok.1
          have hpk : pk = false := by simp at hok; exact hok.2
          subst hpc
          subst hpk
          clear r5 r6
          go_wp2_with fail
          (with_reducible refine hAt.mono ?_)
          clear hAt
          rintro y w3 ⟨rfl, rfl⟩
          go_wp2_with fail
          (with_reducible refine hdo.mono ?_)
          clear hdo
          rintro y w3 ⟨rfl, S4⟩
          have S5 := S4.newBlk #[.int .i64 0, .bool false] 33
          have e0 := S5.cell 0
          have e1 := S5.cell 1
          clear S4
          have hfo := fun {W : World} {l : List Asrt} (S : Sat (Gnd.of w) W l) => fa_ok S 0 false
          rw [show ((0 : Int) == 0 && !false) = true from rfl] at hfo
          have hf1 := hfo S5
          clear S5
          go_wp2_with fail
          (with_reducible refine hf1.mono ?_)
          clear hf1 e0 e1
          rintro y w4 ⟨rfl, S6⟩
          have hq2 := hdq (S6.re [2, 0, 1])
          clear S6 hdq
          go_wp2_with fail
          (with_reducible refine hq2.mono ?_)
          clear hq2
          rintro y w7 ⟨rfl, S8⟩
          have S6 := S8.re [1, 2, 0]
          clear S8
          have e0 := S6.cell 0
          have e1 := S6.cell 1
          have hm2 := hmy (S6.tab ht)
          clear hmy
          have hf1 := hfo S6
          clear hfo S6
          go_wp2_with fail
          (with_reducible refine hm2.mono ?_)
          clear hm2
          rintro y w5 ⟨rfl, rfl⟩
          go_wp2_with fail
          (with_reducible refine hf1.mono ?_)
          clear hf1 e0 e1
          rintro y w6 ⟨rfl, S7⟩
          have e0 := S7.cell 0
          have e1 := S7.cell 1
          have HS5 := Lib.hid S7
          clear S7
          go_wp2_with fail
          go_roundw
          case rel => exact ⟨k + 1, _, C2, by omega, by go_num, by assumption, by assumption, HBR.out, by rw [HSM.out]; simp, HS5.out.drop⟩
          case measure => simp [intOf]; omega
    · have HS := Lib.hid S
      have hct : ∀ j : Nat, j < 9 → ∀ W l s, Sat (Gnd.of w) W (runA s n C :: l) → Calls Tryd.prog 12 #[.pointer (some ⟨s, 0, none⟩), .int .i64 j] W fun x w' => x = .returned (.int .i64 (C.getD j 0)) ∧ W = w' := fun j hj W l s S => by
        have := rn_count S hC j
        rw [cnt_near hj] at this
        exact this
      have HT := Lib.hid fun (j : Nat) (hj : j < 9) => isum_take (L := C) (k := j) (by omega)
      have HB := Lib.hid fun (j : Nat) => isum_bound (L := C.take j) (m := (k : Int)) fun y hy => hCr y (List.mem_of_mem_take hy)
      have HB1 := Lib.hid hCr
      clear S hCr
      go_wp2_with fail
      go_loop [11, 12] (fun s i => ∃ j : Nat, j ≤ 9 ∧ i = .int .i64 j ∧ s = .int .i64 (isum (C.take j))) (fun _ i => 9 - (intOf i).toNat)
      case atStart => exact ⟨0, by decide, rfl, rfl⟩
      case round =>
        obtain ⟨j, hj, rfl, rfl⟩ := hrel
        by_cases hj9 : j < 9
        · have a1 := hct j hj9 _ _ _ HS.out
          have a2 := hct j hj9 _ _ _ HS.out.swap
          have hts := HT.out j hj9
          have hb := HB.out j
          have hb2 := HB.out (j + 1)
          have hl1 : ((C.take j).length : Int) ≤ 9 := by rw [List.length_take]; omega
          have hl2 : ((C.take (j + 1)).length : Int) ≤ 9 := by rw [List.length_take]; omega
          have hm1 : ((C.take j).length : Int) * (k : Int) ≤ 9 * 1000 := Int.mul_le_mul hl1 (by omega) (by omega) (by omega)
          have hm2 : ((C.take (j + 1)).length : Int) * (k : Int) ≤ 9 * 1000 := Int.mul_le_mul hl2 (by omega) (by omega) (by omega)
          have HTS := Lib.hid hts
          have hs0 : 0 ≤ isum (C.take j) ∧ isum (C.take j) ≤ 9000 := by omega
          have hs1 : 0 ≤ isum (C.take j) + C.getD j 0 ∧ isum (C.take j) + C.getD j 0 ≤ 9000 := by omega
          have hwr : IntKind.i64.wrap (isum (C.take j) + C.getD j 0) = isum (C.take j) + C.getD j 0 := IntWalk.i64_in _ (by omega)
          clear hts hb hb2 hl1 hl2 hm1 hm2
          generalize C.getD j 0 = x at *
          generalize isum (C.take j) = s at *
          go_wp2_with fail
          (with_reducible refine a1.mono ?_)
          rintro y w3 ⟨rfl, rfl⟩
          go_wp2_with fail
          (with_reducible refine a2.mono ?_)
          rintro y w3 ⟨rfl, rfl⟩
          go_wp2_with fail
          (with_reducible refine a1.mono ?_)
          rintro y w3 ⟨rfl, rfl⟩
          go_wp2_with fail
          refine ⟨⟨j + 1, by omega, by go_num, ?_⟩, by simp [intOf]; omega⟩
          rw [HTS.out]
        · obtain rfl : j = 9 := by omega
          rw [List.take_of_length_le (by omega)]
          have b1 := rn_at HS.out
          have b2 := rn_at HS.out.swap
          go_wp2_with fail
          (with_reducible refine b2.mono ?_)
          rintro y w3 ⟨rfl, rfl⟩
          go_wp2_with fail
          (with_reducible refine b1.mono ?_)
          rintro y w3 ⟨rfl, rfl⟩
          go_wp2_with fail
          (with_reducible refine (law_awake (HS.out.drop.drop) ht).mono ?_); rintro y w9 ⟨rfl, S9⟩; go_wp2_with fail; exact hK.out _ _ ⟨rfl, S9.above Gnd.le.rfl'⟩
end Go.Proofs.YtdmfapmdjhjlhaaDoor
