/- The walk of the law StateEnds. -/
import Derived.Test.YtdmfapmdjhjlhaaDoorEndsP
set_option linter.unusedSimpArgs false
set_option linter.unusedVariables false
namespace Go.Proofs.YtdmfapmdjhjlhaaDoor
open Go.RowKit

/-- One event more, whatever it is. -/
structure EndsR (n : Nat) (e : Int) (p : PRes) (C : List Int) (cl us th : Bool) (k : Nat) (m : Nat) : Prop where
  pn : p.n = m
  cnt : p.cnt = codeGood p
  cl4 : cl = true → m = 4
  us1 : us = true → p.cnt = true → 2 < e
  th1 : th = true → p.cnt = true → e < 4 ∨ 6 < e
  pos : p.cnt = true → 0 ≤ e
  next : EndsAt m (bump C e p.cnt) ((m : Int) == 4) (us || (p.cnt && e == 2)) (th || (p.cnt && e == 6)) (k + 1)
theorem ends_any {n : Nat} {C : List Int} {cl us th : Bool} {k : Nat} (h : EndsAt n C cl us th k) (e : Int) : ∃ m, EndsR n e (pDo n e) C cl us th k m := by
  by_cases hf : e < 0 ∨ 8 < e
  · rw [far _ _ hf]
    refine ⟨n, rfl, rfl, fun hc => ?_, (fun _ hb => by cases hb), (fun _ hb => by cases hb), (fun hb => by cases hb), ?_⟩
    · have := h.closed; rw [hc] at this; simpa using this.symm
    · obtain ⟨a1, a2, a3, a4, a5, a6, a7, a8, a9⟩ := h
      refine ⟨a1, a2, fun y hy => by have := a3 y hy; omega, ?_, by simpa using a5, by simpa using a6, by simpa [bump] using a7, by simpa [bump] using a8, by simpa [bump] using a9⟩
      cases hx : ((n : Int) == 4) <;> simp at hx ⊢ <;> omega
  · obtain ⟨e, rfl⟩ : ∃ j : Nat, e = j := ⟨e.toNat, by omega⟩
    obtain ⟨b1, ⟨m, b2⟩, b3, b4, b5, b6⟩ := ends_step h (e := e) (by omega)
    refine ⟨m, b2, b1, fun hc => by have := b3 hc; omega, fun hu hb => by have := b4 hu hb; omega, fun hu hb => by have := b5 hu hb; omega, fun _ => by omega, ?_⟩
    have hn := b6 m b2
    rw [b2] at hn
    have e2 : ((e : Int) == 2) = (e == 2) := by cases hx : (e == 2) <;> simp at hx ⊢ <;> omega
    have e6 : ((e : Int) == 6) = (e == 6) := by cases hx : (e == 6) <;> simp at hx ⊢ <;> omega
    rw [e2, e6]
    obtain ⟨a1, a2, a3, a4, a5, a6, a7, a8, a9⟩ := hn
    exact ⟨a1, a2, a3, by cases hx : ((m : Int) == 4) <;> simp at hx ⊢ <;> omega, a5, a6, a7, a8, a9⟩
set_option maxHeartbeats 16000000 in
set_option maxRecDepth 100000 in
theorem stateEnds_walk (w : World) (v0 : Value) (h0 : ∃ d, ArgV w (.sl 8 (.int .i64)) v0 d) (htw : TabW w) :
    Calls Tryd.prog 6 #[v0] w fun e w' => e = .returned (.bool true) ∧ Below w.heap.size w w' := by
  refine calls_any fun K hK => ?_
  have ht := TabG.of htw
  obtain ⟨_, h0⟩ := h0
  obtain ⟨l, h0⟩ := arg_sl h0
  obtain ⟨es, h0⟩ := ints_of h0
  change RInts (Gnd.of w).ro v0 es at h0
  obtain ⟨A, c, rfl, hlc, hc, hel⟩ := h0
  have HEL := Lib.hid hel
  clear hel htw
  have hnew := rn_new (Sat.start w)
  by_cases hlen : 200 < (es.length : Int)
  · go_enter Tryd.func6, Tryd.ntmps6
    go_wp2_with fail
    (with_reducible refine hnew.mono ?_)
    rintro y w1 ⟨r, rfl, S1⟩
    clear hnew
    go_wp2_with fail
    (with_reducible refine (law_awake (S1.drop) ht).mono ?_); rintro y w9 ⟨rfl, S9⟩; go_wp2_with fail; exact hK.out _ _ ⟨rfl, S9.above Gnd.le.rfl'⟩
  go_enter Tryd.func6, Tryd.ntmps6
  go_wp2_with fail
  (with_reducible refine hnew.mono ?_)
  clear hnew
  rintro y w1 ⟨r, rfl, S1⟩
  go_wp2_with fail
  go_loopw [4, 5, 6, 27] (fun a b d i wr => ∃ (k n : Nat) (C : List Int) (cl us th : Bool), k ≤ es.length ∧ i = .int .i64 k ∧ a = .bool cl ∧ b = .bool us ∧ d = .bool th ∧ EndsAt n C cl us th k ∧ Sat (Gnd.of w) wr [runA r n C]) (fun _ _ _ i _ => es.length - (intOf i).toNat)
  case atStart => exact ⟨0, 0, [0, 0, 0, 0, 0, 0, 0, 0, 0], false, false, false, Nat.zero_le _, rfl, rfl, rfl, rfl, ⟨by decide, rfl, by decide, rfl, (fun h => by cases h), (fun h => by cases h), by decide, by decide, by decide⟩, S1⟩
  case round =>
    obtain ⟨k, n, C, cl, us, th, hk, rfl, rfl, rfl, rfl, hA, S⟩ := hrel
    clear S1
    by_cases hlt : k < es.length
    · obtain ⟨ad, bo, off, rfl, had, d0, -⟩ := HEL.out k hlt
      have c0 := S.cellR d0
      have hdo := rn_do S ht hA.len (fun y hy => by have := hA.rng y hy; omega) (es.getD k 0)
      obtain ⟨m, hR⟩ := ends_any hA (es.getD k 0)
      generalize es.getD k 0 = e at *
      clear d0 hA S
      generalize hC2 : bump C e (pDo n e).cnt = C2 at *
      obtain ⟨r1, r2, r3, r4, r5, r6, r7⟩ := hR
      rw [hC2] at r7
      rw [r1] at hdo
      clear hC2 r1
      unfold codeGood codeOk at r2
      generalize pDo n e = pp at *
      obtain ⟨pn, pe, pc, pk, pb⟩ := pp
      simp only at hdo r2 r4 r5 r6 r7
      have hlen2 := r7.len
      have R7 := Lib.hid r7
      clear r7
      cases hpe : (pe == 0) with
      | false =>
        rw [hpe, Bool.false_and] at r2
        subst r2
        cases cl with
        | true =>
          obtain rfl := r3 rfl
          cases us with
          | true =>
            cases th with
            | true =>
              clear r3 r4 r5 r6
              go_wp2_with fail
              (with_reducible refine hdo.mono ?_)
              clear hdo
              rintro y w3 ⟨rfl, S4⟩
              have S5 := S4.newBlk #[.int .i64 pc, .bool pk] 33
              have e0 := S5.cell 0
              have e1 := S5.cell 1
              clear S4
              have SF := S5.drop
              have HSF := Lib.hid SF
              clear S5
              go_wp2_with fail
              (with_reducible refine (rn_at SF).mono ?_)
              rintro y w5 ⟨rfl, rfl⟩
              go_wp2_with fail
              (with_reducible refine (rn_at SF).mono ?_)
              rintro y w5 ⟨rfl, rfl⟩
              go_wp2_with fail
              (with_reducible refine (st_done _ _).mono ?_)
              rintro y w5 ⟨rfl, rfl⟩
              go_wp2_with fail
              go_roundw
              case rel => exact ⟨k + 1, _, C2, _, _, _, by omega, by go_num, rfl, rfl, rfl, by simpa using R7.out, HSF.out⟩
              case measure => simp [intOf]; omega
            | false =>
              clear r3 r4 r5 r6
              go_wp2_with fail
              (with_reducible refine hdo.mono ?_)
              clear hdo
              rintro y w3 ⟨rfl, S4⟩
              have S5 := S4.newBlk #[.int .i64 pc, .bool pk] 33
              have e0 := S5.cell 0
              have e1 := S5.cell 1
              clear S4
              have SF := S5.drop
              have HSF := Lib.hid SF
              clear S5
              go_wp2_with fail
              (with_reducible refine (rn_at SF).mono ?_)
              rintro y w5 ⟨rfl, rfl⟩
              go_wp2_with fail
              (with_reducible refine (rn_at SF).mono ?_)
              rintro y w5 ⟨rfl, rfl⟩
              go_wp2_with fail
              (with_reducible refine (st_done _ _).mono ?_)
              rintro y w5 ⟨rfl, rfl⟩
              go_wp2_with fail
              go_roundw
              case rel => exact ⟨k + 1, _, C2, _, _, _, by omega, by go_num, rfl, rfl, rfl, by simpa using R7.out, HSF.out⟩
              case measure => simp [intOf]; omega
          | false =>
            cases th with
            | true =>
              clear r3 r4 r5 r6
              go_wp2_with fail
              (with_reducible refine hdo.mono ?_)
              clear hdo
              rintro y w3 ⟨rfl, S4⟩
              have S5 := S4.newBlk #[.int .i64 pc, .bool pk] 33
              have e0 := S5.cell 0
              have e1 := S5.cell 1
              clear S4
              have SF := S5.drop
              have HSF := Lib.hid SF
              clear S5
              go_wp2_with fail
              (with_reducible refine (rn_at SF).mono ?_)
              rintro y w5 ⟨rfl, rfl⟩
              go_wp2_with fail
              (with_reducible refine (rn_at SF).mono ?_)
              rintro y w5 ⟨rfl, rfl⟩
              go_wp2_with fail
              (with_reducible refine (st_done _ _).mono ?_)
              rintro y w5 ⟨rfl, rfl⟩
              go_wp2_with fail
              go_roundw
              case rel => exact ⟨k + 1, _, C2, _, _, _, by omega, by go_num, rfl, rfl, rfl, by simpa using R7.out, HSF.out⟩
              case measure => simp [intOf]; omega
            | false =>
              clear r3 r4 r5 r6
              go_wp2_with fail
              (with_reducible refine hdo.mono ?_)
              clear hdo
              rintro y w3 ⟨rfl, S4⟩
              have S5 := S4.newBlk #[.int .i64 pc, .bool pk] 33
              have e0 := S5.cell 0
              have e1 := S5.cell 1
              clear S4
              have SF := S5.drop
              have HSF := Lib.hid SF
              clear S5
              go_wp2_with fail
              (with_reducible refine (rn_at SF).mono ?_)
              rintro y w5 ⟨rfl, rfl⟩
              go_wp2_with fail
              (with_reducible refine (rn_at SF).mono ?_)
              rintro y w5 ⟨rfl, rfl⟩
              go_wp2_with fail
              (with_reducible refine (st_done _ _).mono ?_)
              rintro y w5 ⟨rfl, rfl⟩
              go_wp2_with fail
              go_roundw
              case rel => exact ⟨k + 1, _, C2, _, _, _, by omega, by go_num, rfl, rfl, rfl, by simpa using R7.out, HSF.out⟩
              case measure => simp [intOf]; omega
        | false =>
          cases us with
          | true =>
            cases th with
            | true =>
              clear r3 r4 r5 r6
              go_wp2_with fail
              (with_reducible refine hdo.mono ?_)
              clear hdo
              rintro y w3 ⟨rfl, S4⟩
              have S5 := S4.newBlk #[.int .i64 pc, .bool pk] 33
              have e0 := S5.cell 0
              have e1 := S5.cell 1
              clear S4
              have SF := S5.drop
              have HSF := Lib.hid SF
              clear S5
              go_wp2_with fail
              (with_reducible refine (rn_at SF).mono ?_)
              rintro y w5 ⟨rfl, rfl⟩
              go_wp2_with fail
              (with_reducible refine (st_done _ _).mono ?_)
              rintro y w5 ⟨rfl, rfl⟩
              go_wp2_with fail
              go_roundw
              case rel => exact ⟨k + 1, _, C2, _, _, _, by omega, by go_num, rfl, rfl, rfl, by simpa using R7.out, HSF.out⟩
              case measure => simp [intOf]; omega
            | false =>
              clear r3 r4 r5 r6
              go_wp2_with fail
              (with_reducible refine hdo.mono ?_)
              clear hdo
              rintro y w3 ⟨rfl, S4⟩
              have S5 := S4.newBlk #[.int .i64 pc, .bool pk] 33
              have e0 := S5.cell 0
              have e1 := S5.cell 1
              clear S4
              have SF := S5.drop
              have HSF := Lib.hid SF
              clear S5
              go_wp2_with fail
              (with_reducible refine (rn_at SF).mono ?_)
              rintro y w5 ⟨rfl, rfl⟩
              go_wp2_with fail
              (with_reducible refine (st_done _ _).mono ?_)
              rintro y w5 ⟨rfl, rfl⟩
              go_wp2_with fail
              go_roundw
              case rel => exact ⟨k + 1, _, C2, _, _, _, by omega, by go_num, rfl, rfl, rfl, by simpa using R7.out, HSF.out⟩
              case measure => simp [intOf]; omega
          | false =>
            cases th with
            | true =>
              clear r3 r4 r5 r6
              go_wp2_with fail
              (with_reducible refine hdo.mono ?_)
              clear hdo
              rintro y w3 ⟨rfl, S4⟩
              have S5 := S4.newBlk #[.int .i64 pc, .bool pk] 33
              have e0 := S5.cell 0
              have e1 := S5.cell 1
              clear S4
              have SF := S5.drop
              have HSF := Lib.hid SF
              clear S5
              go_wp2_with fail
              (with_reducible refine (rn_at SF).mono ?_)
              rintro y w5 ⟨rfl, rfl⟩
              go_wp2_with fail
              (with_reducible refine (st_done _ _).mono ?_)
              rintro y w5 ⟨rfl, rfl⟩
              go_wp2_with fail
              go_roundw
              case rel => exact ⟨k + 1, _, C2, _, _, _, by omega, by go_num, rfl, rfl, rfl, by simpa using R7.out, HSF.out⟩
              case measure => simp [intOf]; omega
            | false =>
              clear r3 r4 r5 r6
              go_wp2_with fail
              (with_reducible refine hdo.mono ?_)
              clear hdo
              rintro y w3 ⟨rfl, S4⟩
              have S5 := S4.newBlk #[.int .i64 pc, .bool pk] 33
              have e0 := S5.cell 0
              have e1 := S5.cell 1
              clear S4
              have SF := S5.drop
              have HSF := Lib.hid SF
              clear S5
              go_wp2_with fail
              (with_reducible refine (rn_at SF).mono ?_)
              rintro y w5 ⟨rfl, rfl⟩
              go_wp2_with fail
              (with_reducible refine (st_done _ _).mono ?_)
              rintro y w5 ⟨rfl, rfl⟩
              go_wp2_with fail
              go_roundw
              case rel => exact ⟨k + 1, _, C2, _, _, _, by omega, by go_num, rfl, rfl, rfl, by simpa using R7.out, HSF.out⟩
              case measure => simp [intOf]; omega
      | true =>
        cases hok : (pc == 0 && !pk) with
        | false =>
          rw [hpe, hok, Bool.true_and] at r2
          subst r2
          cases cl with
          | true =>
            obtain rfl := r3 rfl
            cases us with
            | true =>
              cases th with
              | true =>
                clear r3 r4 r5 r6
                go_wp2_with fail
                (with_reducible refine hdo.mono ?_)
                clear hdo
                rintro y w3 ⟨rfl, S4⟩
                have S5 := S4.newBlk #[.int .i64 pc, .bool pk] 33
                have e0 := S5.cell 0
                have e1 := S5.cell 1
                clear S4
                have hfo := fa_ok S5 pc pk
                rw [hok] at hfo
                clear S5
                go_wp2_with fail
                (with_reducible refine hfo.mono ?_)
                clear hfo e0 e1
                rintro y w4 ⟨rfl, S6⟩
                have SF := S6.drop
                have HSF := Lib.hid SF
                clear S6
                go_wp2_with fail
                (with_reducible refine (rn_at SF).mono ?_)
                rintro y w5 ⟨rfl, rfl⟩
                go_wp2_with fail
                (with_reducible refine (rn_at SF).mono ?_)
                rintro y w5 ⟨rfl, rfl⟩
                go_wp2_with fail
                (with_reducible refine (st_done _ _).mono ?_)
                rintro y w5 ⟨rfl, rfl⟩
                go_wp2_with fail
                go_roundw
                case rel => exact ⟨k + 1, _, C2, _, _, _, by omega, by go_num, rfl, rfl, rfl, by simpa using R7.out, HSF.out⟩
                case measure => simp [intOf]; omega
              | false =>
                clear r3 r4 r5 r6
                go_wp2_with fail
                (with_reducible refine hdo.mono ?_)
                clear hdo
                rintro y w3 ⟨rfl, S4⟩
                have S5 := S4.newBlk #[.int .i64 pc, .bool pk] 33
                have e0 := S5.cell 0
                have e1 := S5.cell 1
                clear S4
                have hfo := fa_ok S5 pc pk
                rw [hok] at hfo
                clear S5
                go_wp2_with fail
                (with_reducible refine hfo.mono ?_)
                clear hfo e0 e1
                rintro y w4 ⟨rfl, S6⟩
                have SF := S6.drop
                have HSF := Lib.hid SF
                clear S6
                go_wp2_with fail
                (with_reducible refine (rn_at SF).mono ?_)
                rintro y w5 ⟨rfl, rfl⟩
                go_wp2_with fail
                (with_reducible refine (rn_at SF).mono ?_)
                rintro y w5 ⟨rfl, rfl⟩
                go_wp2_with fail
                (with_reducible refine (st_done _ _).mono ?_)
                rintro y w5 ⟨rfl, rfl⟩
                go_wp2_with fail
                go_roundw
                case rel => exact ⟨k + 1, _, C2, _, _, _, by omega, by go_num, rfl, rfl, rfl, by simpa using R7.out, HSF.out⟩
                case measure => simp [intOf]; omega
            | false =>
              cases th with
              | true =>
                clear r3 r4 r5 r6
                go_wp2_with fail
                (with_reducible refine hdo.mono ?_)
                clear hdo
                rintro y w3 ⟨rfl, S4⟩
                have S5 := S4.newBlk #[.int .i64 pc, .bool pk] 33
                have e0 := S5.cell 0
                have e1 := S5.cell 1
                clear S4
                have hfo := fa_ok S5 pc pk
                rw [hok] at hfo
                clear S5
                go_wp2_with fail
                (with_reducible refine hfo.mono ?_)
                clear hfo e0 e1
                rintro y w4 ⟨rfl, S6⟩
                have SF := S6.drop
                have HSF := Lib.hid SF
                clear S6
                go_wp2_with fail
                (with_reducible refine (rn_at SF).mono ?_)
                rintro y w5 ⟨rfl, rfl⟩
                go_wp2_with fail
                (with_reducible refine (rn_at SF).mono ?_)
                rintro y w5 ⟨rfl, rfl⟩
                go_wp2_with fail
                (with_reducible refine (st_done _ _).mono ?_)
                rintro y w5 ⟨rfl, rfl⟩
                go_wp2_with fail
                go_roundw
                case rel => exact ⟨k + 1, _, C2, _, _, _, by omega, by go_num, rfl, rfl, rfl, by simpa using R7.out, HSF.out⟩
                case measure => simp [intOf]; omega
              | false =>
                clear r3 r4 r5 r6
                go_wp2_with fail
                (with_reducible refine hdo.mono ?_)
                clear hdo
                rintro y w3 ⟨rfl, S4⟩
                have S5 := S4.newBlk #[.int .i64 pc, .bool pk] 33
                have e0 := S5.cell 0
                have e1 := S5.cell 1
                clear S4
                have hfo := fa_ok S5 pc pk
                rw [hok] at hfo
                clear S5
                go_wp2_with fail
                (with_reducible refine hfo.mono ?_)
                clear hfo e0 e1
                rintro y w4 ⟨rfl, S6⟩
                have SF := S6.drop
                have HSF := Lib.hid SF
                clear S6
                go_wp2_with fail
                (with_reducible refine (rn_at SF).mono ?_)
                rintro y w5 ⟨rfl, rfl⟩
                go_wp2_with fail
                (with_reducible refine (rn_at SF).mono ?_)
                rintro y w5 ⟨rfl, rfl⟩
                go_wp2_with fail
                (with_reducible refine (st_done _ _).mono ?_)
                rintro y w5 ⟨rfl, rfl⟩
                go_wp2_with fail
                go_roundw
                case rel => exact ⟨k + 1, _, C2, _, _, _, by omega, by go_num, rfl, rfl, rfl, by simpa using R7.out, HSF.out⟩
                case measure => simp [intOf]; omega
          | false =>
            cases us with
            | true =>
              cases th with
              | true =>
                clear r3 r4 r5 r6
                go_wp2_with fail
                (with_reducible refine hdo.mono ?_)
                clear hdo
                rintro y w3 ⟨rfl, S4⟩
                have S5 := S4.newBlk #[.int .i64 pc, .bool pk] 33
                have e0 := S5.cell 0
                have e1 := S5.cell 1
                clear S4
                have hfo := fa_ok S5 pc pk
                rw [hok] at hfo
                clear S5
                go_wp2_with fail
                (with_reducible refine hfo.mono ?_)
                clear hfo e0 e1
                rintro y w4 ⟨rfl, S6⟩
                have SF := S6.drop
                have HSF := Lib.hid SF
                clear S6
                go_wp2_with fail
                (with_reducible refine (rn_at SF).mono ?_)
                rintro y w5 ⟨rfl, rfl⟩
                go_wp2_with fail
                (with_reducible refine (st_done _ _).mono ?_)
                rintro y w5 ⟨rfl, rfl⟩
                go_wp2_with fail
                go_roundw
                case rel => exact ⟨k + 1, _, C2, _, _, _, by omega, by go_num, rfl, rfl, rfl, by simpa using R7.out, HSF.out⟩
                case measure => simp [intOf]; omega
              | false =>
                clear r3 r4 r5 r6
                go_wp2_with fail
                (with_reducible refine hdo.mono ?_)
                clear hdo
                rintro y w3 ⟨rfl, S4⟩
                have S5 := S4.newBlk #[.int .i64 pc, .bool pk] 33
                have e0 := S5.cell 0
                have e1 := S5.cell 1
                clear S4
                have hfo := fa_ok S5 pc pk
                rw [hok] at hfo
                clear S5
                go_wp2_with fail
                (with_reducible refine hfo.mono ?_)
                clear hfo e0 e1
                rintro y w4 ⟨rfl, S6⟩
                have SF := S6.drop
                have HSF := Lib.hid SF
                clear S6
                go_wp2_with fail
                (with_reducible refine (rn_at SF).mono ?_)
                rintro y w5 ⟨rfl, rfl⟩
                go_wp2_with fail
                (with_reducible refine (st_done _ _).mono ?_)
                rintro y w5 ⟨rfl, rfl⟩
                go_wp2_with fail
                go_roundw
                case rel => exact ⟨k + 1, _, C2, _, _, _, by omega, by go_num, rfl, rfl, rfl, by simpa using R7.out, HSF.out⟩
                case measure => simp [intOf]; omega
            | false =>
              cases th with
              | true =>
                clear r3 r4 r5 r6
                go_wp2_with fail
                (with_reducible refine hdo.mono ?_)
                clear hdo
                rintro y w3 ⟨rfl, S4⟩
                have S5 := S4.newBlk #[.int .i64 pc, .bool pk] 33
                have e0 := S5.cell 0
                have e1 := S5.cell 1
                clear S4
                have hfo := fa_ok S5 pc pk
                rw [hok] at hfo
                clear S5
                go_wp2_with fail
                (with_reducible refine hfo.mono ?_)
                clear hfo e0 e1
                rintro y w4 ⟨rfl, S6⟩
                have SF := S6.drop
                have HSF := Lib.hid SF
                clear S6
                go_wp2_with fail
                (with_reducible refine (rn_at SF).mono ?_)
                rintro y w5 ⟨rfl, rfl⟩
                go_wp2_with fail
                (with_reducible refine (st_done _ _).mono ?_)
                rintro y w5 ⟨rfl, rfl⟩
                go_wp2_with fail
                go_roundw
                case rel => exact ⟨k + 1, _, C2, _, _, _, by omega, by go_num, rfl, rfl, rfl, by simpa using R7.out, HSF.out⟩
                case measure => simp [intOf]; omega
              | false =>
                clear r3 r4 r5 r6
                go_wp2_with fail
                (with_reducible refine hdo.mono ?_)
                clear hdo
                rintro y w3 ⟨rfl, S4⟩
                have S5 := S4.newBlk #[.int .i64 pc, .bool pk] 33
                have e0 := S5.cell 0
                have e1 := S5.cell 1
                clear S4
                have hfo := fa_ok S5 pc pk
                rw [hok] at hfo
                clear S5
                go_wp2_with fail
                (with_reducible refine hfo.mono ?_)
                clear hfo e0 e1
                rintro y w4 ⟨rfl, S6⟩
                have SF := S6.drop
                have HSF := Lib.hid SF
                clear S6
                go_wp2_with fail
                (with_reducible refine (rn_at SF).mono ?_)
                rintro y w5 ⟨rfl, rfl⟩
                go_wp2_with fail
                (with_reducible refine (st_done _ _).mono ?_)
                rintro y w5 ⟨rfl, rfl⟩
                go_wp2_with fail
                go_roundw
                case rel => exact ⟨k + 1, _, C2, _, _, _, by omega, by go_num, rfl, rfl, rfl, by simpa using R7.out, HSF.out⟩
                case measure => simp [intOf]; omega
        | true =>
          rw [hpe, hok, Bool.true_and] at r2
          subst r2
          cases cl with
          | true =>
            obtain rfl := r3 rfl
            cases us with
            | true =>
              cases th with
              | true =>
                have p0 := r6 rfl
                have p1 := r4 rfl rfl
                have p2 := r5 rfl rfl
                rcases p2 with p2 | p2
                · skip
                  clear r3 r4 r5 r6
                  go_wp2_with fail
                  (with_reducible refine hdo.mono ?_)
                  clear hdo
                  rintro y w3 ⟨rfl, S4⟩
                  have S5 := S4.newBlk #[.int .i64 pc, .bool pk] 33
                  have e0 := S5.cell 0
                  have e1 := S5.cell 1
                  clear S4
                  have hfo := fa_ok S5 pc pk
                  rw [hok] at hfo
                  clear S5
                  go_wp2_with fail
                  (with_reducible refine hfo.mono ?_)
                  clear hfo e0 e1
                  rintro y w4 ⟨rfl, S6⟩
                  have SF := S6.drop
                  have HSF := Lib.hid SF
                  clear S6
                  go_wp2_with fail
                  (with_reducible refine (rn_at SF).mono ?_)
                  rintro y w5 ⟨rfl, rfl⟩
                  go_wp2_with fail
                  (with_reducible refine (rn_at SF).mono ?_)
                  rintro y w5 ⟨rfl, rfl⟩
                  go_wp2_with fail
                  (with_reducible refine (st_done _ _).mono ?_)
                  rintro y w5 ⟨rfl, rfl⟩
                  go_wp2_with fail
                  go_roundw
                  case rel => exact ⟨k + 1, _, C2, _, _, _, by omega, by go_num, rfl, rfl, rfl, by simpa using R7.out, HSF.out⟩
                  case measure => simp [intOf]; omega
                · skip
                  clear r3 r4 r5 r6
                  go_wp2_with fail
                  (with_reducible refine hdo.mono ?_)
                  clear hdo
                  rintro y w3 ⟨rfl, S4⟩
                  have S5 := S4.newBlk #[.int .i64 pc, .bool pk] 33
                  have e0 := S5.cell 0
                  have e1 := S5.cell 1
                  clear S4
                  have hfo := fa_ok S5 pc pk
                  rw [hok] at hfo
                  clear S5
                  go_wp2_with fail
                  (with_reducible refine hfo.mono ?_)
                  clear hfo e0 e1
                  rintro y w4 ⟨rfl, S6⟩
                  have SF := S6.drop
                  have HSF := Lib.hid SF
                  clear S6
                  go_wp2_with fail
                  (with_reducible refine (rn_at SF).mono ?_)
                  rintro y w5 ⟨rfl, rfl⟩
                  go_wp2_with fail
                  (with_reducible refine (rn_at SF).mono ?_)
                  rintro y w5 ⟨rfl, rfl⟩
                  go_wp2_with fail
                  (with_reducible refine (st_done _ _).mono ?_)
                  rintro y w5 ⟨rfl, rfl⟩
                  go_wp2_with fail
                  go_roundw
                  case rel => exact ⟨k + 1, _, C2, _, _, _, by omega, by go_num, rfl, rfl, rfl, by simpa using R7.out, HSF.out⟩
                  case measure => simp [intOf]; omega
              | false =>
                have p0 := r6 rfl
                have p1 := r4 rfl rfl
                clear r3 r4 r5 r6
                go_wp2_with fail
                (with_reducible refine hdo.mono ?_)
                clear hdo
                rintro y w3 ⟨rfl, S4⟩
                have S5 := S4.newBlk #[.int .i64 pc, .bool pk] 33
                have e0 := S5.cell 0
                have e1 := S5.cell 1
                clear S4
                have hfo := fa_ok S5 pc pk
                rw [hok] at hfo
                clear S5
                go_wp2_with fail
                (with_reducible refine hfo.mono ?_)
                clear hfo e0 e1
                rintro y w4 ⟨rfl, S6⟩
                have SF := S6.drop
                have HSF := Lib.hid SF
                clear S6
                go_wp2_with fail
                (with_reducible refine (rn_at SF).mono ?_)
                rintro y w5 ⟨rfl, rfl⟩
                go_wp2_with fail
                (with_reducible refine (rn_at SF).mono ?_)
                rintro y w5 ⟨rfl, rfl⟩
                go_wp2_with fail
                (with_reducible refine (st_done _ _).mono ?_)
                rintro y w5 ⟨rfl, rfl⟩
                go_wp2_with fail
                go_roundw
                case rel => exact ⟨k + 1, _, C2, _, _, _, by omega, by go_num, rfl, rfl, rfl, by simpa using R7.out, HSF.out⟩
                case measure => simp [intOf]; omega
            | false =>
              cases th with
              | true =>
                have p0 := r6 rfl
                have p2 := r5 rfl rfl
                rcases p2 with p2 | p2
                · skip
                  clear r3 r4 r5 r6
                  go_wp2_with fail
                  (with_reducible refine hdo.mono ?_)
                  clear hdo
                  rintro y w3 ⟨rfl, S4⟩
                  have S5 := S4.newBlk #[.int .i64 pc, .bool pk] 33
                  have e0 := S5.cell 0
                  have e1 := S5.cell 1
                  clear S4
                  have hfo := fa_ok S5 pc pk
                  rw [hok] at hfo
                  clear S5
                  go_wp2_with fail
                  (with_reducible refine hfo.mono ?_)
                  clear hfo e0 e1
                  rintro y w4 ⟨rfl, S6⟩
                  have SF := S6.drop
                  have HSF := Lib.hid SF
                  clear S6
                  go_wp2_with fail
                  (with_reducible refine (rn_at SF).mono ?_)
                  rintro y w5 ⟨rfl, rfl⟩
                  go_wp2_with fail
                  (with_reducible refine (rn_at SF).mono ?_)
                  rintro y w5 ⟨rfl, rfl⟩
                  go_wp2_with fail
                  (with_reducible refine (st_done _ _).mono ?_)
                  rintro y w5 ⟨rfl, rfl⟩
                  go_wp2_with fail
                  go_roundw
                  case rel => exact ⟨k + 1, _, C2, _, _, _, by omega, by go_num, rfl, rfl, rfl, by simpa using R7.out, HSF.out⟩
                  case measure => simp [intOf]; omega
                · skip
                  clear r3 r4 r5 r6
                  go_wp2_with fail
                  (with_reducible refine hdo.mono ?_)
                  clear hdo
                  rintro y w3 ⟨rfl, S4⟩
                  have S5 := S4.newBlk #[.int .i64 pc, .bool pk] 33
                  have e0 := S5.cell 0
                  have e1 := S5.cell 1
                  clear S4
                  have hfo := fa_ok S5 pc pk
                  rw [hok] at hfo
                  clear S5
                  go_wp2_with fail
                  (with_reducible refine hfo.mono ?_)
                  clear hfo e0 e1
                  rintro y w4 ⟨rfl, S6⟩
                  have SF := S6.drop
                  have HSF := Lib.hid SF
                  clear S6
                  go_wp2_with fail
                  (with_reducible refine (rn_at SF).mono ?_)
                  rintro y w5 ⟨rfl, rfl⟩
                  go_wp2_with fail
                  (with_reducible refine (rn_at SF).mono ?_)
                  rintro y w5 ⟨rfl, rfl⟩
                  go_wp2_with fail
                  (with_reducible refine (st_done _ _).mono ?_)
                  rintro y w5 ⟨rfl, rfl⟩
                  go_wp2_with fail
                  go_roundw
                  case rel => exact ⟨k + 1, _, C2, _, _, _, by omega, by go_num, rfl, rfl, rfl, by simpa using R7.out, HSF.out⟩
                  case measure => simp [intOf]; omega
              | false =>
                have p0 := r6 rfl
                clear r3 r4 r5 r6
                go_wp2_with fail
                (with_reducible refine hdo.mono ?_)
                clear hdo
                rintro y w3 ⟨rfl, S4⟩
                have S5 := S4.newBlk #[.int .i64 pc, .bool pk] 33
                have e0 := S5.cell 0
                have e1 := S5.cell 1
                clear S4
                have hfo := fa_ok S5 pc pk
                rw [hok] at hfo
                clear S5
                go_wp2_with fail
                (with_reducible refine hfo.mono ?_)
                clear hfo e0 e1
                rintro y w4 ⟨rfl, S6⟩
                have SF := S6.drop
                have HSF := Lib.hid SF
                clear S6
                go_wp2_with fail
                (with_reducible refine (rn_at SF).mono ?_)
                rintro y w5 ⟨rfl, rfl⟩
                go_wp2_with fail
                (with_reducible refine (rn_at SF).mono ?_)
                rintro y w5 ⟨rfl, rfl⟩
                go_wp2_with fail
                (with_reducible refine (st_done _ _).mono ?_)
                rintro y w5 ⟨rfl, rfl⟩
                go_wp2_with fail
                go_roundw
                case rel => exact ⟨k + 1, _, C2, _, _, _, by omega, by go_num, rfl, rfl, rfl, by simpa using R7.out, HSF.out⟩
                case measure => simp [intOf]; omega
          | false =>
            cases us with
            | true =>
              cases th with
              | true =>
                have p0 := r6 rfl
                have p1 := r4 rfl rfl
                have p2 := r5 rfl rfl
                rcases p2 with p2 | p2
                · skip
                  clear r3 r4 r5 r6
                  go_wp2_with fail
                  (with_reducible refine hdo.mono ?_)
                  clear hdo
                  rintro y w3 ⟨rfl, S4⟩
                  have S5 := S4.newBlk #[.int .i64 pc, .bool pk] 33
                  have e0 := S5.cell 0
                  have e1 := S5.cell 1
                  clear S4
                  have hfo := fa_ok S5 pc pk
                  rw [hok] at hfo
                  clear S5
                  go_wp2_with fail
                  (with_reducible refine hfo.mono ?_)
                  clear hfo e0 e1
                  rintro y w4 ⟨rfl, S6⟩
                  have SF := S6.drop
                  have HSF := Lib.hid SF
                  clear S6
                  go_wp2_with fail
                  (with_reducible refine (rn_at SF).mono ?_)
                  rintro y w5 ⟨rfl, rfl⟩
                  go_wp2_with fail
                  (with_reducible refine (st_done _ _).mono ?_)
                  rintro y w5 ⟨rfl, rfl⟩
                  go_wp2_with fail
                  go_roundw
                  case rel => exact ⟨k + 1, _, C2, _, _, _, by omega, by go_num, rfl, rfl, rfl, by simpa using R7.out, HSF.out⟩
                  case measure => simp [intOf]; omega
                · skip
                  clear r3 r4 r5 r6
                  go_wp2_with fail
                  (with_reducible refine hdo.mono ?_)
                  clear hdo
                  rintro y w3 ⟨rfl, S4⟩
                  have S5 := S4.newBlk #[.int .i64 pc, .bool pk] 33
                  have e0 := S5.cell 0
                  have e1 := S5.cell 1
                  clear S4
                  have hfo := fa_ok S5 pc pk
                  rw [hok] at hfo
                  clear S5
                  go_wp2_with fail
                  (with_reducible refine hfo.mono ?_)
                  clear hfo e0 e1
                  rintro y w4 ⟨rfl, S6⟩
                  have SF := S6.drop
                  have HSF := Lib.hid SF
                  clear S6
                  go_wp2_with fail
                  (with_reducible refine (rn_at SF).mono ?_)
                  rintro y w5 ⟨rfl, rfl⟩
                  go_wp2_with fail
                  (with_reducible refine (st_done _ _).mono ?_)
                  rintro y w5 ⟨rfl, rfl⟩
                  go_wp2_with fail
                  go_roundw
                  case rel => exact ⟨k + 1, _, C2, _, _, _, by omega, by go_num, rfl, rfl, rfl, by simpa using R7.out, HSF.out⟩
                  case measure => simp [intOf]; omega
              | false =>
                have p0 := r6 rfl
                have p1 := r4 rfl rfl
                clear r3 r4 r5 r6
                go_wp2_with fail
                (with_reducible refine hdo.mono ?_)
                clear hdo
                rintro y w3 ⟨rfl, S4⟩
                have S5 := S4.newBlk #[.int .i64 pc, .bool pk] 33
                have e0 := S5.cell 0
                have e1 := S5.cell 1
                clear S4
                have hfo := fa_ok S5 pc pk
                rw [hok] at hfo
                clear S5
                go_wp2_with fail
                (with_reducible refine hfo.mono ?_)
                clear hfo e0 e1
                rintro y w4 ⟨rfl, S6⟩
                have SF := S6.drop
                have HSF := Lib.hid SF
                clear S6
                go_wp2_with fail
                (with_reducible refine (rn_at SF).mono ?_)
                rintro y w5 ⟨rfl, rfl⟩
                go_wp2_with fail
                (with_reducible refine (st_done _ _).mono ?_)
                rintro y w5 ⟨rfl, rfl⟩
                go_wp2_with fail
                go_roundw
                case rel => exact ⟨k + 1, _, C2, _, _, _, by omega, by go_num, rfl, rfl, rfl, by simpa using R7.out, HSF.out⟩
                case measure => simp [intOf]; omega
            | false =>
              cases th with
              | true =>
                have p0 := r6 rfl
                have p2 := r5 rfl rfl
                rcases p2 with p2 | p2
                · skip
                  clear r3 r4 r5 r6
                  go_wp2_with fail
                  (with_reducible refine hdo.mono ?_)
                  clear hdo
                  rintro y w3 ⟨rfl, S4⟩
                  have S5 := S4.newBlk #[.int .i64 pc, .bool pk] 33
                  have e0 := S5.cell 0
                  have e1 := S5.cell 1
                  clear S4
                  have hfo := fa_ok S5 pc pk
                  rw [hok] at hfo
                  clear S5
                  go_wp2_with fail
                  (with_reducible refine hfo.mono ?_)
                  clear hfo e0 e1
                  rintro y w4 ⟨rfl, S6⟩
                  have SF := S6.drop
                  have HSF := Lib.hid SF
                  clear S6
                  go_wp2_with fail
                  (with_reducible refine (rn_at SF).mono ?_)
                  rintro y w5 ⟨rfl, rfl⟩
                  go_wp2_with fail
                  (with_reducible refine (st_done _ _).mono ?_)
                  rintro y w5 ⟨rfl, rfl⟩
                  go_wp2_with fail
                  go_roundw
                  case rel => exact ⟨k + 1, _, C2, _, _, _, by omega, by go_num, rfl, rfl, rfl, by simpa using R7.out, HSF.out⟩
                  case measure => simp [intOf]; omega
                · skip
                  clear r3 r4 r5 r6
                  go_wp2_with fail
                  (with_reducible refine hdo.mono ?_)
                  clear hdo
                  rintro y w3 ⟨rfl, S4⟩
                  have S5 := S4.newBlk #[.int .i64 pc, .bool pk] 33
                  have e0 := S5.cell 0
                  have e1 := S5.cell 1
                  clear S4
                  have hfo := fa_ok S5 pc pk
                  rw [hok] at hfo
                  clear S5
                  go_wp2_with fail
                  (with_reducible refine hfo.mono ?_)
                  clear hfo e0 e1
                  rintro y w4 ⟨rfl, S6⟩
                  have SF := S6.drop
                  have HSF := Lib.hid SF
                  clear S6
                  go_wp2_with fail
                  (with_reducible refine (rn_at SF).mono ?_)
                  rintro y w5 ⟨rfl, rfl⟩
                  go_wp2_with fail
                  (with_reducible refine (st_done _ _).mono ?_)
                  rintro y w5 ⟨rfl, rfl⟩
                  go_wp2_with fail
                  go_roundw
                  case rel => exact ⟨k + 1, _, C2, _, _, _, by omega, by go_num, rfl, rfl, rfl, by simpa using R7.out, HSF.out⟩
                  case measure => simp [intOf]; omega
              | false =>
                have p0 := r6 rfl
                clear r3 r4 r5 r6
                go_wp2_with fail
                (with_reducible refine hdo.mono ?_)
                clear hdo
                rintro y w3 ⟨rfl, S4⟩
                have S5 := S4.newBlk #[.int .i64 pc, .bool pk] 33
                have e0 := S5.cell 0
                have e1 := S5.cell 1
                clear S4
                have hfo := fa_ok S5 pc pk
                rw [hok] at hfo
                clear S5
                go_wp2_with fail
                (with_reducible refine hfo.mono ?_)
                clear hfo e0 e1
                rintro y w4 ⟨rfl, S6⟩
                have SF := S6.drop
                have HSF := Lib.hid SF
                clear S6
                go_wp2_with fail
                (with_reducible refine (rn_at SF).mono ?_)
                rintro y w5 ⟨rfl, rfl⟩
                go_wp2_with fail
                (with_reducible refine (st_done _ _).mono ?_)
                rintro y w5 ⟨rfl, rfl⟩
                go_wp2_with fail
                go_roundw
                case rel => exact ⟨k + 1, _, C2, _, _, _, by omega, by go_num, rfl, rfl, rfl, by simpa using R7.out, HSF.out⟩
                case measure => simp [intOf]; omega
    · have a7 := hA.c2
      have a8 := hA.c6
      have a9 := hA.c3
      have hl := hA.len
      have h2 := rn_count S hl 2
      have h6 := rn_count S hl 6
      have h3 := rn_count S hl 3
      rw [show cntAt C 2 = C.getD 2 0 from cnt_near (e := 2) (by omega)] at h2
      rw [show cntAt C 6 = C.getD 6 0 from cnt_near (e := 6) (by omega)] at h6
      rw [show cntAt C 3 = C.getD 3 0 from cnt_near (e := 3) (by omega)] at h3
      have b2 : C.getD 2 0 ≤ 1 := by split at a7 <;> omega
      have b6 : C.getD 6 0 ≤ 1 := by split at a8 <;> omega
      have b3 : C.getD 3 0 ≤ 1 := by split at a9 <;> omega
      have HS := Lib.hid S
      generalize C.getD 2 0 = x2 at *
      generalize C.getD 6 0 = x6 at *
      generalize C.getD 3 0 = x3 at *
      clear a7 a8 a9 S hA
      go_wp2_with fail
      (with_reducible refine h2.mono ?_)
      rintro y w2 ⟨rfl, rfl⟩
      go_wp2_with fail
      (with_reducible refine h6.mono ?_)
      rintro y w2 ⟨rfl, rfl⟩
      go_wp2_with fail
      (with_reducible refine h3.mono ?_)
      rintro y w2 ⟨rfl, rfl⟩
      go_wp2_with fail
      (with_reducible refine (law_awake (HS.out.drop) ht).mono ?_); rintro y w9 ⟨rfl, S9⟩; go_wp2_with fail; exact hK.out _ _ ⟨rfl, S9.above Gnd.le.rfl'⟩
end Go.Proofs.YtdmfapmdjhjlhaaDoor
