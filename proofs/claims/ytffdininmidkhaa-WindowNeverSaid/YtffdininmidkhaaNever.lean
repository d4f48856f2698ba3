/- The walk of the law WindowNever. -/
import Derived.Test.YtffdininmidkhaaLawB
set_option linter.unusedSimpArgs false
set_option linter.unusedVariables false
namespace Go.Proofs.Ytffdininmidkhaa
open Go.RowKit

structure NeverAt (w : World) (b : Nat) (k : Nat) (sp gr : Int) (wr : World) : Prop where
  sat : Sat (Gnd.of w) wr [blk b #[.int .i64 (gr - sp)] 25]
  sp0 : 0 ≤ sp
  sp1 : sp ≤ k * 2147483648
  gr1 : gr ≤ (k + 1) * 2147483648
  lo : 0 ≤ gr - sp
  hi : gr - sp ≤ 2147483647
set_option maxHeartbeats 1000000 in
set_option maxRecDepth 100000 in
theorem windowNever_walk (w : World) (v0 v1 : Value) (h0 : ∃ d, ArgV w (.int .i64) v0 d) (h1 : ∃ d, ArgV w (.sl 24 (.agg [.int .i64, .int .i64, .int .i64])) v1 d) :
    Calls Try.prog 5 #[v0, v1] w fun e w' => e = .returned (.bool true) ∧ Below w.heap.size w w' := by
  refine calls_any fun K hK => ?_
  obtain ⟨_, h0⟩ := h0
  obtain ⟨n, rfl, hn⟩ := arg_int h0
  obtain ⟨_, h1⟩ := h1
  obtain ⟨l, h1⟩ := arg_sl h1
  obtain ⟨A, c, rfl, hlc, hc, hl, _, hel⟩ := h1.form
  have HEL := Lib.hid hel
  clear hel h1 h0 hn
  have hnew := win_new n w
  rcases new_cases n with ⟨x, hx, e1, _, _⟩ | ⟨e1, n0, n1⟩
  · rw [e1] at hnew
    clear e1
    have hxb : (x != 0) = true := by simpa using hx
    clear hx
    go_enter Try.func5, Try.ntmps5
    go_wp2_with fail
    (with_reducible refine hnew.mono ?_)
    rintro e w1 ⟨rfl, hb1⟩
    have HB := Lib.hid hb1
    clear hb1 hnew
    go_wp2_with ((go_at_call 8; (with_reducible refine (awake_true _).mono ?_); rintro e w9 ⟨rfl, hb9⟩))
    exact hK.out _ _ ⟨rfl, (HB.out.alloc HB.out.size _).trans (hb9.mono (by have := HB.out.size; simp; omega))⟩
  · rw [e1] at hnew
    clear e1
    by_cases hlen : 200 < (l.length : Int)
    · go_enter Try.func5, Try.ntmps5
      go_wp2_with fail
      (with_reducible refine hnew.mono ?_)
      rintro e w1 ⟨rfl, hb1⟩
      have HB := Lib.hid hb1
      clear hb1 hnew
      go_wp2_with ((go_at_call 8; (with_reducible refine (awake_true _).mono ?_); rintro e w9 ⟨rfl, hb9⟩))
      exact hK.out _ _ ⟨rfl, (HB.out.alloc HB.out.size _).trans (hb9.mono (by have := HB.out.size; simp; omega))⟩
    · go_enter Try.func5, Try.ntmps5
      go_wp2_with fail
      (with_reducible refine hnew.mono ?_)
      rintro e w1 ⟨rfl, hb1⟩
      have S1 := ((Sat.start w).below hb1).newBlk #[.int .i64 n] 25
      clear hb1 hnew
      go_wp2_with fail
      generalize w1.heap.size = b at *
      go_loopw [7, 8, 27] (fun s g i wr => ∃ (k : Nat) (sp gr : Int), k ≤ l.length ∧ s = .int .i64 sp ∧ g = .int .i64 gr ∧ i = .int .i64 k ∧ NeverAt w b k sp gr wr) (fun _ _ i _ => l.length - (intOf i).toNat)
      case atStart => exact ⟨0, 0, n, Nat.zero_le _, rfl, rfl, rfl, by simpa using S1, by omega, by omega, by omega, by omega, by omega⟩
      case round =>
        obtain ⟨k, sp, gr, hk, rfl, rfl, rfl, hp⟩ := hrel
        by_cases hlt : k < l.length
        · obtain ⟨a, rfl, es, hes, hcell, hrd⟩ := HEL.out k (l[k]) (List.getElem?_eq_getElem hlt)
          obtain ⟨o, x, y, rfl, ⟨x0, x1⟩, _⟩ := op3_cells hrd
          obtain ⟨bo, off, ha, c0, c1, c2⟩ := three_cells hp.sat hcell
          have hg0 : 0 ≤ gr := by have := hp.lo; have := hp.sp0; omega
          obtain ⟨hsat, p0, p1, p2, p3, p4⟩ := hp
          have HS := (hsat.newBlk #[.int .i64 o, .int .i64 x, .int .i64 y] 31).swap
          by_cases o1 : o = 1
          · subst o1
            have hgr := grow_sat HS x (by omega) (by omega)
            rcases grow_cases (gr - sp) x with ⟨z, hz, e1⟩ | ⟨e1, y0, y1, y2, _⟩
            · rw [e1] at hgr
              have hzb : (z == 0) = false := by simpa using hz
              clear hz e1
              go_wp2_with fail
              (with_reducible refine hgr.mono ?_)
              clear hgr hsat HS
              rintro e w2 ⟨rfl, S2⟩
              have hc2 := S2.cell 0
              have hd0 := S2.swap.cell 0
              have hd1 := S2.swap.cell 1
              go_wp2_with fail
              (with_reducible refine (win_size _ _).mono ?_)
              rintro e w3 ⟨rfl, hb3⟩
              have S3 := S2.drop2.below hb3
              clear S2 hb3 hc2 hd0 hd1
              go_wp2_with fail
              go_roundw
              case rel => exact ⟨k + 1, sp, gr, by omega, rfl, rfl, by go_num, S3, by omega, by omega, by omega, by omega, by omega⟩
              case measure => simp [intOf]; omega
            · rw [e1] at hgr
              clear e1
              have eg : gr - sp + x = gr + x - sp := by omega
              rw [eg] at hgr
              clear eg
              go_wp2_with fail
              (with_reducible refine hgr.mono ?_)
              clear hgr hsat HS
              rintro e w2 ⟨rfl, S2⟩
              have hc2 := S2.cell 0
              have hd0 := S2.swap.cell 0
              have hd1 := S2.swap.cell 1
              go_wp2_with fail
              (with_reducible refine (win_size _ _).mono ?_)
              rintro e w3 ⟨rfl, hb3⟩
              have S3 := S2.drop2.below hb3
              clear S2 hb3 hc2 hd0 hd1
              go_wp2_with fail
              go_roundw
              case rel => exact ⟨k + 1, sp, gr + x, by omega, rfl, rfl, by go_num, S3, by omega, by omega, by omega, by omega, by omega⟩
              case measure => simp [intOf]; omega
          · have o1b : (o == 1) = false := by simpa using o1
            clear o1
            by_cases o2 : o = 2
            · subst o2
              have hgr := spend_sat HS x (by omega) (by omega)
              rcases spend_cases (gr - sp) x (by omega) (by omega) with ⟨z, hz, e1⟩ | ⟨e1, y0, y1, y2⟩
              · rw [e1] at hgr
                have hzb : (z == 0) = false := by simpa using hz
                clear hz e1
                go_wp2_with fail
                (with_reducible refine hgr.mono ?_)
                clear hgr hsat HS
                rintro e w2 ⟨rfl, S2⟩
                have hc2 := S2.cell 0
                have hd0 := S2.swap.cell 0
                have hd1 := S2.swap.cell 1
                go_wp2_with fail
                (with_reducible refine (win_size _ _).mono ?_)
                rintro e w3 ⟨rfl, hb3⟩
                have S3 := S2.drop2.below hb3
                clear S2 hb3 hc2 hd0 hd1
                go_wp2_with fail
                go_roundw
                case rel => exact ⟨k + 1, sp, gr, by omega, rfl, rfl, by go_num, S3, by omega, by omega, by omega, by omega, by omega⟩
                case measure => simp [intOf]; omega
              · rw [e1] at hgr
                clear e1
                have eg : gr - sp - x = gr - (sp + x) := by omega
                rw [eg] at hgr
                clear eg
                go_wp2_with fail
                (with_reducible refine hgr.mono ?_)
                clear hgr hsat HS
                rintro e w2 ⟨rfl, S2⟩
                have hc2 := S2.cell 0
                have hd0 := S2.swap.cell 0
                have hd1 := S2.swap.cell 1
                go_wp2_with fail
                (with_reducible refine (win_size _ _).mono ?_)
                rintro e w3 ⟨rfl, hb3⟩
                have S3 := S2.drop2.below hb3
                clear S2 hb3 hc2 hd0 hd1
                go_wp2_with fail
                go_roundw
                case rel => exact ⟨k + 1, sp + x, gr, by omega, rfl, rfl, by go_num, S3, by omega, by omega, by omega, by omega, by omega⟩
                case measure => simp [intOf]; omega
            · have o2b : (o == 2) = false := by simpa using o2
              clear o2
              have hc2 := HS.cell 0
              go_wp2_with fail
              (with_reducible refine (win_size _ _).mono ?_)
              rintro e w3 ⟨rfl, hb3⟩
              have S3 := HS.drop2.below hb3
              clear hb3 hc2
              go_wp2_with fail
              go_roundw
              case rel => exact ⟨k + 1, sp, gr, by omega, rfl, rfl, by go_num, S3, by omega, by omega, by omega, by omega, by omega⟩
              case measure => simp [intOf]; omega
        · have HP := hp.sat
          go_wp2_with ((go_at_call 8; (with_reducible refine (awake_true _).mono ?_); rintro e w9 ⟨rfl, hb9⟩))
          exact hK.out _ _ ⟨rfl, (HP.below hb9).above Gnd.le.rfl'⟩
end Go.Proofs.Ytffdininmidkhaa
