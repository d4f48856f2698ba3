/- The walk of the law CreditCopies. -/
import Derived.Test.YtkjelbnkfnifgaaAw
set_option linter.unusedSimpArgs false
set_option linter.unusedVariables false
namespace Go.Proofs.Ytkjelbnkfnifgaa
open Go.RowKit

set_option maxHeartbeats 4000000 in
set_option maxRecDepth 100000 in
theorem creditCopies_walk (w : World) (v0 v1 v2 : Value) (h0 : ∃ d, ArgV w (.int .i64) v0 d) (h1 : ∃ d, ArgV w (.sl 24 (.agg [.int .i64, .int .i64, .int .i64])) v1 d) (h2 : ∃ d, ArgV w (.sl 24 (.agg [.int .i64, .int .i64, .int .i64])) v2 d) :
    Calls Try.prog 6 #[v0, v1, v2] w fun e w' => e = .returned (.bool true) ∧ Below w.heap.size w w' := by
  refine calls_any fun K hK => ?_
  obtain ⟨_, h0⟩ := h0
  obtain ⟨m, rfl, -⟩ := arg_int h0
  obtain ⟨_, h1⟩ := h1
  obtain ⟨l, h1⟩ := arg_sl h1
  obtain ⟨ps, hps⟩ := ops3_of h1
  obtain ⟨_, h2⟩ := h2
  obtain ⟨l2, h2⟩ := arg_sl h2
  obtain ⟨qs, hqs⟩ := ops3_of h2
  clear h0 h1 h2
  have S0 := Sat.start w
  change ROps (Gnd.of w).ro v1 ps at hps
  change ROps (Gnd.of w).ro v2 qs at hqs
  have hG := Gnd.le.rfl' (G := Gnd.of w)
  obtain ⟨A, c, rfl, hlc, hc, hel⟩ := hps
  have HEL := Lib.hid hel
  clear hel
  obtain ⟨B, d, rfl, hld, hd, hel⟩ := hqs
  have HEQ := Lib.hid hel
  clear hel
  by_cases hlen : 60 < (ps.length : Int)
  · go_enter Try.func6, Try.ntmps6
    go_wp2_with fail
    (with_reducible refine (law_awake _).mono ?_); rintro e w9 ⟨rfl, hb9⟩; go_wp2_with fail; exact hK.out _ _ ⟨rfl, ((S0).below hb9).above (hG)⟩
  by_cases hlen2 : 60 < (qs.length : Int)
  · go_enter Try.func6, Try.ntmps6
    go_wp2_with fail
    (with_reducible refine (law_awake _).mono ?_); rintro e w9 ⟨rfl, hb9⟩; go_wp2_with fail; exact hK.out _ _ ⟨rfl, ((S0).below hb9).above (hG)⟩
  by_cases hm1 : m < 1
  · go_enter Try.func6, Try.ntmps6
    go_wp2_with fail
    (with_reducible refine (law_awake _).mono ?_); rintro e w9 ⟨rfl, hb9⟩; go_wp2_with fail; exact hK.out _ _ ⟨rfl, ((S0).below hb9).above (hG)⟩
  by_cases hm2 : 64 < m
  · go_enter Try.func6, Try.ntmps6
    go_wp2_with fail
    (with_reducible refine (law_awake _).mono ?_); rintro e w9 ⟨rfl, hb9⟩; go_wp2_with fail; exact hK.out _ _ ⟨rfl, ((S0).below hb9).above (hG)⟩
  obtain ⟨m, rfl⟩ : ∃ k : Nat, m = k := ⟨m.toNat, by omega⟩
  have m0 : 1 ≤ m := by omega
  have m1 : m ≤ 64 := by omega
  have hnew := cr_new S0 m m0 m1
  obtain ⟨gd, -⟩ := parts_good m m0 m1
  go_enter Try.func6, Try.ntmps6
  go_wp2_with fail
  (with_reducible refine hnew.mono ?_)
  clear hnew
  rintro e w1 ⟨p, rfl, S1⟩
  have hfst := ref_first S1 m m0 m1
  clear S1
  generalize parts 65535 m = L0 at *
  go_wp2_with fail
  (with_reducible refine hfst.mono ?_)
  clear hfst
  rintro e w2 ⟨v, G1, rfl, hG1, hv, S2⟩
  obtain ⟨X, cx, rfl, -, -, -⟩ := id hv
  have S3 := S2.newBlk #[.slice X L0.length cx, .int .i64 0] 37
  clear S2
  have S5 := S3
  clear S3
  have HV0 := Lib.hid hv
  clear hv
  go_wp2_with fail
  generalize w2.heap.size = a at *
  go_loopw [50] (fun i wr => ∃ (k T : Nat) (L : List Int) (u : Value) (G3 : Gnd), k ≤ ps.length ∧ i = .int .i64 k ∧ T ≤ k ∧ Good L ∧ (Gnd.of w).le G3 ∧ IntsR G3.ro u L ∧ Sat G3 wr [blk a #[u, .int .i64 T] 37, crA p L T]) (fun i _ => ps.length - (intOf i).toNat)
  case atStart => exact ⟨0, 0, L0, _, G1, Nat.zero_le _, rfl, Nat.zero_le _, gd, hG1, HV0.out, S5⟩
  case round =>
    obtain ⟨k, T, L, u, G3, hk, rfl, hT, gL, hG3, hu, S⟩ := hrel
    clear S5
    by_cases hlt : k < ps.length
    · obtain ⟨ad, bo, off, rfl, had, d0, d1, d2, i0, i1, i2⟩ := HEL.out k ps[k] (List.getElem?_eq_getElem hlt)
      have c0 := S.cellR (cellR_mono hG3.ro d0)
      have c1 := S.cellR (cellR_mono hG3.ro d1)
      have c2 := S.cellR (cellR_mono hG3.ro d2)
      clear d0 d1 d2
      obtain ⟨i20, i21⟩ := i2
      generalize ps[k].1 = o at *
      generalize ps[k].2.1 = tn at *
      generalize ps[k].2.2 = n at *
      obtain ⟨X, cx, rfl, -, -, -⟩ := id hu
      have S6 := S.newBlk #[.int .i64 o, .int .i64 tn, .int .i64 n] 29
      have hst := law_step S6.pull2 gL hu (by omega) o tn n i20 i21
      have gL2 := step_good (st := (L, T)) gL o tn n
      have hT2 := step_turn (L, T) o tn n
      generalize crStep (L, T) o tn n = st at *
      obtain ⟨L2, T2⟩ := st
      simp only at hst gL2 hT2
      have e0 := S6.swap.cell 0
      have e1 := S6.swap.cell 1
      clear S hu
      go_wp2_with fail
      (with_reducible refine hst.mono ?_)
      clear hst S6 e0 e1 c0 c1 c2
      rintro e w5 ⟨u2, G4, rfl, hG4, hu2, S7⟩
      obtain ⟨X2, cx2, rfl, -, -, -⟩ := id hu2
      have S8 := S7.pull2
      have S9 := (S8.setCell 0 (.slice X2 L2.length cx2)).setCell 1 (.int .i64 T2)
      change Sat _ _ (blk a #[.slice X2 L2.length cx2, .int .i64 T2] _ :: _) at S9
      clear S7
      have c0 := S8.cell 0
      have c1 := S8.cell 1
      have f0 := S8.frozen 0
      have f1 := S8.frozen 1
      clear S8
      have HU := Lib.hid hu2
      clear hu2
      go_wp2_with fail
      go_roundw
      case rel => exact ⟨k + 1, T2, L2, _, G4, by omega, by go_num, by omega, gL2, hG3.trans hG4, HU.out, S9.pull2.drop⟩
      case measure => simp [intOf]; omega
    · have hcp := cr_copy S.swap gL
      obtain ⟨X, cx, rfl, -, -, -⟩ := id hu
      have HU := Lib.hid hu
      clear hu
      clear HV0 gd
      go_wp2_with fail
      (with_reducible refine hcp.mono ?_)
      clear hcp S
      rintro e w4 ⟨q, rfl, S5⟩
      have S6 := S5.pull2.newBlk #[.slice X L.length cx, .int .i64 T] 37
      have e0 := S5.pull2.cell 0
      have e1 := S5.pull2.cell 1
      clear S5
      go_wp2_with fail
      generalize w4.heap.size = b at *
      clear e0 e1
      go_loopw [69] (fun i wr => ∃ (k T2 : Nat) (L2 : List Int) (u : Value) (G4 : Gnd), k ≤ qs.length ∧ i = .int .i64 k ∧ T2 ≤ T + k ∧ Good L2 ∧ G3.le G4 ∧ IntsR G4.ro u L2 ∧ Sat G4 wr [blk b #[u, .int .i64 T2] 37, crA q L2 T2, blk a #[.slice X L.length cx, .int .i64 T] 37, crA p L T]) (fun i _ => qs.length - (intOf i).toNat)
      case atStart => exact ⟨0, T, L, _, G3, Nat.zero_le _, rfl, Nat.le_refl _, gL, Gnd.le.rfl', HU.out, S6.pull2.swap⟩
      case round =>
        obtain ⟨k2, T2, L2, u, G4, hk2, rfl, hT2, gL2, hG4, hu, S⟩ := hrel
        clear S6
        by_cases hlt2 : k2 < qs.length
        · obtain ⟨ad, bo, off, rfl, had, d0, d1, d2, i0, i1, i2⟩ := HEQ.out k2 qs[k2] (List.getElem?_eq_getElem hlt2)
          have c0 := S.cellR (cellR_mono (hG3.trans hG4).ro d0)
          have c1 := S.cellR (cellR_mono (hG3.trans hG4).ro d1)
          have c2 := S.cellR (cellR_mono (hG3.trans hG4).ro d2)
          clear d0 d1 d2
          obtain ⟨i20, i21⟩ := i2
          generalize qs[k2].1 = o at *
          generalize qs[k2].2.1 = tn at *
          generalize qs[k2].2.2 = n at *
          obtain ⟨X2, cx2, rfl, -, -, -⟩ := id hu
          have S6 := S.newBlk #[.int .i64 o, .int .i64 tn, .int .i64 n] 29
          have hst := law_step S6.pull2 gL2 hu (by omega) o tn n i20 i21
          have gL3 := step_good (st := (L2, T2)) gL2 o tn n
          have hT3 := step_turn (L2, T2) o tn n
          generalize crStep (L2, T2) o tn n = st at *
          obtain ⟨L3, T3⟩ := st
          simp only at hst gL3 hT3
          have e0 := S6.swap.cell 0
          have e1 := S6.swap.cell 1
          clear S hu
          go_wp2_with fail
          (with_reducible refine hst.mono ?_)
          clear hst S6 e0 e1 c0 c1 c2
          rintro e w5 ⟨u3, G5, rfl, hG5, hu3, S7⟩
          obtain ⟨X3, cx3, rfl, -, -, -⟩ := id hu3
          have S8 := S7.pull2
          have S9 := (S8.setCell 0 (.slice X3 L3.length cx3)).setCell 1 (.int .i64 T3)
          change Sat _ _ (blk b #[.slice X3 L3.length cx3, .int .i64 T3] _ :: _) at S9
          clear S7
          have c0 := S8.cell 0
          have c1 := S8.cell 1
          have f0 := S8.frozen 0
          have f1 := S8.frozen 1
          clear S8
          have HU3 := Lib.hid hu3
          clear hu3
          go_wp2_with fail
          go_roundw
          case rel => exact ⟨k2 + 1, T3, L3, _, G5, by omega, by go_num, by omega, gL3, hG4.trans hG5, HU3.out, S9.pull2.drop⟩
          case measure => simp [intOf]; omega
        · obtain ⟨X2, cx2, rfl, -, -, -⟩ := id hu
          have hs := law_same S.pull3 gL (HU.out.mono hG4)
          have e0 := S.pull2.cell 0
          have e1 := S.pull2.cell 1
          have HU2 := Lib.hid hu
          clear hu
          go_wp2_with fail
          (with_reducible refine hs.mono ?_)
          clear hs e0 e1 S
          rintro e w5 ⟨G5, rfl, hG5, S7⟩
          have hs := law_same S7.pull2 gL2 (HU2.out.mono hG5)
          have e0 := S7.swap.cell 0
          have e1 := S7.swap.cell 1
          go_wp2_with fail
          (with_reducible refine hs.mono ?_)
          clear hs e0 e1 S7
          rintro e w6 ⟨G6, rfl, hG6, S8⟩
          go_wp2_with fail
          (with_reducible refine (law_awake _).mono ?_); rintro e w9 ⟨rfl, hb9⟩; go_wp2_with fail; exact hK.out _ _ ⟨rfl, ((S8).below hb9).above (((hG3.trans hG4).trans hG5).trans hG6)⟩
end Go.Proofs.Ytkjelbnkfnifgaa
