/- The walk of the law DynPlays. -/
import Derived.Test.YtkjkekhhhbopcaaSam
set_option linter.unusedSimpArgs false
set_option linter.unusedVariables false
namespace Go.Proofs.Ytkjkekhhhbopcaa
open Go.RowKit

set_option maxHeartbeats 8000000 in
set_option maxRecDepth 100000 in
theorem dynPlays_walk (w : World) (v0 v1 : Value) (h0 : ∃ d, ArgV w (.int .i64) v0 d) (h1 : ∃ d, ArgV w (.sl 48 (Ty.agg [.int .i64, .int .i64, (Ty.agg [.str, .str])])) v1 d) :
    Calls Try.prog 4 #[v0, v1] w fun e w' => e = .returned (.bool true) ∧ Below w.heap.size w w' := by
  refine calls_any fun K hK => ?_
  obtain ⟨_, h0⟩ := h0
  obtain ⟨n, rfl, -⟩ := arg_int h0
  obtain ⟨_, h1⟩ := h1
  obtain ⟨l, h1⟩ := arg_sl h1
  obtain ⟨ops, hops⟩ := ops_of h1
  clear h0 h1
  have S0 := Sat.start w
  have hG0 := Gnd.le.rfl' (G := Gnd.of w)
  have hsm := law_small S0 v1 ops hops
  obtain ⟨X, xc, rfl, hlc, hc, hel⟩ := hops
  have HEL := Lib.hid hel
  clear hel S0
  by_cases hq : osum ops ≤ 120
  · rw [decide_eq_true hq] at hsm
    by_cases hn : lRight n = true
    · obtain ⟨a1, a2⟩ := of_decide_eq_true hn
      have z1 : ¬ (n < 0) := by omega
      have z2 : ¬ (65536 < n) := by omega
      have HN := Lib.hid hn
      have hwf0 : TWf [] [] n := ⟨a1, a2, by simpa [fsz] using a1, Nat.le_refl _⟩
      have HW0 := Lib.hid hwf0
      clear hq hwf0
      go_enter Try.func4, Try.ntmps4
      go_wp2_with fail
      (with_reducible refine hsm.mono ?_)
      clear hsm
      rintro e w1 ⟨rfl, S1⟩
      have hnew := tb_new S1 n HN.out
      clear S1 hn
      go_wp2_with fail
      (with_reducible refine hnew.mono ?_)
      clear hnew
      rintro e w2 ⟨p, rfl, S2⟩
      go_wp2_with fail
      go_loopw [0, 7, 36] (fun lv xv i wr => ∃ (k : Nat) (Z F : List Fd) (lim : Int) (G' : Gnd), k ≤ ops.length ∧ i = .int .i64 k ∧ lv = .int .i64 lim ∧ (Gnd.of w).le G' ∧ TWf Z F lim ∧ RF (cellR G'.ro) xv F.reverse ∧ Sat G' wr [tbA p Z F lim]) (fun _ _ i _ => ops.length - (intOf i).toNat)
      case atStart => exact ⟨0, [], [], n, Gnd.of w, Nat.zero_le _, rfl, rfl, hG0, HW0.out, RF.nil _, S2⟩
      case round =>
        obtain ⟨k, Z, F, lim, G1, hk, rfl, rfl, hG1, hwf, hrf, S⟩ := hrel
        clear S2
        by_cases hlt : k < ops.length
        · have hok := List.getElem?_eq_getElem hlt
          obtain ⟨ad, bo, off, rfl, had, hcl, ho⟩ := HEL.out k _ hok
          generalize ops[k] = o at hcl ho
          clear hok
          obtain ⟨ok, on, ⟨h, b⟩⟩ := o
          simp only [OpD.cells, fenc] at hcl
          have d0 := S.cellR (cellR_mono hG1.ro (hcl 0 _ rfl))
          have d1 := S.cellR (cellR_mono hG1.ro (hcl 1 _ rfl))
          have d2 := S.cellR (cellR_mono hG1.ro (hcl 2 _ rfl))
          have d3 := S.cellR (cellR_mono hG1.ro (hcl 3 _ rfl))
          rw [Nat.add_zero] at d0
          have HS6 := Lib.hid (S.newBlk #[.int .i64 ok, .int .i64 on, .string (bstr h), .string (bstr b)] 36)
          have HO := Lib.hid ho
          have HWF := Lib.hid hwf
          have HRF := Lib.hid hrf
          obtain ⟨Y, yc, rfl, -⟩ := id hrf
          clear S hcl ho hwf hrf
          rw [List.length_reverse] at HRF ⊢
          go_upto_region 11 with fail
          generalize wr.heap.size = z at *
          refine wp_world HS6.out fun w5 S7 => ?_
          clear HS6 d0 d1 d2 d3
          have d0 := S7.cell 0
          have d1 := S7.cell 1
          have d2 := S7.cell 2
          have d3 := S7.cell 3
          have hst := law_step S7.swap HWF.out HRF.out ok on (h, b) HO.out.h HO.out.b
          clear S7
          go_wp2_with fail
          (with_reducible refine hst.mono ?_)
          clear hst d0 d1 d2 d3
          rintro e w6 ⟨u, G2, Z2, hG2, rfl, hu, hwf2, S8⟩
          obtain ⟨q, hq⟩ : ∃ q, q = stepF lim F ⟨ok, on, (h, b)⟩ := ⟨_, rfl⟩
          rw [← hq] at hu hwf2 S8 ⊢
          obtain ⟨F2, lim2⟩ := q
          simp only at hu hwf2 S8 ⊢
          clear hq
          have hsa := law_same S8 hwf2 hu
          have HU := Lib.hid hu
          have HW2 := Lib.hid hwf2
          obtain ⟨Y2, yc2, rfl, -⟩ := id hu
          rw [List.length_reverse] at HU hsa ⊢
          clear hu hwf2 S8
          go_wp2_with fail
          (with_reducible refine hsa.mono ?_)
          clear hsa
          rintro e w7 ⟨rfl, S9⟩
          go_wp2_with fail
          go_roundw
          case rel => exact ⟨k + 1, Z2, F2, lim2, G2, by omega, by go_num, rfl, hG1.trans hG2, HW2.out, HU.out, S9.drop2⟩
          case measure => simp [intOf]; omega
        · have hkk : k = ops.length := by omega
          have HS := Lib.hid S
          clear S
          go_wp2_with fail
          (with_reducible refine (law_awake (HS.out)).mono ?_); rintro e w9 ⟨rfl, S9⟩; go_wp2_with fail; exact hK.out _ _ ⟨rfl, S9.above hG1⟩
    · have hn := eq_false_of_ne_true hn
      have h3 : ¬ (0 ≤ n ∧ n ≤ 65536) := of_decide_eq_false hn
      clear hq hn
      by_cases h4 : n < 0
      · go_enter Try.func4, Try.ntmps4
        go_wp2_with fail
        (with_reducible refine hsm.mono ?_)
        clear hsm
        rintro e w1 ⟨rfl, S1⟩
        go_wp2_with fail
        (with_reducible refine (law_awake (S1)).mono ?_); rintro e w9 ⟨rfl, S9⟩; go_wp2_with fail; exact hK.out _ _ ⟨rfl, S9.above hG0⟩
      · have h5 : 65536 < n := by omega
        go_enter Try.func4, Try.ntmps4
        go_wp2_with fail
        (with_reducible refine hsm.mono ?_)
        clear hsm
        rintro e w1 ⟨rfl, S1⟩
        go_wp2_with fail
        (with_reducible refine (law_awake (S1)).mono ?_); rintro e w9 ⟨rfl, S9⟩; go_wp2_with fail; exact hK.out _ _ ⟨rfl, S9.above hG0⟩
  · rw [decide_eq_false hq] at hsm
    go_enter Try.func4, Try.ntmps4
    go_wp2_with fail
    (with_reducible refine hsm.mono ?_)
    clear hsm
    rintro e w1 ⟨rfl, S1⟩
    go_wp2_with fail
    (with_reducible refine (law_awake (S1)).mono ?_); rintro e w9 ⟨rfl, S9⟩; go_wp2_with fail; exact hK.out _ _ ⟨rfl, S9.above hG0⟩
end Go.Proofs.Ytkjkekhhhbopcaa
