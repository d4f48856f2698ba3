/- The walk of the law DynFinds. -/
import Derived.Test.YtkjkekhhhbopcaaRfd
set_option linter.unusedSimpArgs false
set_option linter.unusedVariables false
namespace Go.Proofs.Ytkjkekhhhbopcaa
open Go.RowKit

set_option maxHeartbeats 16000000 in
set_option maxRecDepth 100000 in
theorem dynFinds_walk (w : World) (v0 v1 v2 : Value) (h0 : ∃ d, ArgV w (.int .i64) v0 d) (h1 : ∃ d, ArgV w (.sl 48 (Ty.agg [.int .i64, .int .i64, (Ty.agg [.str, .str])])) v1 d) (h2 : ∃ d, ArgV w (Ty.agg [.str, .str]) v2 d) :
    Calls Try.prog 6 #[v0, v1, v2] w fun e w' => e = .returned (.bool true) ∧ Below w.heap.size w w' := by
  refine calls_any fun K hK => ?_
  obtain ⟨_, h0⟩ := h0
  obtain ⟨n, rfl, -⟩ := arg_int h0
  obtain ⟨_, h1⟩ := h1
  obtain ⟨l, h1⟩ := arg_sl h1
  obtain ⟨ops, hops⟩ := ops_of h1
  obtain ⟨_, h2⟩ := h2
  obtain ⟨x, rfl, hx1, hx2⟩ := arg_field h2
  clear h0 h1 h2
  have S0 := (Sat.start w).newBlk #[.string (bstr x.1), .string (bstr x.2)] 23
  have hG0 := Gnd.le.rfl' (G := Gnd.of w)
  have hsm := law_small S0 v1 ops hops
  obtain ⟨X, xc, rfl, hlc, hc, hel⟩ := hops
  have HEL := Lib.hid hel
  have hbs1 := bstr_size x.1
  have hbs2 := bstr_size x.2
  clear hel S0
  by_cases hq : osum ops ≤ 120
  · rw [decide_eq_true hq] at hsm
    by_cases hn : lRight n = true
    · obtain ⟨a1, a2⟩ := of_decide_eq_true hn
      have z1 : ¬ (n < 0) := by omega
      have z2 : ¬ (65536 < n) := by omega
      by_cases hn1 : 1000 < (x.1.length : Int)
      · clear hq hn
        go_enter Try.func6, Try.ntmps6
        go_wp2_with fail; (with_reducible refine hsm.mono ?_); clear hsm; generalize w.heap.size = r; rintro e w1 ⟨rfl, S1⟩; have d0 := S1.cell 0; have d1 := S1.cell 1
        go_wp2_with fail
        (with_reducible refine (law_awake (S1.drop)).mono ?_); rintro e w9 ⟨rfl, S9⟩; go_wp2_with fail; exact hK.out _ _ ⟨rfl, S9.above hG0⟩
      by_cases hn2 : 1000 < (x.2.length : Int)
      · clear hq hn
        go_enter Try.func6, Try.ntmps6
        go_wp2_with fail; (with_reducible refine hsm.mono ?_); clear hsm; generalize w.heap.size = r; rintro e w1 ⟨rfl, S1⟩; have d0 := S1.cell 0; have d1 := S1.cell 1
        go_wp2_with fail
        (with_reducible refine (law_awake (S1.drop)).mono ?_); rintro e w9 ⟨rfl, S9⟩; go_wp2_with fail; exact hK.out _ _ ⟨rfl, S9.above hG0⟩
      have HN := Lib.hid hn
      have hwf0 : TWf [] [] n := ⟨a1, a2, by simpa [fsz] using a1, Nat.le_refl _⟩
      have HW0 := Lib.hid hwf0
      clear hq hwf0 hn
      go_enter Try.func6, Try.ntmps6
      go_wp2_with fail; (with_reducible refine hsm.mono ?_); clear hsm; generalize w.heap.size = r; rintro e w1 ⟨rfl, S1⟩; have d0 := S1.cell 0; have d1 := S1.cell 1
      have hnew := tb_new S1 n HN.out
      clear S1
      go_wp2_with fail
      (with_reducible refine hnew.mono ?_)
      clear hnew d0 d1
      rintro e w2 ⟨p, rfl, S2⟩
      go_wp2_with fail
      go_loopw [0, 9, 53] (fun lv xv i wr => ∃ (k : Nat) (Z F : List Fd) (lim : Int) (G' : Gnd), k ≤ ops.length ∧ i = .int .i64 k ∧ lv = .int .i64 lim ∧ (Gnd.of w).le G' ∧ TWf Z F lim ∧ RF (cellR G'.ro) xv F.reverse ∧ Sat G' wr [tbA p Z F lim, blk r #[.string (bstr x.1), .string (bstr x.2)] 23]) (fun _ _ i _ => ops.length - (intOf i).toNat)
      case atStart => exact ⟨0, [], [], n, Gnd.of w, Nat.zero_le _, rfl, rfl, hG0, HW0.out, RF.nil _, S2⟩
      case round =>
        obtain ⟨k, Z, F, lim, G1, hk, rfl, rfl, hG1, hwf, hrf, S⟩ := hrel
        clear S2
        by_cases hlt : k < ops.length
        · have hok := List.getElem?_eq_getElem hlt
          obtain ⟨ad, bo, off, rfl, had, hcl, ho⟩ := HEL.out k _ hok
          generalize ops[k] = o at hcl ho
          clear hok
          obtain ⟨ok, on, ⟨h, b⟩⟩ := o
          simp only [OpD.cells, fenc] at hcl
          have d0 := S.cellR (cellR_mono hG1.ro (hcl 0 _ rfl))
          have d1 := S.cellR (cellR_mono hG1.ro (hcl 1 _ rfl))
          have d2 := S.cellR (cellR_mono hG1.ro (hcl 2 _ rfl))
          have d3 := S.cellR (cellR_mono hG1.ro (hcl 3 _ rfl))
          rw [Nat.add_zero] at d0
          have HS6 := Lib.hid (S.newBlk #[.int .i64 ok, .int .i64 on, .string (bstr h), .string (bstr b)] 36)
          have HO := Lib.hid ho
          have HWF := Lib.hid hwf
          have HRF := Lib.hid hrf
          obtain ⟨Y, yc, rfl, -⟩ := id hrf
          clear S hcl ho hwf hrf
          rw [List.length_reverse] at HRF ⊢
          go_upto_region 10 with fail
          generalize wr.heap.size = z at *
          refine wp_world HS6.out fun w5 S7 => ?_
          clear HS6 d0 d1 d2 d3
          have d0 := S7.cell 0
          have d1 := S7.cell 1
          have d2 := S7.cell 2
          have d3 := S7.cell 3
          have hst := law_step S7.swap HWF.out HRF.out ok on (h, b) HO.out.h HO.out.b
          clear S7
          go_wp2_with fail
          (with_reducible refine hst.mono ?_)
          clear hst d0 d1 d2 d3
          rintro e w6 ⟨u, G2, Z2, hG2, rfl, hu, hwf2, S8⟩
          obtain ⟨q, hq⟩ : ∃ q, q = stepF lim F ⟨ok, on, (h, b)⟩ := ⟨_, rfl⟩
          rw [← hq] at hu hwf2 S8 ⊢
          obtain ⟨F2, lim2⟩ := q
          simp only at hu hwf2 S8 ⊢
          clear hq
          have HU := Lib.hid hu
          have HW2 := Lib.hid hwf2
          have HS8 := Lib.hid S8
          obtain ⟨Y2, yc2, rfl, -⟩ := id hu
          rw [List.length_reverse] at HU ⊢
          clear hu hwf2 S8
          go_wp2_with fail
          go_roundw
          case rel => exact ⟨k + 1, Z2, F2, lim2, G2, by omega, by go_num, rfl, hG1.trans hG2, HW2.out, HU.out, HS8.out.drop2⟩
          case measure => simp [intOf]; omega
        · have hkk : k = ops.length := by omega
          have hzl := hwf.z
          have hfl := hwf.len
          have hl1 := hwf.l1
          have hsz := hwf.sz
          have HZF : Hid (Z.length ≤ 10000 ∧ F.length ≤ 10000) := Lib.hid (by omega)
          have HRF := Lib.hid hrf
          have HWF := Lib.hid hwf
          obtain ⟨Y, yc, rfl, -⟩ := id hrf
          rw [List.length_reverse] at HRF ⊢
          have d0 := S.swap.cell 0
          have d1 := S.swap.cell 1
          have hfi := tb_find S HZF.out.1 HZF.out.2 x
          clear S hrf hwf hzl hfl hl1 hsz
          go_wp2_with fail
          (with_reducible refine hfi.mono ?_)
          clear hfi d0 d1
          rintro e w3 ⟨rfl, G2, hG2, S3⟩
          have d0 := S3.swap.cell 0
          have d1 := S3.swap.cell 1
          have hpa := law_pair S3 x
          clear S3
          go_wp2_with fail
          (with_reducible refine hpa.mono ?_)
          clear hpa d0 d1
          rintro e w4 ⟨rfl, S4⟩
          have hrfi := ref_find S4 (HRF.out.mono hG2) x (by rw [List.length_reverse]; exact HZF.out.2)
          obtain ⟨q, hq⟩ : ∃ q, q = findR F.reverse x := ⟨_, rfl⟩
          rw [← hq] at hrfi ⊢
          obtain ⟨qi, qb⟩ := q
          simp only at hrfi ⊢
          clear S4 hq
          cases qb with
          | false =>
            change Calls _ _ _ _ (fun e w' => e = .returned (.tuple #[.int .i64 qi, .int .i64 0]) ∧ _) at hrfi
            go_wp2_with fail
            (with_reducible refine hrfi.mono ?_)
            clear hrfi
            rintro e w5 ⟨rfl, S5⟩
            go_wp2_with fail
            (with_reducible refine (law_awake (S5.drop.drop)).mono ?_); rintro e w9 ⟨rfl, S9⟩; go_wp2_with fail; exact hK.out _ _ ⟨rfl, S9.above (hG1.trans hG2)⟩
          | true =>
            change Calls _ _ _ _ (fun e w' => e = .returned (.tuple #[.int .i64 qi, .int .i64 1]) ∧ _) at hrfi
            go_wp2_with fail
            (with_reducible refine hrfi.mono ?_)
            clear hrfi
            rintro e w5 ⟨rfl, S5⟩
            go_wp2_with fail
            (with_reducible refine (law_awake (S5.drop.drop)).mono ?_); rintro e w9 ⟨rfl, S9⟩; go_wp2_with fail; exact hK.out _ _ ⟨rfl, S9.above (hG1.trans hG2)⟩
    · have hn := eq_false_of_ne_true hn
      have h3 : ¬ (0 ≤ n ∧ n ≤ 65536) := of_decide_eq_false hn
      clear hq hn
      by_cases h4 : n < 0
      · go_enter Try.func6, Try.ntmps6
        go_wp2_with fail; (with_reducible refine hsm.mono ?_); clear hsm; generalize w.heap.size = r; rintro e w1 ⟨rfl, S1⟩; have d0 := S1.cell 0; have d1 := S1.cell 1
        go_wp2_with fail
        (with_reducible refine (law_awake (S1.drop)).mono ?_); rintro e w9 ⟨rfl, S9⟩; go_wp2_with fail; exact hK.out _ _ ⟨rfl, S9.above hG0⟩
      · have h5 : 65536 < n := by omega
        go_enter Try.func6, Try.ntmps6
        go_wp2_with fail; (with_reducible refine hsm.mono ?_); clear hsm; generalize w.heap.size = r; rintro e w1 ⟨rfl, S1⟩; have d0 := S1.cell 0; have d1 := S1.cell 1
        go_wp2_with fail
        (with_reducible refine (law_awake (S1.drop)).mono ?_); rintro e w9 ⟨rfl, S9⟩; go_wp2_with fail; exact hK.out _ _ ⟨rfl, S9.above hG0⟩
  · rw [decide_eq_false hq] at hsm
    go_enter Try.func6, Try.ntmps6
    go_wp2_with fail; (with_reducible refine hsm.mono ?_); clear hsm; generalize w.heap.size = r; rintro e w1 ⟨rfl, S1⟩; have d0 := S1.cell 0; have d1 := S1.cell 1
    go_wp2_with fail
    (with_reducible refine (law_awake (S1.drop)).mono ?_); rintro e w9 ⟨rfl, S9⟩; go_wp2_with fail; exact hK.out _ _ ⟨rfl, S9.above hG0⟩
end Go.Proofs.Ytkjkekhhhbopcaa
