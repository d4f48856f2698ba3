/- The walk of the law BlockPlays. -/
import Derived.Test.YtkjeeogifdmeoaaAw
import Derived.Test.YtkjeeogifdmeoaaStep
set_option linter.unusedSimpArgs false
set_option linter.unusedVariables false
namespace Go.Proofs.Ytkjeeogifdmeoaa
open Go.RowKit

set_option maxHeartbeats 16000000 in
set_option maxRecDepth 100000 in
theorem blockPlays_walk (w : World) (v0 v1 : Value) (h0 : ∃ d, ArgV w (.int .i64) v0 d) (h1 : ∃ d, ArgV w (.sl 128 (Ty.agg [.int .i64, .int .i64, .sl 1 (.int .u8), .bool, .bool, .bool, .int .i64, .int .i64, .int .i64, .int .i64, .int .i64, .int .i64, .bool, .bool, .sl 16 (.agg [.int .i64, .int .i64])])) v1 d) :
    Calls Try.prog 3 #[v0, v1] w fun e w' => e = .returned (.bool true) ∧ Below w.heap.size w w' := by
  refine calls_any fun K hK => ?_
  obtain ⟨_, h0⟩ := h0
  obtain ⟨lim, rfl, -⟩ := arg_int h0
  obtain ⟨_, h1⟩ := h1
  obtain ⟨l1, h1⟩ := arg_sl h1
  obtain ⟨bss, hbs⟩ := items_of h1
  clear h0 h1 l1
  change RIts (Gnd.of w).ro v1 bss at hbs
  have hG := Gnd.le.rfl' (G := Gnd.of w)
  have S0 := Sat.start w
  have hsm := law_small S0 v1 bss hbs
  cases hs1 : decide (lenIts bss ≤ 500) with
  | false =>
    rw [hs1] at hsm
    clear hs1 S0
    go_enter Try.func3, Try.ntmps3
    go_wp2_with fail
    (with_reducible refine hsm.mono ?_)
    clear hsm
    rintro e w2 ⟨rfl, S1⟩
    go_wp2_with fail
    (with_reducible refine (law_awake S1).mono ?_); rintro e w9 ⟨rfl, G9, hG9, S9⟩; go_wp2_with fail; exact hK.out _ _ ⟨rfl, S9.above (hG.trans hG9)⟩
  | true =>
  rw [hs1] at hsm
  clear S0
  by_cases hm0 : lim < 0
  · go_enter Try.func3, Try.ntmps3
    go_wp2_with fail
    (with_reducible refine hsm.mono ?_)
    clear hsm
    rintro e w2 ⟨rfl, S1⟩
    go_wp2_with fail
    (with_reducible refine (law_awake S1).mono ?_); rintro e w9 ⟨rfl, G9, hG9, S9⟩; go_wp2_with fail; exact hK.out _ _ ⟨rfl, S9.above (hG.trans hG9)⟩
  by_cases hm1 : 1048576 < lim
  · go_enter Try.func3, Try.ntmps3
    go_wp2_with fail
    (with_reducible refine hsm.mono ?_)
    clear hsm
    rintro e w2 ⟨rfl, S1⟩
    go_wp2_with fail
    (with_reducible refine (law_awake S1).mono ?_); rintro e w9 ⟨rfl, G9, hG9, S9⟩; go_wp2_with fail; exact hK.out _ _ ⟨rfl, S9.above (hG.trans hG9)⟩
  go_enter Try.func3, Try.ntmps3
  go_wp2_with fail
  (with_reducible refine hsm.mono ?_)
  clear hsm
  rintro e w2 ⟨rfl, S1⟩
  have hnew := as_new S1 lim (by omega) (by omega)
  clear S1
  go_wp2_with fail
  (with_reducible refine hnew.mono ?_)
  clear hnew
  rintro e w3 ⟨p, rfl, S1⟩
  replace hs1 := of_decide_eq_true hs1
  obtain ⟨A, c, rfl, hbl, hbe⟩ := hbs
  have HBE := Lib.hid hbe
  have HS1 := Lib.hid hs1
  clear hbe hs1
  have S2 := (S1.newBlk #[.int .i64 0, .string (ByteArray.mk #[]), .int .i64 0] 30).swap
  have hl0 : 0 ≤ lim := by omega
  go_upto_region 7 with fail
  refine wp_world S2 fun w4 S3 => ?_
  clear S1 S2 hm0 hm1
  generalize w3.heap.size = q at *
  go_wp2_with fail
  go_loopw [38] (fun i wr => ∃ (k : Nat) (G : Gnd) (s : BSt), k ≤ bss.length ∧ i = .int .i64 k ∧ (Gnd.of w).le G ∧ asAll lim idle (bss.take k) = s ∧ (s.t.length : Int) ≤ lim ∧ s.w = !(s.s == 0) ∧ Sat G wr [asA p lim s, blk q #[.int .i64 (s).s, .string (bstr (s).t), .int .i64 (num (s).e)] 30]) (fun i _ => bss.length - (intOf i).toNat)
  case atStart => exact ⟨0, _, idle, Nat.zero_le _, rfl, hG, rfl, hl0, rfl, S3⟩
  case round =>
    obtain ⟨k, G, s, hk, rfl, hG, hsk, hlm, hi, S2⟩ := hrel
    clear S3
    by_cases hlt : k < bss.length
    · have hz : True := trivial
      have hxk := List.getElem?_eq_getElem hlt
      obtain ⟨a, b, off, rfl, ha, hcl, hok, hs, htl⟩ := HBE.out k bss[k] hxk
      generalize bss[k] = xt at *
      obtain ⟨x, t⟩ := xt
      simp only at hcl hok hs htl hxk
      have hst := asAll_snoc lim idle hxk
      have hbl := asAll_len lim bss idle k
      have htl2 := lenIts_at hxk
      have h0 : idle.t.length = 0 := rfl
      have hs1 := HS1.out
      rw [hsk] at hbl hst
      have hok2 := hok
      obtain ⟨⟨V, n, cv, hv⟩, B, m, d, hq⟩ := hok
      obtain ⟨V', cv', hv', -, -, -⟩ := hs.form
      rw [hv] at hv'
      cases hv'
      have hcs : x.cells = #[.int .i64 x.k, .int .i64 x.s, .slice V t.length cv, .bool x.e, .bool x.l, .bool x.a, .int .i64 x.n1, .int .i64 x.n2, .int .i64 x.n3, .int .i64 x.n4, .int .i64 x.n5, .int .i64 x.n6, .bool x.b1, .bool x.b2, .slice B m d] := by unfold ItD.cells; rw [hv, hq]
      have e0 := S2.cellR (cellR_mono hG.ro (hcl 0 (.int .i64 x.k) rfl))
      have e1 := S2.cellR (cellR_mono hG.ro (hcl 1 (.int .i64 x.s) rfl))
      have e2 := S2.cellR (cellR_mono hG.ro (hcl 2 (x.v) rfl))
      have e3 := S2.cellR (cellR_mono hG.ro (hcl 3 (.bool x.e) rfl))
      have e4 := S2.cellR (cellR_mono hG.ro (hcl 4 (.bool x.l) rfl))
      have e5 := S2.cellR (cellR_mono hG.ro (hcl 5 (.bool x.a) rfl))
      have e6 := S2.cellR (cellR_mono hG.ro (hcl 6 (.int .i64 x.n1) rfl))
      have e7 := S2.cellR (cellR_mono hG.ro (hcl 7 (.int .i64 x.n2) rfl))
      have e8 := S2.cellR (cellR_mono hG.ro (hcl 8 (.int .i64 x.n3) rfl))
      have e9 := S2.cellR (cellR_mono hG.ro (hcl 9 (.int .i64 x.n4) rfl))
      have e10 := S2.cellR (cellR_mono hG.ro (hcl 10 (.int .i64 x.n5) rfl))
      have e11 := S2.cellR (cellR_mono hG.ro (hcl 11 (.int .i64 x.n6) rfl))
      have e12 := S2.cellR (cellR_mono hG.ro (hcl 12 (.bool x.b1) rfl))
      have e13 := S2.cellR (cellR_mono hG.ro (hcl 13 (.bool x.b2) rfl))
      have e14 := S2.cellR (cellR_mono hG.ro (hcl 14 (x.q) rfl))
      rw [Nat.add_zero] at e0
      rw [hv] at e2
      rw [hq] at e14
      have q0 := S2.swap.cell 0
      have q1 := S2.swap.cell 1
      have q2 := S2.swap.cell 2
      by_cases hxs : x.s < 1
      · have BB := Lib.hid (S2.alloc (.cells #[.int .i64 x.k, .int .i64 x.s, .slice V t.length cv, .bool x.e, .bool x.l, .bool x.a, .int .i64 x.n1, .int .i64 x.n2, .int .i64 x.n3, .int .i64 x.n4, .int .i64 x.n5, .int .i64 x.n6, .bool x.b1, .bool x.b2, .slice B m d] 34)).drop.drop
        clear hcl hs hv hq hcs hst hbl htl2 hok2 hxk htl S2 hz hsk hi hlm h0 hs1 q0 q1 q2
        go_wp2_with fail
        (with_reducible refine (law_awake BB.out).mono ?_); rintro e w9 ⟨rfl, G9, hG9, S9⟩; go_wp2_with fail; exact hK.out _ _ ⟨rfl, S9.above (hG.trans hG9)⟩
      have S3 := S2.alloc (.cells #[.int .i64 x.k, .int .i64 x.s, .slice V t.length cv, .bool x.e, .bool x.l, .bool x.a, .int .i64 x.n1, .int .i64 x.n2, .int .i64 x.n3, .int .i64 x.n4, .int .i64 x.n5, .int .i64 x.n6, .bool x.b1, .bool x.b2, .slice B m d] 34)
      have hsp := law_step S3 x t hok2 (hs.mono hG) (by omega) hi hl0 hlm
      have hi2 := on_st lim s x t hi (by omega)
      have hlm2 := on_lim lim s x t hl0 hlm
      generalize hs2 : (asOn lim s x t).st = s2 at *
      have HST := Lib.hid hst
      have HLM := Lib.hid hlm2
      have HI := Lib.hid hi2
      simp only [stA] at hsp
      rw [hcs] at hsp
      have r0 := S3.swap.cell 0
      have r1 := S3.swap.cell 1
      have r2 := S3.swap.cell 2
      have p0 := S3.swap.frozen 0
      have p1 := S3.swap.frozen 1
      have p2 := S3.swap.frozen 2
      clear hcl hs hv hq hcs hst hbl htl2 hok2 hxk htl S2 hlm2 hi hi2 hlm h0 hs1 hsk hs2
      go_wp2_with fail
      (with_reducible refine hsp.mono ?_)
      clear hsp S3 p0 p1 p2 q0 q1 q2 r0 r1 r2
      clear e0 e1 e2 e3 e4 e5 e6 e7 e8 e9 e10 e11 e12 e13 e14
      rintro e w3 ⟨G2, hG2, rfl, S4⟩
      have p0 := S4.swap.frozen 0
      have p1 := S4.swap.frozen 1
      have p2 := S4.swap.frozen 2
      have q0 := S4.swap.cell 0
      have q1 := S4.swap.cell 1
      have q2 := S4.swap.cell 2
      have S5 := (((S4.swap.setCell 0 (.int .i64 s2.s)).setCell 1 (.string (bstr s2.t))).setCell 2 (.int .i64 (num s2.e))).swap
      go_upto_region 14 with fail
      refine wp_world S5 fun w4 S6 => ?_
      clear S4 S5 p0 p1 p2 q0 q1 q2
      have S7 : Sat G2 w4 (asA p lim s2 :: blk q #[.int .i64 (s2).s, .string (bstr (s2).t), .int .i64 (num (s2).e)] 30 :: []) := S6
      clear S6
      have hwi := as_within S7
      clear S7
      go_wp2_with fail
      (with_reducible refine hwi.mono ?_)
      clear hwi
      rintro e w5 ⟨rfl, S7⟩
      have q0 := S7.swap.cell 0
      have hn1 : (s2.s != s2.s) = false := by simp
      have hww := HI.out
      rw [hww]
      have hne : (s2.s != 0) = !(s2.s == 0) := rfl
      generalize (s2.s == 0) = z at hne ⊢
      clear hww
      cases z with
      | true =>
        simp only [Bool.not_true, Bool.not_false] at hne ⊢
        go_wp2_with fail
        go_roundw
        case rel => exact ⟨k + 1, G2, s2, by omega, by go_num, hG.trans hG2, HST.out, HLM.out, HI.out, S7⟩
        case measure => simp [intOf]; omega
      | false =>
        simp only [Bool.not_true, Bool.not_false] at hne ⊢
        go_wp2_with fail
        go_roundw
        case rel => exact ⟨k + 1, G2, s2, by omega, by go_num, hG.trans hG2, HST.out, HLM.out, HI.out, S7⟩
        case measure => simp [intOf]; omega
    · obtain rfl : k = bss.length := by omega
      clear hsk hlm hi
      go_wp2_with fail
      (with_reducible refine (law_awake S2.drop.drop).mono ?_); rintro e w9 ⟨rfl, G9, hG9, S9⟩; go_wp2_with fail; exact hK.out _ _ ⟨rfl, S9.above (hG.trans hG9)⟩
end Go.Proofs.Ytkjeeogifdmeoaa
