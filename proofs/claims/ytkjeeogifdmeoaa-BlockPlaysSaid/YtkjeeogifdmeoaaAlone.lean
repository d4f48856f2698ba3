/- The walk of the law BlockAlone. -/
import Derived.Test.YtkjeeogifdmeoaaAw
import Derived.Test.YtkjeeogifdmeoaaCopies
set_option linter.unusedSimpArgs false
set_option linter.unusedVariables false
namespace Go.Proofs.Ytkjeeogifdmeoaa
open Go.RowKit

theorem on_bad (lim : Int) (b : BSt) (x : ItD) (t : List UInt8) (h : (asOn lim b x t).bad = true) : (asOn lim b x t).st = b ∧ (asOn lim b x t).ok = false := by
  revert h
  unfold asOn
  repeat' split
  all_goals simp
theorem on_may (lim : Int) (b : BSt) (x : ItD) (t : List UInt8) (h : (asOn lim b x t).bad = false) (hw : b.w = true) : x.k = 9 ∧ x.s = b.s := by
  revert h
  unfold asOn
  cases hm : mayB b x.k x.s with
  | false => simp
  | true =>
    intro _
    simpa [mayB, hw] using hm
set_option maxHeartbeats 16000000 in
set_option maxRecDepth 100000 in
theorem blockAlone_walk (w : World) (v0 v1 v2 : Value) (h0 : ∃ d, ArgV w (.int .i64) v0 d) (h1 : ∃ d, ArgV w (.sl 128 (Ty.agg [.int .i64, .int .i64, .sl 1 (.int .u8), .bool, .bool, .bool, .int .i64, .int .i64, .int .i64, .int .i64, .int .i64, .int .i64, .bool, .bool, .sl 16 (.agg [.int .i64, .int .i64])])) v1 d) (h2 : ∃ d, ArgV w (Ty.agg [.int .i64, .int .i64, .sl 1 (.int .u8), .bool, .bool, .bool, .int .i64, .int .i64, .int .i64, .int .i64, .int .i64, .int .i64, .bool, .bool, .sl 16 (.agg [.int .i64, .int .i64])]) v2 d) :
    Calls Try.prog 4 #[v0, v1, v2] w fun e w' => e = .returned (.bool true) ∧ Below w.heap.size w w' := by
  refine calls_any fun K hK => ?_
  obtain ⟨_, h0⟩ := h0
  obtain ⟨lim, rfl, -⟩ := arg_int h0
  obtain ⟨_, h1⟩ := h1
  obtain ⟨l1, h1⟩ := arg_sl h1
  obtain ⟨bss, hbs⟩ := items_of h1
  obtain ⟨_, h2⟩ := h2
  obtain ⟨y, ty, rfl, hok, hsy, -⟩ := arg_item h2
  clear h0 h1 h2 l1
  have HOK := Lib.hid hok
  obtain ⟨⟨VY, n, cy, hv⟩, BY, my, dy, hq⟩ := hok
  obtain ⟨V', cv', hv', -, -, -⟩ := hsy.form
  rw [hv] at hv'
  cases hv'
  have hcy : y.cells = #[.int .i64 y.k, .int .i64 y.s, .slice VY ty.length cy, .bool y.e, .bool y.l, .bool y.a, .int .i64 y.n1, .int .i64 y.n2, .int .i64 y.n3, .int .i64 y.n4, .int .i64 y.n5, .int .i64 y.n6, .bool y.b1, .bool y.b2, .slice BY my dy] := by unfold ItD.cells; rw [hv, hq]
  rw [hcy]
  have HCY := Lib.hid hcy
  have HSY := Lib.hid hsy
  clear hsy hcy hv hq
  change RIts (Gnd.of w).ro v1 bss at hbs
  have hG := Gnd.le.rfl' (G := Gnd.of w)
  have S0 := (Sat.start w).newBlk #[.int .i64 y.k, .int .i64 y.s, .slice VY ty.length cy, .bool y.e, .bool y.l, .bool y.a, .int .i64 y.n1, .int .i64 y.n2, .int .i64 y.n3, .int .i64 y.n4, .int .i64 y.n5, .int .i64 y.n6, .bool y.b1, .bool y.b2, .slice BY my dy] 34
  generalize hbx : w.heap.size = bx at S0
  have hsm := law_small S0 v1 bss hbs
  cases hs1 : decide (lenIts bss ≤ 500) with
  | false =>
    rw [hs1] at hsm
    clear hs1 S0
    go_enter Try.func4, Try.ntmps4
    go_wp2_with fail
    (with_reducible refine hsm.mono ?_)
    clear hsm
    rintro e w2 ⟨rfl, S1⟩
    go_wp2_with fail
    (with_reducible refine (law_awake S1.drop).mono ?_); rintro e w9 ⟨rfl, G9, hG9, S9⟩; go_wp2_with fail; exact hK.out _ _ ⟨rfl, S9.above (hG.trans hG9)⟩
  | true =>
  rw [hs1] at hsm
  clear S0
  by_cases hm0 : lim < 0
  · go_enter Try.func4, Try.ntmps4
    go_wp2_with fail
    (with_reducible refine hsm.mono ?_)
    clear hsm
    rintro e w2 ⟨rfl, S1⟩
    go_wp2_with fail
    (with_reducible refine (law_awake S1.drop).mono ?_); rintro e w9 ⟨rfl, G9, hG9, S9⟩; go_wp2_with fail; exact hK.out _ _ ⟨rfl, S9.above (hG.trans hG9)⟩
  by_cases hm1 : 1048576 < lim
  · go_enter Try.func4, Try.ntmps4
    go_wp2_with fail
    (with_reducible refine hsm.mono ?_)
    clear hsm
    rintro e w2 ⟨rfl, S1⟩
    go_wp2_with fail
    (with_reducible refine (law_awake S1.drop).mono ?_); rintro e w9 ⟨rfl, G9, hG9, S9⟩; go_wp2_with fail; exact hK.out _ _ ⟨rfl, S9.above (hG.trans hG9)⟩
  by_cases hty : 300 < ty.length
  · go_enter Try.func4, Try.ntmps4
    go_wp2_with fail
    (with_reducible refine hsm.mono ?_)
    clear hsm
    rintro e w2 ⟨rfl, S1⟩
    have c2 := S1.cell 2
    go_wp2_with fail
    (with_reducible refine (law_awake S1.drop).mono ?_); rintro e w9 ⟨rfl, G9, hG9, S9⟩; go_wp2_with fail; exact hK.out _ _ ⟨rfl, S9.above (hG.trans hG9)⟩
  go_enter Try.func4, Try.ntmps4
  go_wp2_with fail
  (with_reducible refine hsm.mono ?_)
  clear hsm
  rintro e w2 ⟨rfl, S1⟩
  clear hbx
  have c2 := S1.cell 2
  have hnew := as_new S1 lim (by omega) (by omega)
  clear S1
  go_wp2_with fail
  (with_reducible refine hnew.mono ?_)
  clear hnew c2
  rintro e w3 ⟨p, rfl, S1⟩
  replace hs1 := of_decide_eq_true hs1
  obtain ⟨A, c, rfl, hbl, hbe⟩ := hbs
  have HBE := Lib.hid hbe
  have HS1 := Lib.hid hs1
  clear hbe hs1
  go_wp2_with fail
  clear hm0 hm1
  go_loopw [50] (fun i wr => ∃ (k : Nat) (G : Gnd), k ≤ bss.length ∧ i = .int .i64 k ∧ (Gnd.of w).le G ∧ Sat G wr [asA p lim (asAll lim idle (bss.take k)), blk bx #[.int .i64 y.k, .int .i64 y.s, .slice VY ty.length cy, .bool y.e, .bool y.l, .bool y.a, .int .i64 y.n1, .int .i64 y.n2, .int .i64 y.n3, .int .i64 y.n4, .int .i64 y.n5, .int .i64 y.n6, .bool y.b1, .bool y.b2, .slice BY my dy] 34]) (fun i _ => bss.length - (intOf i).toNat)
  case atStart => exact ⟨0, _, Nat.zero_le _, rfl, hG, S1⟩
  case round =>
    obtain ⟨k, G, hk, rfl, hG, S2⟩ := hrel
    clear S1
    by_cases hlt : k < bss.length
    · have hxk := List.getElem?_eq_getElem hlt
      obtain ⟨a, b, off, rfl, ha, hcl, hok, hs, htl⟩ := HBE.out k bss[k] hxk
      generalize bss[k] = xt at *
      obtain ⟨x, t⟩ := xt
      simp only at hcl hok hs htl hxk
      have hst := asAll_snoc lim idle hxk
      have hbl := asAll_len lim bss idle k
      have htl2 := lenIts_at hxk
      have hok2 := hok
      obtain ⟨⟨V, n, cv, hv⟩, B, m, d, hq⟩ := hok
      obtain ⟨V', cv', hv', -, -, -⟩ := hs.form
      rw [hv] at hv'
      cases hv'
      have hcs : x.cells = #[.int .i64 x.k, .int .i64 x.s, .slice V t.length cv, .bool x.e, .bool x.l, .bool x.a, .int .i64 x.n1, .int .i64 x.n2, .int .i64 x.n3, .int .i64 x.n4, .int .i64 x.n5, .int .i64 x.n6, .bool x.b1, .bool x.b2, .slice B m d] := by unfold ItD.cells; rw [hv, hq]
      have e0 := S2.cellR (cellR_mono hG.ro (hcl 0 (.int .i64 x.k) rfl))
      have e1 := S2.cellR (cellR_mono hG.ro (hcl 1 (.int .i64 x.s) rfl))
      have e2 := S2.cellR (cellR_mono hG.ro (hcl 2 (x.v) rfl))
      have e3 := S2.cellR (cellR_mono hG.ro (hcl 3 (.bool x.e) rfl))
      have e4 := S2.cellR (cellR_mono hG.ro (hcl 4 (.bool x.l) rfl))
      have e5 := S2.cellR (cellR_mono hG.ro (hcl 5 (.bool x.a) rfl))
      have e6 := S2.cellR (cellR_mono hG.ro (hcl 6 (.int .i64 x.n1) rfl))
      have e7 := S2.cellR (cellR_mono hG.ro (hcl 7 (.int .i64 x.n2) rfl))
      have e8 := S2.cellR (cellR_mono hG.ro (hcl 8 (.int .i64 x.n3) rfl))
      have e9 := S2.cellR (cellR_mono hG.ro (hcl 9 (.int .i64 x.n4) rfl))
      have e10 := S2.cellR (cellR_mono hG.ro (hcl 10 (.int .i64 x.n5) rfl))
      have e11 := S2.cellR (cellR_mono hG.ro (hcl 11 (.int .i64 x.n6) rfl))
      have e12 := S2.cellR (cellR_mono hG.ro (hcl 12 (.bool x.b1) rfl))
      have e13 := S2.cellR (cellR_mono hG.ro (hcl 13 (.bool x.b2) rfl))
      have e14 := S2.cellR (cellR_mono hG.ro (hcl 14 (x.q) rfl))
      rw [Nat.add_zero] at e0
      rw [hv] at e2
      rw [hq] at e14
      have hon := as_on ((S2.alloc (.cells #[.int .i64 x.k, .int .i64 x.s, .slice V t.length cv, .bool x.e, .bool x.l, .bool x.a, .int .i64 x.n1, .int .i64 x.n2, .int .i64 x.n3, .int .i64 x.n4, .int .i64 x.n5, .int .i64 x.n6, .bool x.b1, .bool x.b2, .slice B m d] 34))) x t hok2 (hs.mono hG) (by have := HS1.out; have h0 : idle.t.length = 0 := rfl; omega)
      rw [hcs] at hon
      have HST := Lib.hid hst
      clear hcl hs hv hq hcs hst hbl htl2 hok2 hxk htl S2
      go_wp2_with fail
      (with_reducible refine hon.mono ?_)
      clear hon
      clear e0 e1 e2 e3 e4 e5 e6 e7 e8 e9 e10 e11 e12 e13 e14
      rintro e w3 ⟨G2, u, hG2, rfl, -, S3⟩
      rw [← HST.out] at S3
      go_wp2_with fail
      go_roundw
      case rel => exact ⟨k + 1, G2, by omega, by go_num, hG.trans hG2, S3⟩
      case measure => simp [intOf]; omega
    · obtain rfl : k = bss.length := by omega
      rw [List.take_length] at S2
      generalize hst0 : asAll lim idle bss = st at *
      have hb1 := asAll_lens lim bss idle
      rw [hst0] at hb1
      have HL := Lib.hid (show st.t.length ≤ 500 by have h0 : idle.t.length = 0 := rfl; have := HS1.out; omega)
      clear hb1 hst0
      have hwi := as_within S2
      go_wp2_with fail
      (with_reducible refine hwi.mono ?_)
      clear hwi
      rintro e w4 ⟨rfl, S3⟩
      have hwt := as_waiting S3
      go_wp2_with fail
      (with_reducible refine hwt.mono ?_)
      clear hwt S2
      rintro e w5 ⟨rfl, rfl⟩
      have hon := as_on S3 y ty HOK.out (HSY.out.mono hG) (by have := HL.out; omega)
      rw [HCY.out] at hon
      have S3s := S3.swap
      have y0 := S3s.cell 0
      have y1 := S3s.cell 1
      have y2 := S3s.cell 2
      have y3 := S3s.cell 3
      have y4 := S3s.cell 4
      have y5 := S3s.cell 5
      have y6 := S3s.cell 6
      have y7 := S3s.cell 7
      have y8 := S3s.cell 8
      have y9 := S3s.cell 9
      have y10 := S3s.cell 10
      have y11 := S3s.cell 11
      have y12 := S3s.cell 12
      have y13 := S3s.cell 13
      have y14 := S3s.cell 14
      clear S3s
      cases hbad : (asOn lim st y ty).bad with
      | true =>
        obtain ⟨hr1, hr2⟩ := on_bad lim st y ty hbad
        rw [hr1, hr2, hbad] at hon
        clear hbad hr1 hr2 S3
        simp only [if_true] at hon
        go_wp2_with fail
        (with_reducible refine hon.mono ?_)
        clear hon
        clear y0 y1 y2 y3 y4 y5 y6 y7 y8 y9 y10 y11 y12 y13 y14
        rintro e w6 ⟨G2, u, hG2, rfl, hu, S4⟩
        obtain ⟨U, cu, rfl, -, -, -⟩ := hu.form
        have S5 := (S4.alloc (.cells #[.int .i64 (asOn lim st y ty).b.s, .slice U (asOn lim st y ty).b.t.length cu, .bool (asOn lim st y ty).b.e] 41)).newBlk #[.int .i64 101, .bool true] 43
        simp only [World.size_alloc] at S5
        clear S4 hu
        go_upto_region 14 with fail
        refine wp_world S5 fun w7 S6 => ?_
        clear S5
        generalize w6.heap.size + 1 = fa at *
        generalize w6.heap.size = ba at *
        have c0 := S6.cell 0
        have c1 := S6.cell 1
        have S6s := S6.re [2, 0, 1]
        have x0 := S6s.cell 0
        have x1 := S6s.cell 1
        have hG := hG.trans hG2
        clear S6s
        cases hw : st.w with
        | false =>
          have hfo := fault_ok 101 true w7
          go_wp2_with fail
          (with_reducible refine hfo.mono ?_)
          clear hfo
          rintro e w8 ⟨rfl, hb8⟩
          have S7 := (S6.below hb8).swap
          clear S6 hb8 c0 c1 x0 x1
          have hwi := as_within S7
          have hse : (st.s == st.s) = true := by simp
          have hwe : (st.w == st.w) = true := by simp
          clear S7
          go_wp2_with fail
          (with_reducible refine hwi.mono ?_)
          clear hwi
          rintro e w9 ⟨rfl, S8⟩
          have hwt := as_waiting S8
          go_wp2_with fail
          (with_reducible refine hwt.mono ?_)
          clear hwt
          rintro e w10 ⟨rfl, rfl⟩
          go_wp2_with fail
          (with_reducible refine (law_awake S8).mono ?_); rintro e w9 ⟨rfl, G9, hG9, S9⟩; go_wp2_with fail; exact hK.out _ _ ⟨rfl, S9.above (hG.trans hG9)⟩
        | true =>
          by_cases k9 : y.k = 9
          · by_cases ks : y.s = st.s
            · have hn1 : (y.k != 9) = false := by simp [k9]
              have hn2 : (y.s != st.s) = false := by simp [ks]
              have he1 : (y.k == 9) = true := by simp [k9]
              have he2 : (y.s == st.s) = true := by simp [ks]
              clear k9 ks
              have hfo := fault_ok 101 true w7
              go_wp2_with fail
              (with_reducible refine hfo.mono ?_)
              clear hfo
              rintro e w8 ⟨rfl, hb8⟩
              have S7 := (S6.below hb8).swap
              clear S6 hb8 c0 c1 x0 x1
              have hwi := as_within S7
              have hse : (st.s == st.s) = true := by simp
              have hwe : (st.w == st.w) = true := by simp
              clear S7
              go_wp2_with fail
              (with_reducible refine hwi.mono ?_)
              clear hwi
              rintro e w9 ⟨rfl, S8⟩
              have hwt := as_waiting S8
              go_wp2_with fail
              (with_reducible refine hwt.mono ?_)
              clear hwt
              rintro e w10 ⟨rfl, rfl⟩
              go_wp2_with fail
              (with_reducible refine (law_awake S8).mono ?_); rintro e w9 ⟨rfl, G9, hG9, S9⟩; go_wp2_with fail; exact hK.out _ _ ⟨rfl, S9.above (hG.trans hG9)⟩
            · have hn1 : (y.k != 9) = false := by simp [k9]
              have hn2 : (y.s != st.s) = true := by simp [ks]
              have he1 : (y.k == 9) = true := by simp [k9]
              have he2 : (y.s == st.s) = false := by simp [ks]
              clear k9 ks
              have hwr := law_wrong_at S6
              clear S6
              go_wp2_with fail
              (with_reducible refine hwr.mono ?_)
              clear hwr c0 c1 x0 x1
              rintro e w7 ⟨rfl, S6⟩
              have c0 := S6.cell 0
              have c1 := S6.cell 1
              have x0 := c0
              have x1 := c1
              have hfo := fault_ok 101 true w7
              go_wp2_with fail
              (with_reducible refine hfo.mono ?_)
              clear hfo
              rintro e w8 ⟨rfl, hb8⟩
              have S7 := (S6.below hb8).swap
              clear S6 hb8 c0 c1 x0 x1
              have hwi := as_within S7
              have hse : (st.s == st.s) = true := by simp
              have hwe : (st.w == st.w) = true := by simp
              clear S7
              go_wp2_with fail
              (with_reducible refine hwi.mono ?_)
              clear hwi
              rintro e w9 ⟨rfl, S8⟩
              have hwt := as_waiting S8
              go_wp2_with fail
              (with_reducible refine hwt.mono ?_)
              clear hwt
              rintro e w10 ⟨rfl, rfl⟩
              go_wp2_with fail
              (with_reducible refine (law_awake S8).mono ?_); rintro e w9 ⟨rfl, G9, hG9, S9⟩; go_wp2_with fail; exact hK.out _ _ ⟨rfl, S9.above (hG.trans hG9)⟩
          · have hn1 : (y.k != 9) = true := by simp [k9]
            have he1 : (y.k == 9) = false := by simp [k9]
            clear k9
            have hwr := law_wrong_at S6
            clear S6
            go_wp2_with fail
            (with_reducible refine hwr.mono ?_)
            clear hwr c0 c1 x0 x1
            rintro e w7 ⟨rfl, S6⟩
            have c0 := S6.cell 0
            have c1 := S6.cell 1
            have x0 := c0
            have x1 := c1
            have hfo := fault_ok 101 true w7
            go_wp2_with fail
            (with_reducible refine hfo.mono ?_)
            clear hfo
            rintro e w8 ⟨rfl, hb8⟩
            have S7 := (S6.below hb8).swap
            clear S6 hb8 c0 c1 x0 x1
            have hwi := as_within S7
            have hse : (st.s == st.s) = true := by simp
            have hwe : (st.w == st.w) = true := by simp
            clear S7
            go_wp2_with fail
            (with_reducible refine hwi.mono ?_)
            clear hwi
            rintro e w9 ⟨rfl, S8⟩
            have hwt := as_waiting S8
            go_wp2_with fail
            (with_reducible refine hwt.mono ?_)
            clear hwt
            rintro e w10 ⟨rfl, rfl⟩
            go_wp2_with fail
            (with_reducible refine (law_awake S8).mono ?_); rintro e w9 ⟨rfl, G9, hG9, S9⟩; go_wp2_with fail; exact hK.out _ _ ⟨rfl, S9.above (hG.trans hG9)⟩
      | false =>
        have hmay := on_may lim st y ty hbad
        rw [hbad] at hon
        simp only [Bool.false_eq_true, if_false] at hon
        clear hbad S3
        go_wp2_with fail
        (with_reducible refine hon.mono ?_)
        clear hon
        clear y0 y1 y2 y3 y4 y5 y6 y7 y8 y9 y10 y11 y12 y13 y14
        rintro e w6 ⟨G2, u, hG2, rfl, hu, S4⟩
        obtain ⟨U, cu, rfl, -, -, -⟩ := hu.form
        have S5 := (S4.alloc (.cells #[.int .i64 (asOn lim st y ty).b.s, .slice U (asOn lim st y ty).b.t.length cu, .bool (asOn lim st y ty).b.e] 41)).newBlk #[.int .i64 0, .bool false] 43
        simp only [World.size_alloc] at S5
        clear S4 hu
        go_upto_region 14 with fail
        refine wp_world S5 fun w7 S6 => ?_
        clear S5
        generalize w6.heap.size + 1 = fa at *
        generalize w6.heap.size = ba at *
        have c0 := S6.cell 0
        have c1 := S6.cell 1
        have S6s := S6.re [2, 0, 1]
        have x0 := S6s.cell 0
        have x1 := S6s.cell 1
        have hG := hG.trans hG2
        clear S6s
        cases hw : st.w with
        | false =>
          clear hmay
          have hfo := fault_ok 0 false w7
          go_wp2_with fail
          (with_reducible refine hfo.mono ?_)
          clear hfo
          rintro e w8 ⟨rfl, hb8⟩
          have S7 := S6.below hb8
          clear S6 hb8
          go_wp2_with fail
          (with_reducible refine (law_awake S7).mono ?_); rintro e w9 ⟨rfl, G9, hG9, S9⟩; go_wp2_with fail; exact hK.out _ _ ⟨rfl, S9.above (hG.trans hG9)⟩
        | true =>
          obtain ⟨k9, ks⟩ := hmay hw
          have hn1 : (y.k != 9) = false := by simp [k9]
          have hn2 : (y.s != st.s) = false := by simp [ks]
          have he1 : (y.k == 9) = true := by simp [k9]
          have he2 : (y.s == st.s) = true := by simp [ks]
          clear k9 ks hmay
          have hfo := fault_ok 0 false w7
          go_wp2_with fail
          (with_reducible refine hfo.mono ?_)
          clear hfo
          rintro e w8 ⟨rfl, hb8⟩
          have S7 := S6.below hb8
          clear S6 hb8
          go_wp2_with fail
          (with_reducible refine (law_awake S7).mono ?_); rintro e w9 ⟨rfl, G9, hG9, S9⟩; go_wp2_with fail; exact hK.out _ _ ⟨rfl, S9.above (hG.trans hG9)⟩
end Go.Proofs.Ytkjeeogifdmeoaa
