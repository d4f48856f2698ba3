/- The walk of the law BlockCopies. -/
import Derived.Test.YtkjeeogifdmeoaaAw
set_option linter.unusedSimpArgs false
set_option linter.unusedVariables false
namespace Go.Proofs.Ytkjeeogifdmeoaa
open Go.RowKit

/-- Items come, one behind the other. -/
def asAll (lim : Int) (b : BSt) (xs : List (ItD × List UInt8)) : BSt := xs.foldl (fun b x => (asOn lim b x.1 x.2).st) b
theorem asOn_len (lim : Int) (b : BSt) (x : ItD) (t : List UInt8) : (asOn lim b x t).st.t.length ≤ b.t.length + t.length := by
  unfold asOn nextB
  repeat' split
  all_goals simp [idle] <;> omega
theorem asAll_snoc (lim : Int) (b : BSt) {xs : List (ItD × List UInt8)} {k : Nat} {x : ItD} {t : List UInt8} (h : xs[k]? = some (x, t)) : asAll lim b (xs.take (k + 1)) = (asOn lim (asAll lim b (xs.take k)) x t).st := by
  obtain ⟨hi, he⟩ := List.getElem?_eq_some_iff.1 h
  rw [List.take_succ_eq_append_getElem hi, he]
  simp [asAll]
theorem asAll_lens (lim : Int) (xs : List (ItD × List UInt8)) : ∀ b, (asAll lim b xs).t.length ≤ b.t.length + lenIts xs := by
  induction xs with
  | nil => intro b; simp [asAll, lenIts]
  | cons x l ih =>
    intro b
    have h1 := ih (asOn lim b x.1 x.2).st
    have h2 := asOn_len lim b x.1 x.2
    simp only [asAll, List.foldl_cons, lenIts] at h1 ⊢
    omega
theorem asAll_len (lim : Int) (xs : List (ItD × List UInt8)) (b : BSt) (k : Nat) : (asAll lim b (xs.take k)).t.length ≤ b.t.length + lenIts xs := by
  have h1 := asAll_lens lim (xs.take k) b
  have h2 := lenIts_take xs k
  omega
theorem lenIts_at {xs : List (ItD × List UInt8)} {k : Nat} {x : ItD} {t : List UInt8} (h : xs[k]? = some (x, t)) : t.length ≤ lenIts xs := by
  have h1 := lenIts_snoc h
  have h2 := lenIts_take xs (k + 1)
  simp only at h1
  omega
set_option maxHeartbeats 16000000 in
set_option maxRecDepth 100000 in
theorem blockCopies_walk (w : World) (v0 v1 v2 : Value) (h0 : ∃ d, ArgV w (.int .i64) v0 d) (h1 : ∃ d, ArgV w (.sl 128 (Ty.agg [.int .i64, .int .i64, .sl 1 (.int .u8), .bool, .bool, .bool, .int .i64, .int .i64, .int .i64, .int .i64, .int .i64, .int .i64, .bool, .bool, .sl 16 (.agg [.int .i64, .int .i64])])) v1 d) (h2 : ∃ d, ArgV w (.sl 128 (Ty.agg [.int .i64, .int .i64, .sl 1 (.int .u8), .bool, .bool, .bool, .int .i64, .int .i64, .int .i64, .int .i64, .int .i64, .int .i64, .bool, .bool, .sl 16 (.agg [.int .i64, .int .i64])])) v2 d) :
    Calls Try.prog 5 #[v0, v1, v2] w fun e w' => e = .returned (.bool true) ∧ Below w.heap.size w w' := by
  refine calls_any fun K hK => ?_
  obtain ⟨_, h0⟩ := h0
  obtain ⟨lim, rfl, -⟩ := arg_int h0
  obtain ⟨_, h1⟩ := h1
  obtain ⟨l1, h1⟩ := arg_sl h1
  obtain ⟨bss, hbs⟩ := items_of h1
  obtain ⟨_, h2⟩ := h2
  obtain ⟨l2, h2⟩ := arg_sl h2
  obtain ⟨css, hcs⟩ := items_of h2
  clear h0 h1 h2 l1 l2
  have S0 := Sat.start w
  change RIts (Gnd.of w).ro v1 bss at hbs
  change RIts (Gnd.of w).ro v2 css at hcs
  have hG := Gnd.le.rfl' (G := Gnd.of w)
  by_cases hm0 : lim < 0
  · have hnew := as_new_not lim w (.inl hm0)
    go_enter Try.func5, Try.ntmps5
    go_wp2_with fail
    (with_reducible refine hnew.mono ?_)
    clear hnew
    rintro e w1 ⟨rfl, rfl⟩
    go_wp2_with fail
    (with_reducible refine (law_awake S0).mono ?_); rintro e w9 ⟨rfl, G9, hG9, S9⟩; go_wp2_with fail; exact hK.out _ _ ⟨rfl, S9.above (hG.trans hG9)⟩
  by_cases hm1 : 1048576 < lim
  · have hnew := as_new_not lim w (.inr hm1)
    go_enter Try.func5, Try.ntmps5
    go_wp2_with fail
    (with_reducible refine hnew.mono ?_)
    clear hnew
    rintro e w1 ⟨rfl, rfl⟩
    go_wp2_with fail
    (with_reducible refine (law_awake S0).mono ?_); rintro e w9 ⟨rfl, G9, hG9, S9⟩; go_wp2_with fail; exact hK.out _ _ ⟨rfl, S9.above (hG.trans hG9)⟩
  have hnew := as_new S0 lim (by omega) (by omega)
  clear S0
  go_enter Try.func5, Try.ntmps5
  go_wp2_with fail
  (with_reducible refine hnew.mono ?_)
  clear hnew
  rintro e w1 ⟨p, rfl, S1⟩
  have hsm := law_small S1 v1 bss hbs
  cases hs1 : decide (lenIts bss ≤ 500) with
  | false =>
    rw [hs1] at hsm
    clear hs1 S1
    go_wp2_with fail
    (with_reducible refine hsm.mono ?_)
    clear hsm
    rintro e w2 ⟨rfl, S1⟩
    go_wp2_with fail
    (with_reducible refine (law_awake S1.drop).mono ?_); rintro e w9 ⟨rfl, G9, hG9, S9⟩; go_wp2_with fail; exact hK.out _ _ ⟨rfl, S9.above (hG.trans hG9)⟩
  | true =>
  rw [hs1] at hsm
  clear S1
  go_wp2_with fail
  (with_reducible refine hsm.mono ?_)
  clear hsm
  rintro e w2 ⟨rfl, S1⟩
  have hsm := law_small S1 v2 css hcs
  cases hs2 : decide (lenIts css ≤ 500) with
  | false =>
    rw [hs2] at hsm
    clear hs2 S1
    go_wp2_with fail
    (with_reducible refine hsm.mono ?_)
    clear hsm
    rintro e w2 ⟨rfl, S1⟩
    go_wp2_with fail
    (with_reducible refine (law_awake S1.drop).mono ?_); rintro e w9 ⟨rfl, G9, hG9, S9⟩; go_wp2_with fail; exact hK.out _ _ ⟨rfl, S9.above (hG.trans hG9)⟩
  | true =>
  rw [hs2] at hsm
  clear S1
  go_wp2_with fail
  (with_reducible refine hsm.mono ?_)
  clear hsm
  rintro e w3 ⟨rfl, S1⟩
  replace hs1 := of_decide_eq_true hs1
  replace hs2 := of_decide_eq_true hs2
  obtain ⟨A, c, rfl, hbl, hbe⟩ := hbs
  obtain ⟨B, cb, rfl, hcl, hce⟩ := hcs
  have HBE := Lib.hid hbe
  have HCE := Lib.hid hce
  have HS1 := Lib.hid hs1
  have HS2 := Lib.hid hs2
  clear hbe hce hs1 hs2
  go_wp2_with fail
  clear hm0 hm1
  go_loopw [58] (fun i wr => ∃ (k : Nat) (G : Gnd), k ≤ bss.length ∧ i = .int .i64 k ∧ (Gnd.of w).le G ∧ Sat G wr [asA p lim (asAll lim idle (bss.take k))]) (fun i _ => bss.length - (intOf i).toNat)
  case atStart => exact ⟨0, _, Nat.zero_le _, rfl, hG, S1⟩
  case round =>
    obtain ⟨k, G, hk, rfl, hG, S2⟩ := hrel
    clear S1
    by_cases hlt : k < bss.length
    · have hxk := List.getElem?_eq_getElem hlt
      obtain ⟨a, b, off, rfl, ha, hcl, hok, hs, htl⟩ := HBE.out k bss[k] hxk
      generalize bss[k] = xt at *
      obtain ⟨x, t⟩ := xt
      simp only at hcl hok hs htl hxk
      have hst := asAll_snoc lim idle hxk
      have hbl := asAll_len lim bss idle k
      have htl2 := lenIts_at hxk
      have hok2 := hok
      obtain ⟨⟨V, n, cv, hv⟩, B, m, d, hq⟩ := hok
      obtain ⟨V', cv', hv', -, -, -⟩ := hs.form
      rw [hv] at hv'
      cases hv'
      have hcs : x.cells = #[.int .i64 x.k, .int .i64 x.s, .slice V t.length cv, .bool x.e, .bool x.l, .bool x.a, .int .i64 x.n1, .int .i64 x.n2, .int .i64 x.n3, .int .i64 x.n4, .int .i64 x.n5, .int .i64 x.n6, .bool x.b1, .bool x.b2, .slice B m d] := by unfold ItD.cells; rw [hv, hq]
      have e0 := S2.cellR (cellR_mono hG.ro (hcl 0 (.int .i64 x.k) rfl))
      have e1 := S2.cellR (cellR_mono hG.ro (hcl 1 (.int .i64 x.s) rfl))
      have e2 := S2.cellR (cellR_mono hG.ro (hcl 2 (x.v) rfl))
      have e3 := S2.cellR (cellR_mono hG.ro (hcl 3 (.bool x.e) rfl))
      have e4 := S2.cellR (cellR_mono hG.ro (hcl 4 (.bool x.l) rfl))
      have e5 := S2.cellR (cellR_mono hG.ro (hcl 5 (.bool x.a) rfl))
      have e6 := S2.cellR (cellR_mono hG.ro (hcl 6 (.int .i64 x.n1) rfl))
      have e7 := S2.cellR (cellR_mono hG.ro (hcl 7 (.int .i64 x.n2) rfl))
      have e8 := S2.cellR (cellR_mono hG.ro (hcl 8 (.int .i64 x.n3) rfl))
      have e9 := S2.cellR (cellR_mono hG.ro (hcl 9 (.int .i64 x.n4) rfl))
      have e10 := S2.cellR (cellR_mono hG.ro (hcl 10 (.int .i64 x.n5) rfl))
      have e11 := S2.cellR (cellR_mono hG.ro (hcl 11 (.int .i64 x.n6) rfl))
      have e12 := S2.cellR (cellR_mono hG.ro (hcl 12 (.bool x.b1) rfl))
      have e13 := S2.cellR (cellR_mono hG.ro (hcl 13 (.bool x.b2) rfl))
      have e14 := S2.cellR (cellR_mono hG.ro (hcl 14 (x.q) rfl))
      rw [Nat.add_zero] at e0
      rw [hv] at e2
      rw [hq] at e14
      have hon := as_on ((S2.alloc (.cells #[.int .i64 x.k, .int .i64 x.s, .slice V t.length cv, .bool x.e, .bool x.l, .bool x.a, .int .i64 x.n1, .int .i64 x.n2, .int .i64 x.n3, .int .i64 x.n4, .int .i64 x.n5, .int .i64 x.n6, .bool x.b1, .bool x.b2, .slice B m d] 34))) x t hok2 (hs.mono hG) (by have := HS1.out; have h0 : idle.t.length = 0 := rfl; omega)
      rw [hcs] at hon
      have HST := Lib.hid hst
      clear hcl hs hv hq hcs hst hbl htl2 hok2 hxk htl S2
      go_wp2_with fail
      (with_reducible refine hon.mono ?_)
      clear hon
      clear e0 e1 e2 e3 e4 e5 e6 e7 e8 e9 e10 e11 e12 e13 e14
      rintro e w3 ⟨G2, u, hG2, rfl, -, S3⟩
      rw [← HST.out] at S3
      go_wp2_with fail
      go_roundw
      case rel => exact ⟨k + 1, G2, by omega, by go_num, hG.trans hG2, S3⟩
      case measure => simp [intOf]; omega
    · obtain rfl : k = bss.length := by omega
      rw [List.take_length] at S2
      have hb1 := asAll_lens lim bss idle
      have hS1 := HS1.out
      replace hb1 : (asAll lim idle bss).t.length ≤ 500 := by have h0 : idle.t.length = 0 := rfl; omega
      generalize asAll lim idle bss = st at *
      have hcp := as_copy S2 (by omega)
      have HL := Lib.hid hb1
      clear hb1 S2 hS1
      go_wp2_with fail
      (with_reducible refine hcp.mono ?_)
      clear hcp
      rintro e w3 ⟨q, G3, hG3, rfl, S3⟩
      have hG := hG.trans hG3
      have hwi := as_within S3.swap
      go_wp2_with fail
      (with_reducible refine hwi.mono ?_)
      clear hwi
      rintro e w4 ⟨rfl, S4⟩
      have hwt := as_waiting S4
      go_wp2_with fail
      (with_reducible refine hwt.mono ?_)
      clear hwt
      rintro e w5 ⟨rfl, rfl⟩
      have S5 := S4.swap
      clear S3 S4
      go_wp2_with fail
      go_loopw [79] (fun i wr => ∃ (k : Nat) (G : Gnd), k ≤ css.length ∧ i = .int .i64 k ∧ (Gnd.of w).le G ∧ Sat G wr [asA q lim (asAll lim st (css.take k)), asA p lim st]) (fun i _ => css.length - (intOf i).toNat)
      case atStart => exact ⟨0, _, Nat.zero_le _, rfl, hG, S5⟩
      case round =>
        obtain ⟨k, G, hk, rfl, hG, S2⟩ := hrel
        clear S5
        by_cases hlt : k < css.length
        · have hxk := List.getElem?_eq_getElem hlt
          obtain ⟨a, b, off, rfl, ha, hcl, hok, hs, htl⟩ := HCE.out k css[k] hxk
          generalize css[k] = xt at *
          obtain ⟨x, t⟩ := xt
          simp only at hcl hok hs htl hxk
          have hst := asAll_snoc lim st hxk
          have hbl := asAll_len lim css st k
          have htl2 := lenIts_at hxk
          have hok2 := hok
          obtain ⟨⟨V, n, cv, hv⟩, B, m, d, hq⟩ := hok
          obtain ⟨V', cv', hv', -, -, -⟩ := hs.form
          rw [hv] at hv'
          cases hv'
          have hcs : x.cells = #[.int .i64 x.k, .int .i64 x.s, .slice V t.length cv, .bool x.e, .bool x.l, .bool x.a, .int .i64 x.n1, .int .i64 x.n2, .int .i64 x.n3, .int .i64 x.n4, .int .i64 x.n5, .int .i64 x.n6, .bool x.b1, .bool x.b2, .slice B m d] := by unfold ItD.cells; rw [hv, hq]
          have e0 := S2.cellR (cellR_mono hG.ro (hcl 0 (.int .i64 x.k) rfl))
          have e1 := S2.cellR (cellR_mono hG.ro (hcl 1 (.int .i64 x.s) rfl))
          have e2 := S2.cellR (cellR_mono hG.ro (hcl 2 (x.v) rfl))
          have e3 := S2.cellR (cellR_mono hG.ro (hcl 3 (.bool x.e) rfl))
          have e4 := S2.cellR (cellR_mono hG.ro (hcl 4 (.bool x.l) rfl))
          have e5 := S2.cellR (cellR_mono hG.ro (hcl 5 (.bool x.a) rfl))
          have e6 := S2.cellR (cellR_mono hG.ro (hcl 6 (.int .i64 x.n1) rfl))
          have e7 := S2.cellR (cellR_mono hG.ro (hcl 7 (.int .i64 x.n2) rfl))
          have e8 := S2.cellR (cellR_mono hG.ro (hcl 8 (.int .i64 x.n3) rfl))
          have e9 := S2.cellR (cellR_mono hG.ro (hcl 9 (.int .i64 x.n4) rfl))
          have e10 := S2.cellR (cellR_mono hG.ro (hcl 10 (.int .i64 x.n5) rfl))
          have e11 := S2.cellR (cellR_mono hG.ro (hcl 11 (.int .i64 x.n6) rfl))
          have e12 := S2.cellR (cellR_mono hG.ro (hcl 12 (.bool x.b1) rfl))
          have e13 := S2.cellR (cellR_mono hG.ro (hcl 13 (.bool x.b2) rfl))
          have e14 := S2.cellR (cellR_mono hG.ro (hcl 14 (x.q) rfl))
          rw [Nat.add_zero] at e0
          rw [hv] at e2
          rw [hq] at e14
          have hon := as_on ((S2.alloc (.cells #[.int .i64 x.k, .int .i64 x.s, .slice V t.length cv, .bool x.e, .bool x.l, .bool x.a, .int .i64 x.n1, .int .i64 x.n2, .int .i64 x.n3, .int .i64 x.n4, .int .i64 x.n5, .int .i64 x.n6, .bool x.b1, .bool x.b2, .slice B m d] 34))) x t hok2 (hs.mono hG) (by have := HS2.out; have := HL.out; omega)
          rw [hcs] at hon
          have HST := Lib.hid hst
          clear hcl hs hv hq hcs hst hbl htl2 hok2 hxk htl S2
          go_wp2_with fail
          (with_reducible refine hon.mono ?_)
          clear hon
          clear e0 e1 e2 e3 e4 e5 e6 e7 e8 e9 e10 e11 e12 e13 e14
          rintro e w3 ⟨G2, u, hG2, rfl, -, S3⟩
          rw [← HST.out] at S3
          go_wp2_with fail
          go_roundw
          case rel => exact ⟨k + 1, G2, by omega, by go_num, hG.trans hG2, S3⟩
          case measure => simp [intOf]; omega
        · obtain rfl : k = css.length := by omega
          rw [List.take_length] at S2
          have hwi := as_within S2.swap
          go_wp2_with fail
          (with_reducible refine hwi.mono ?_)
          clear hwi
          rintro e w5 ⟨rfl, S3⟩
          have hwt := as_waiting S3
          have hne : (st.w != st.w) = false := by simp
          go_wp2_with fail
          (with_reducible refine hwt.mono ?_)
          clear hwt
          rintro e w6 ⟨rfl, rfl⟩
          clear S2
          go_wp2_with fail
          go_loopw [108] (fun i wr => ∃ (k : Nat) (G : Gnd), k ≤ css.length ∧ i = .int .i64 k ∧ (Gnd.of w).le G ∧ Sat G wr [asA p lim (asAll lim st (css.take k)), asA q lim (asAll lim st css)]) (fun i _ => css.length - (intOf i).toNat)
          case atStart => exact ⟨0, _, Nat.zero_le _, rfl, hG, S3⟩
          case round =>
            obtain ⟨k, G, hk, rfl, hG, S2⟩ := hrel
            clear S3
            by_cases hlt : k < css.length
            · have hxk := List.getElem?_eq_getElem hlt
              obtain ⟨a, b, off, rfl, ha, hcl, hok, hs, htl⟩ := HCE.out k css[k] hxk
              generalize css[k] = xt at *
              obtain ⟨x, t⟩ := xt
              simp only at hcl hok hs htl hxk
              have hst := asAll_snoc lim st hxk
              have hbl := asAll_len lim css st k
              have htl2 := lenIts_at hxk
              have hok2 := hok
              obtain ⟨⟨V, n, cv, hv⟩, B, m, d, hq⟩ := hok
              obtain ⟨V', cv', hv', -, -, -⟩ := hs.form
              rw [hv] at hv'
              cases hv'
              have hcs : x.cells = #[.int .i64 x.k, .int .i64 x.s, .slice V t.length cv, .bool x.e, .bool x.l, .bool x.a, .int .i64 x.n1, .int .i64 x.n2, .int .i64 x.n3, .int .i64 x.n4, .int .i64 x.n5, .int .i64 x.n6, .bool x.b1, .bool x.b2, .slice B m d] := by unfold ItD.cells; rw [hv, hq]
              have e0 := S2.cellR (cellR_mono hG.ro (hcl 0 (.int .i64 x.k) rfl))
              have e1 := S2.cellR (cellR_mono hG.ro (hcl 1 (.int .i64 x.s) rfl))
              have e2 := S2.cellR (cellR_mono hG.ro (hcl 2 (x.v) rfl))
              have e3 := S2.cellR (cellR_mono hG.ro (hcl 3 (.bool x.e) rfl))
              have e4 := S2.cellR (cellR_mono hG.ro (hcl 4 (.bool x.l) rfl))
              have e5 := S2.cellR (cellR_mono hG.ro (hcl 5 (.bool x.a) rfl))
              have e6 := S2.cellR (cellR_mono hG.ro (hcl 6 (.int .i64 x.n1) rfl))
              have e7 := S2.cellR (cellR_mono hG.ro (hcl 7 (.int .i64 x.n2) rfl))
              have e8 := S2.cellR (cellR_mono hG.ro (hcl 8 (.int .i64 x.n3) rfl))
              have e9 := S2.cellR (cellR_mono hG.ro (hcl 9 (.int .i64 x.n4) rfl))
              have e10 := S2.cellR (cellR_mono hG.ro (hcl 10 (.int .i64 x.n5) rfl))
              have e11 := S2.cellR (cellR_mono hG.ro (hcl 11 (.int .i64 x.n6) rfl))
              have e12 := S2.cellR (cellR_mono hG.ro (hcl 12 (.bool x.b1) rfl))
              have e13 := S2.cellR (cellR_mono hG.ro (hcl 13 (.bool x.b2) rfl))
              have e14 := S2.cellR (cellR_mono hG.ro (hcl 14 (x.q) rfl))
              rw [Nat.add_zero] at e0
              rw [hv] at e2
              rw [hq] at e14
              have hon := as_on ((S2.alloc (.cells #[.int .i64 x.k, .int .i64 x.s, .slice V t.length cv, .bool x.e, .bool x.l, .bool x.a, .int .i64 x.n1, .int .i64 x.n2, .int .i64 x.n3, .int .i64 x.n4, .int .i64 x.n5, .int .i64 x.n6, .bool x.b1, .bool x.b2, .slice B m d] 34))) x t hok2 (hs.mono hG) (by have := HS2.out; have := HL.out; omega)
              rw [hcs] at hon
              have HST := Lib.hid hst
              clear hcl hs hv hq hcs hst hbl htl2 hok2 hxk htl S2
              go_wp2_with fail
              (with_reducible refine hon.mono ?_)
              clear hon
              clear e0 e1 e2 e3 e4 e5 e6 e7 e8 e9 e10 e11 e12 e13 e14
              rintro e w3 ⟨G2, u, hG2, rfl, -, S3⟩
              rw [← HST.out] at S3
              go_wp2_with fail
              go_roundw
              case rel => exact ⟨k + 1, G2, by omega, by go_num, hG.trans hG2, S3⟩
              case measure => simp [intOf]; omega
            · obtain rfl : k = css.length := by omega
              rw [List.take_length] at S2
              generalize asAll lim st css = s2 at *
              have hwt := as_waiting S2
              go_wp2_with fail
              (with_reducible refine hwt.mono ?_)
              clear hwt
              rintro e w7 ⟨rfl, rfl⟩
              have hwt := as_waiting S2.swap
              go_wp2_with fail
              (with_reducible refine hwt.mono ?_)
              clear hwt
              rintro e w7 ⟨rfl, rfl⟩
              go_wp2_with fail
              (with_reducible refine (law_awake S2.drop.drop).mono ?_); rintro e w9 ⟨rfl, G9, hG9, S9⟩; go_wp2_with fail; exact hK.out _ _ ⟨rfl, S9.above (hG.trans hG9)⟩
end Go.Proofs.Ytkjeeogifdmeoaa
