/- The walk of the law ReasmCopies. -/
import Derived.Test.YtjaikmkfpkooiaaAw
set_option linter.unusedSimpArgs false
set_option linter.unusedVariables false
namespace Go.Proofs.Ytjaikmkfpkooiaa
open Go.RowKit

/-- Chunks come, one behind the other. -/
def rmAll (most : Int) (st : List UInt8 × Bool) (bss : List (List UInt8)) : List UInt8 × Bool := bss.foldl (rmFeed most) st
theorem rmAll_snoc (most : Int) (st : List UInt8 × Bool) (bss : List (List UInt8)) (b : List UInt8) : rmAll most st (bss ++ [b]) = rmFeed most (rmAll most st bss) b := by simp [rmAll]
theorem rmAll_len (most : Int) (bss : List (List UInt8)) : ∀ st, (rmAll most st bss).1.length ≤ st.1.length + lenAll bss := by
  induction bss with
  | nil => intro st; simp [rmAll, lenAll]
  | cons b l ih =>
    intro st
    have h1 := ih (rmFeed most st b)
    have h2 := feed_len most st b
    simp only [rmAll, List.foldl_cons, lenAll] at h1 ⊢
    omega
theorem rm_feed_st {G : Gnd} {w : World} {l : List Asrt} {r : Nat} {most : Int} {st : List UInt8 × Bool} (H : Sat G w (rmA r most st.1 st.2 :: l)) (v : Value) (b : List UInt8) (hb : SlB (cellR G.ro) v b) (hl : st.1.length + b.length ≤ 1000000000) :
    Calls Try.prog 10 #[.pointer (some ⟨r, 0, none⟩), v] w fun e w' => ∃ G' x y, G.le G' ∧ Sat G' w' (rmA r most (rmFeed most st b).1 (rmFeed most st b).2 :: l) ∧ FeedRes G'.ro most st.1 st.2 b e ∧ e = .returned (.tuple #[x, y]) :=
  (rm_feed H v b hb hl).mono fun e w' h => by
    obtain ⟨G', h1, h2, h3⟩ := h
    have h4 : ∃ x y, e = .returned (.tuple #[x, y]) := by
      rcases h3 with ⟨-, rfl⟩ | ⟨-, K, -, ⟨-, v1, rfl, -⟩ | ⟨-, rfl⟩⟩
      · exact ⟨_, _, rfl⟩
      · exact ⟨_, _, rfl⟩
      · exact ⟨_, _, rfl⟩
    obtain ⟨x, y, h4⟩ := h4
    exact ⟨G', x, y, h1, h2, h3, h4⟩
set_option maxHeartbeats 4000000 in
set_option maxRecDepth 100000 in
theorem reasmCopies_walk (w : World) (v0 v1 v2 : Value) (h0 : ∃ d, ArgV w (.int .i64) v0 d) (h1 : ∃ d, ArgV w (.sl 24 (.sl 1 (.int .u8))) v1 d) (h2 : ∃ d, ArgV w (.sl 24 (.sl 1 (.int .u8))) v2 d) :
    Calls Try.prog 5 #[v0, v1, v2] w fun e w' => e = .returned (.bool true) ∧ Below w.heap.size w w' := by
  refine calls_any fun K hK => ?_
  obtain ⟨_, h0⟩ := h0
  obtain ⟨most, rfl, -⟩ := arg_int h0
  obtain ⟨_, h1⟩ := h1
  obtain ⟨l1, h1⟩ := arg_sl h1
  obtain ⟨bss, hbs⟩ := chunks_of h1
  obtain ⟨_, h2⟩ := h2
  obtain ⟨l2, h2⟩ := arg_sl h2
  obtain ⟨css, hcs⟩ := chunks_of h2
  clear h0 h1 h2 l1 l2
  have S0 := Sat.start w
  change RBs (Gnd.of w).ro v1 bss at hbs
  change RBs (Gnd.of w).ro v2 css at hcs
  have hG := Gnd.le.rfl' (G := Gnd.of w)
  by_cases hm0 : most < 0
  · have hnew := rm_new_not most w (.inl hm0)
    go_enter Try.func5, Try.ntmps5
    go_wp2_with fail
    (with_reducible refine hnew.mono ?_)
    clear hnew
    rintro e w1 ⟨rfl, rfl⟩
    go_wp2_with fail
    (with_reducible refine (law_awake _).mono ?_); rintro e w9 ⟨rfl, hb9⟩; go_wp2_with fail; exact hK.out _ _ ⟨rfl, ((S0).below hb9).above hG⟩
  by_cases hm1 : 16777215 < most
  · have hnew := rm_new_not most w (.inr hm1)
    have hz : decide (most ≥ 16777216) = true := decide_eq_true (by omega)
    go_enter Try.func5, Try.ntmps5
    go_wp2_with fail
    (with_reducible refine hnew.mono ?_)
    clear hnew
    rintro e w1 ⟨rfl, rfl⟩
    go_wp2_with fail
    (with_reducible refine (law_awake _).mono ?_); rintro e w9 ⟨rfl, hb9⟩; go_wp2_with fail; exact hK.out _ _ ⟨rfl, ((S0).below hb9).above hG⟩
  have hz : decide (most ≥ 16777216) = false := decide_eq_false (by omega)
  have hnew := rm_new S0 most (by omega) (by omega)
  clear S0
  cases hs1 : decide (lenAll bss ≤ 500) with
  | false =>
    go_enter Try.func5, Try.ntmps5
    go_wp2_with fail
    (with_reducible refine hnew.mono ?_)
    clear hnew
    rintro e w1 ⟨r, rfl, S1⟩
    have hsm := law_small S1 v1 bss hbs
    rw [hs1] at hsm
    go_wp2_with fail
    (with_reducible refine hsm.mono ?_)
    clear hsm
    rintro e w2 ⟨rfl, rfl⟩
    go_wp2_with fail
    (with_reducible refine (law_awake _).mono ?_); rintro e w9 ⟨rfl, hb9⟩; go_wp2_with fail; exact hK.out _ _ ⟨rfl, ((S1.drop).below hb9).above hG⟩
  | true =>
  cases hs2 : decide (lenAll css ≤ 500) with
  | false =>
    go_enter Try.func5, Try.ntmps5
    go_wp2_with fail
    (with_reducible refine hnew.mono ?_)
    clear hnew
    rintro e w1 ⟨r, rfl, S1⟩
    have hsm := law_small S1 v1 bss hbs
    have hsn := law_small S1 v2 css hcs
    rw [hs1] at hsm
    rw [hs2] at hsn
    go_wp2_with fail
    (with_reducible refine hsm.mono ?_)
    clear hsm
    rintro e w2 ⟨rfl, rfl⟩
    go_wp2_with fail
    (with_reducible refine hsn.mono ?_)
    clear hsn
    rintro e w2 ⟨rfl, rfl⟩
    go_wp2_with fail
    (with_reducible refine (law_awake _).mono ?_); rintro e w9 ⟨rfl, hb9⟩; go_wp2_with fail; exact hK.out _ _ ⟨rfl, ((S1.drop).below hb9).above hG⟩
  | true =>
    go_enter Try.func5, Try.ntmps5
    go_wp2_with fail
    (with_reducible refine hnew.mono ?_)
    clear hnew
    rintro e w1 ⟨r, rfl, S1⟩
    have hsm := law_small S1 v1 bss hbs
    have hsn := law_small S1 v2 css hcs
    rw [hs1] at hsm
    rw [hs2] at hsn
    go_wp2_with fail
    (with_reducible refine hsm.mono ?_)
    clear hsm
    rintro e w2 ⟨rfl, rfl⟩
    go_wp2_with fail
    (with_reducible refine hsn.mono ?_)
    clear hsn
    rintro e w2 ⟨rfl, rfl⟩
    replace hs1 := of_decide_eq_true hs1
    replace hs2 := of_decide_eq_true hs2
    obtain ⟨A, c, rfl, hbl, hbe⟩ := hbs
    obtain ⟨B, cb, rfl, hcl, hce⟩ := hcs
    have HBE := Lib.hid hbe
    have HCE := Lib.hid hce
    have HS1 := Lib.hid hs1
    have HS2 := Lib.hid hs2
    clear hbe hce hs1 hs2 hz
    go_wp2_with fail
    clear hm0 hm1
    go_loopw [65] (fun i wr => ∃ (k : Nat) (G : Gnd), k ≤ bss.length ∧ i = .int .i64 k ∧ (Gnd.of w).le G ∧ Sat G wr [rmA r most (rmAll most ([], false) (bss.take k)).1 (rmAll most ([], false) (bss.take k)).2]) (fun i _ => bss.length - (intOf i).toNat)
    case atStart => exact ⟨0, _, Nat.zero_le _, rfl, hG, S1⟩
    case round =>
      obtain ⟨k, G, hk, rfl, hG, S2⟩ := hrel
      clear S1
      by_cases hlt : k < bss.length
      · obtain ⟨a, u, rfl, hu1, hu2, -⟩ := HBE.out k bss[k] (List.getElem?_eq_getElem hlt)
        obtain ⟨X, cx, rfl, -, -, -⟩ := hu2.form
        have hc := S2.cellR (cellR_mono hG.ro hu1)
        have hst : rmAll most ([], false) (bss.take (k + 1)) = rmFeed most (rmAll most ([], false) (bss.take k)) bss[k] := by rw [List.take_succ_eq_append_getElem hlt, rmAll_snoc]
        have hb1 := rmAll_len most (bss.take k) ([], false)
        have hb2 := lenAll_take bss k
        have hb3 : (bss[k]).length ≤ lenAll bss := by
          have := lenAll_take bss (k + 1)
          rw [List.take_succ_eq_append_getElem hlt, lenAll_append] at this
          simp only [lenAll] at this
          omega
        have hfd := rm_feed_st S2 _ bss[k] (hu2.mono hG) (by have := HS1.out; simp only [List.length_nil] at hb1; omega)
        have HST := Lib.hid hst
        clear hst hb1 hb2 hb3 hu1 hu2 S2
        go_wp2_with fail
        (with_reducible refine hfd.mono ?_)
        clear hfd hc
        rintro e w3 ⟨G2, x, y, hG2, S3, -, rfl⟩
        go_wp2_with fail
        go_roundw
        case rel => exact ⟨k + 1, G2, by omega, by go_num, hG.trans hG2, by rw [HST.out]; exact S3⟩
        case measure => simp [intOf]; omega
      · obtain rfl : k = bss.length := by omega
        rw [List.take_length] at S2
        have hb1 := rmAll_len most bss ([], false)
        have hS1 := HS1.out
        replace hb1 : (rmAll most ([], false) bss).1.length ≤ 500 := by simp only [List.length_nil] at hb1; omega
        generalize rmAll most ([], false) bss = st at *
        have hcp := rm_copy S2 (by omega)
        have HL := Lib.hid hb1
        clear hb1 S2 hS1
        go_wp2_with fail
        (with_reducible refine hcp.mono ?_)
        clear hcp
        rintro e w3 ⟨G3, q, hG3, rfl, S3⟩
        have hG := hG.trans hG3
        have hwt := rm_waiting S3.swap
        have hdd := rm_dead S3.swap
        go_wp2_with fail
        (with_reducible refine hwt.mono ?_)
        clear hwt
        rintro e w4 ⟨rfl, rfl⟩
        go_wp2_with fail
        (with_reducible refine hdd.mono ?_)
        clear hdd
        rintro e w4 ⟨rfl, rfl⟩
        go_wp2_with fail
        go_loopw [83] (fun i wr => ∃ (k : Nat) (G : Gnd), k ≤ css.length ∧ i = .int .i64 k ∧ (Gnd.of w).le G ∧ Sat G wr [rmA q most (rmAll most st (css.take k)).1 (rmAll most st (css.take k)).2, rmA r most st.1 st.2]) (fun i _ => css.length - (intOf i).toNat)
        case atStart => exact ⟨0, _, Nat.zero_le _, rfl, hG, S3⟩
        case round =>
          obtain ⟨k, G, hk, rfl, hG, S5⟩ := hrel
          clear S3
          by_cases hlt : k < css.length
          · obtain ⟨a, u, rfl, hu1, hu2, -⟩ := HCE.out k css[k] (List.getElem?_eq_getElem hlt)
            obtain ⟨X, cx, rfl, -, -, -⟩ := hu2.form
            have hc := S5.cellR (cellR_mono hG.ro hu1)
            have hst : rmAll most st (css.take (k + 1)) = rmFeed most (rmAll most st (css.take k)) css[k] := by rw [List.take_succ_eq_append_getElem hlt, rmAll_snoc]
            have hb1 := rmAll_len most (css.take k) st
            have hb2 := lenAll_take css k
            have hb3 : (css[k]).length ≤ lenAll css := by
              have := lenAll_take css (k + 1)
              rw [List.take_succ_eq_append_getElem hlt, lenAll_append] at this
              simp only [lenAll] at this
              omega
            have hfd := rm_feed_st S5 _ css[k] (hu2.mono hG) (by have := HS2.out; have := HL.out; omega)
            have HST := Lib.hid hst
            clear hst hb1 hb2 hb3 hu1 hu2 S5
            go_wp2_with fail
            (with_reducible refine hfd.mono ?_)
            clear hfd hc
            rintro e w3 ⟨G2, x, y, hG2, S6, -, rfl⟩
            go_wp2_with fail
            go_roundw
            case rel => exact ⟨k + 1, G2, by omega, by go_num, hG.trans hG2, by rw [HST.out]; exact S6⟩
            case measure => simp [intOf]; omega
          · obtain rfl : k = css.length := by omega
            rw [List.take_length] at S5
            have hwt := rm_waiting S5.swap
            have hdd := rm_dead S5.swap
            go_wp2_with fail
            (with_reducible refine hwt.mono ?_)
            clear hwt
            rintro e w4 ⟨rfl, rfl⟩
            go_wp2_with fail
            (with_reducible refine hdd.mono ?_)
            clear hdd
            rintro e w4 ⟨rfl, rfl⟩
            have S6 := S5.swap
            obtain ⟨t, ht⟩ : ∃ t, rmAll most st css = t := ⟨_, rfl⟩
            rw [ht] at S6
            have HT := Lib.hid ht
            clear S5 ht
            go_wp2_with fail
            go_loopw [103] (fun i wr => ∃ (k : Nat) (G : Gnd), k ≤ css.length ∧ i = .int .i64 k ∧ (Gnd.of w).le G ∧ Sat G wr [rmA r most (rmAll most st (css.take k)).1 (rmAll most st (css.take k)).2, rmA q most t.1 t.2]) (fun i _ => css.length - (intOf i).toNat)
            case atStart => exact ⟨0, _, Nat.zero_le _, rfl, hG, S6⟩
            case round =>
              obtain ⟨k, G, hk, rfl, hG, S5⟩ := hrel
              clear S6
              by_cases hlt : k < css.length
              · obtain ⟨a, u, rfl, hu1, hu2, -⟩ := HCE.out k css[k] (List.getElem?_eq_getElem hlt)
                obtain ⟨X, cx, rfl, -, -, -⟩ := hu2.form
                have hc := S5.cellR (cellR_mono hG.ro hu1)
                have hst : rmAll most st (css.take (k + 1)) = rmFeed most (rmAll most st (css.take k)) css[k] := by rw [List.take_succ_eq_append_getElem hlt, rmAll_snoc]
                have hb1 := rmAll_len most (css.take k) st
                have hb2 := lenAll_take css k
                have hb3 : (css[k]).length ≤ lenAll css := by
                  have := lenAll_take css (k + 1)
                  rw [List.take_succ_eq_append_getElem hlt, lenAll_append] at this
                  simp only [lenAll] at this
                  omega
                have hfd := rm_feed_st S5 _ css[k] (hu2.mono hG) (by have := HS2.out; have := HL.out; omega)
                have HST := Lib.hid hst
                clear hst hb1 hb2 hb3 hu1 hu2 S5
                go_wp2_with fail
                (with_reducible refine hfd.mono ?_)
                clear hfd hc
                rintro e w3 ⟨G2, x, y, hG2, S6, -, rfl⟩
                go_wp2_with fail
                go_roundw
                case rel => exact ⟨k + 1, G2, by omega, by go_num, hG.trans hG2, by rw [HST.out]; exact S6⟩
                case measure => simp [intOf]; omega
              · obtain rfl : k = css.length := by omega
                rw [List.take_length] at S5
                have hb1 := rmAll_len most css st
                rw [HT.out] at S5 hb1
                have hb2 : t.1.length ≤ 1000 := by have := HS2.out; have := HL.out; omega
                have a1 := rm_waiting S5
                have a2 := rm_waiting S5.swap
                have a3 := rm_dead S5
                have a4 := rm_dead S5.swap
                have a5 := rm_needs S5 (by omega)
                have a6 := rm_needs S5.swap (by omega)
                clear hb1 hb2
                generalize rmNeeds t.1 t.2 = nd at *
                generalize t.2 = td at *
                go_wp2_with fail
                (with_reducible refine a1.mono ?_)
                rintro e w4 ⟨rfl, rfl⟩
                go_wp2_with fail
                (with_reducible refine a2.mono ?_)
                rintro e w4 ⟨rfl, rfl⟩
                go_wp2_with fail
                (with_reducible refine a3.mono ?_)
                rintro e w4 ⟨rfl, rfl⟩
                go_wp2_with fail
                (with_reducible refine a4.mono ?_)
                rintro e w4 ⟨rfl, rfl⟩
                go_wp2_with fail
                (with_reducible refine a5.mono ?_)
                rintro e w4 ⟨rfl, rfl⟩
                go_wp2_with fail
                (with_reducible refine a6.mono ?_)
                rintro e w4 ⟨rfl, rfl⟩
                clear a1 a2 a3 a4 a5 a6
                go_wp2_with fail
                (with_reducible refine (law_awake _).mono ?_); rintro e w9 ⟨rfl, hb9⟩; go_wp2_with fail; exact hK.out _ _ ⟨rfl, ((S5.drop.drop).below hb9).above hG⟩
end Go.Proofs.Ytjaikmkfpkooiaa
