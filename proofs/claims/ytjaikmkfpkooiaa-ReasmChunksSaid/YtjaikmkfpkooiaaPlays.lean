/- The walk of the law ReasmPlays. -/
import Derived.Test.YtjaikmkfpkooiaaCopies
set_option linter.unusedSimpArgs false
set_option linter.unusedVariables false
namespace Go.Proofs.Ytjaikmkfpkooiaa
open Go.RowKit

theorem results_ttt' {P : Program} {fn : Func} {p1 p2 p3 : Tmp} (h : fn.results = #[.tmp p1, .tmp p2, .tmp p3]) (tmps : Array Value) (w : World) : (results fn tmps).run P w = .ok (.tuple #[tmps.getD p1 undef, tmps.getD p2 undef, tmps.getD p3 undef]) w := results_ttt h tmps w
/-- The reference's cutting. -/
theorem ref_cut {G : Gnd} {w : World} {l : List Asrt} (H : Sat G w l) (cs : List UInt8) (most : Int) (hn : cs.length ≤ 1000000000) :
    Calls Try.prog 12 #[.string (bstr cs), .int .i64 most] w fun e w' => Sat G w' l ∧ ∃ M, Eats cs most M ∧
      ((headE (eat cs M) most = 106 ∧ e = .returned (.tuple #[.int .i64 0, .int .i64 0, .int .i64 106])) ∨
       (headE (eat cs M) most = 16 ∧ ∃ at' : Nat, e = .returned (.tuple #[.int .i64 M, .int .i64 at', .int .i64 0]) ∧ eat cs M = cs.drop at' ∧ at' ≤ cs.length)) := by
  refine calls_any fun K hK => ?_
  have hsz := bstr_size cs
  go_enter Try.func12, Try.ntmps12
  go_wp2_with fail
  go_loopw [7, 8] (fun a n wr => ∃ k x : Nat, Eats cs most k ∧ a = .int .i64 x ∧ n = .int .i64 k ∧ eat cs k = cs.drop x ∧ x ≤ cs.length ∧ Sat G wr l) (fun a _ _ => cs.length - (intOf a).toNat)
  case atStart => exact ⟨0, 0, fun i hi => absurd hi (by omega), rfl, rfl, by simp [eat], Nat.zero_le _, H⟩
  case round =>
    obtain ⟨k, x, hk, rfl, rfl, hx, hxl, S⟩ := hrel
    clear H
    have hln := eat_len hk
    have hrf := ref9_parse S (eat cs k) most (by omega)
    have hbd := bstr_drop cs x cs.length rfl
    rw [← hx] at hbd
    rcases head_three (eat cs k) most with hh | hh | hh
    · rw [show refHead (eat cs k) most = .tuple #[.agg #[.int .i64 (hdT (eat cs k)), .int .i64 (hdF (eat cs k)), .int .i64 (hdS (eat cs k)), .int .i64 (9 + hdN (eat cs k))], .int .i64 0] by unfold refHead; rw [if_pos hh]] at hrf
      have hfit := head_fits hh
      have hnx := hk.succ hh
      have hx2 : eat cs (k + 1) = cs.drop (x + (9 + hdN (eat cs k))) := by
        show (eat cs k).drop _ = _
        rw [hx, List.drop_drop]
      have hlx : (eat cs k).length = cs.length - x := by rw [hx, List.length_drop]
      clear hx
      have HNX := Lib.hid hnx
      have HX2 := Lib.hid hx2
      clear hk hnx hx2 hh
      generalize hdN (eat cs k) = n at *
      go_wp2_with fail
      (with_reducible refine hrf.mono ?_)
      clear hrf
      rintro e w2 ⟨rfl, S3⟩
      have S4 := S3.newBlk #[.int .i64 (hdT (eat cs k)), .int .i64 (hdF (eat cs k)), .int .i64 (hdS (eat cs k)), .int .i64 (9 + n)] 52
      clear S S3
      go_wp2_with fail
      go_roundw
      case rel => exact ⟨k + 1, x + (9 + n), HNX.out, by go_num, by go_num, HX2.out, by omega, S4.drop⟩
      case measure => simp [intOf]; omega
    · have HX := Lib.hid hx
      clear hx
      rw [show refHead (eat cs k) most = .tuple #[.agg #[.int .i64 0, .int .i64 0, .int .i64 0, .int .i64 0], .int .i64 16] by unfold refHead; rw [if_neg (by rw [hh]; decide), hh]] at hrf
      go_wp2_with fail
      (with_reducible refine hrf.mono ?_)
      clear hrf
      rintro e w2 ⟨rfl, S3⟩
      have S4 := S3.alloc (.cells #[.int .i64 0, .int .i64 0, .int .i64 0, .int .i64 0] 52)
      clear S S3
      go_wp2_with fail
      refine bodyPost_ret (results_ttt' (p1 := 4) (p2 := 5) (p3 := 6) rfl _ _) rfl ?_
      exact hK.out _ _ ⟨S4, k, hk, .inr ⟨hh, x, rfl, HX.out, hxl⟩⟩
    · clear hx
      rw [show refHead (eat cs k) most = .tuple #[.agg #[.int .i64 0, .int .i64 0, .int .i64 0, .int .i64 0], .int .i64 106] by unfold refHead; rw [if_neg (by rw [hh]; decide), hh]] at hrf
      go_wp2_with fail
      (with_reducible refine hrf.mono ?_)
      clear hrf
      rintro e w2 ⟨rfl, S3⟩
      have S4 := S3.alloc (.cells #[.int .i64 0, .int .i64 0, .int .i64 0, .int .i64 0] 52)
      clear S S3
      go_wp2_with fail
      refine bodyPost_ret (results_ttt' (p1 := 4) (p2 := 5) (p3 := 6) rfl _ _) rfl ?_
      exact hK.out _ _ ⟨S4, k, hk, .inl ⟨hh, rfl⟩⟩
theorem same_count {cs : List UInt8} {most : Int} {M N : Nat} (h : Eats cs most M) (h' : headE (eat cs M) most ≠ 0) (k : Eats cs most N) (k' : headE (eat cs N) most ≠ 0) : M = N := Nat.le_antisymm (h.le k') (k.le h')
theorem short_left {c : List UInt8} {most : Int} (h : headE c most = 16) (h0 : 0 ≤ most) : (c.length : Int) < most + 9 ∧ 1 ≤ rmNeeds c false := by
  unfold headE at h
  unfold rmNeeds
  rw [if_neg (by decide)]
  split at h
  · rename_i h9
    rw [if_pos h9]
    omega
  · rename_i h9
    rw [if_neg h9]
    split at h
    · exact absurd h (by decide)
    · split at h
      · omega
      · exact absurd h (by decide)
set_option maxHeartbeats 4000000 in
set_option maxRecDepth 100000 in
theorem reasmPlays_walk (w : World) (v0 v1 : Value) (h0 : ∃ d, ArgV w (.int .i64) v0 d) (h1 : ∃ d, ArgV w (.sl 24 (.sl 1 (.int .u8))) v1 d) :
    Calls Try.prog 3 #[v0, v1] w fun e w' => e = .returned (.bool true) ∧ Below w.heap.size w w' := by
  refine calls_any fun K hK => ?_
  obtain ⟨_, h0⟩ := h0
  obtain ⟨most, rfl, -⟩ := arg_int h0
  obtain ⟨_, h1⟩ := h1
  obtain ⟨l1, h1⟩ := arg_sl h1
  obtain ⟨bss, hbs⟩ := chunks_of h1
  clear h0 h1 l1
  have S0 := Sat.start w
  change RBs (Gnd.of w).ro v1 bss at hbs
  have hG := Gnd.le.rfl' (G := Gnd.of w)
  have hsm := law_small S0 v1 bss hbs
  cases hs1 : decide (lenAll bss ≤ 500) with
  | false =>
    rw [hs1] at hsm
    go_enter Try.func3, Try.ntmps3
    go_wp2_with fail
    (with_reducible refine hsm.mono ?_)
    clear hsm
    rintro e w2 ⟨rfl, rfl⟩
    go_wp2_with fail
    (with_reducible refine (law_awake _).mono ?_); rintro e w9 ⟨rfl, hb9⟩; go_wp2_with fail; exact hK.out _ _ ⟨rfl, ((S0).below hb9).above hG⟩
  | true =>
  rw [hs1] at hsm
  by_cases hm0 : most < 0
  · go_enter Try.func3, Try.ntmps3
    go_wp2_with fail
    (with_reducible refine hsm.mono ?_)
    clear hsm
    rintro e w2 ⟨rfl, rfl⟩
    go_wp2_with fail
    (with_reducible refine (law_awake _).mono ?_); rintro e w9 ⟨rfl, hb9⟩; go_wp2_with fail; exact hK.out _ _ ⟨rfl, ((S0).below hb9).above hG⟩
  by_cases hm1 : 16777215 < most
  · have hz : decide (most ≥ 16777216) = true := decide_eq_true (by omega)
    go_enter Try.func3, Try.ntmps3
    go_wp2_with fail
    (with_reducible refine hsm.mono ?_)
    clear hsm
    rintro e w2 ⟨rfl, rfl⟩
    go_wp2_with fail
    (with_reducible refine (law_awake _).mono ?_); rintro e w9 ⟨rfl, hb9⟩; go_wp2_with fail; exact hK.out _ _ ⟨rfl, ((S0).below hb9).above hG⟩
  have hz : decide (most ≥ 16777216) = false := decide_eq_false (by omega)
  have hnew := rm_new S0 most (by omega) (by omega)
  replace hs1 := of_decide_eq_true hs1
  have HS1 := Lib.hid hs1
  clear hs1
  go_enter Try.func3, Try.ntmps3
  go_wp2_with fail
  (with_reducible refine hsm.mono ?_)
  clear hsm
  rintro e w2 ⟨rfl, rfl⟩
  go_wp2_with fail
  (with_reducible refine hnew.mono ?_)
  clear hnew S0
  rintro e w1 ⟨r, rfl, S1⟩
  obtain ⟨A, c, rfl, hbl, hbe⟩ := hbs
  have HBE := Lib.hid hbe
  clear hbe hz
  go_wp2_with fail
  go_loopw [7, 43] (fun s i wr => ∃ (k : Nat) (G : Gnd) (cs : List UInt8), k ≤ bss.length ∧ i = .int .i64 k ∧ (Gnd.of w).le G ∧ s = .string (bstr cs) ∧ cs.length ≤ lenAll (bss.take k) ∧ (Sat G wr [rmA r most cs false] ∨ ((∃ M, Eats cs most M ∧ headE (eat cs M) most = 106) ∧ Sat G wr [rmA r most [] true]))) (fun _ i _ => bss.length - (intOf i).toNat)
  case atStart => exact ⟨0, _, [], Nat.zero_le _, rfl, hG, rfl, by simp, .inl S1⟩
  case round =>
    obtain ⟨k, G, cs, hk, rfl, hG, rfl, hcl, hor⟩ := hrel
    clear S1
    have hs0 := bstr_size cs
    by_cases hlt : k < bss.length
    · obtain ⟨a, u, rfl, hu1, hu2, -⟩ := HBE.out k bss[k] (List.getElem?_eq_getElem hlt)
      obtain ⟨X, cx, rfl, -, -, -⟩ := hu2.form
      have hln1 : lenAll (bss.take (k + 1)) = lenAll (bss.take k) + (3 + (bss[k]).length) := by
        rw [List.take_succ_eq_append_getElem hlt, lenAll_append]; simp [lenAll]
      have hln2 := lenAll_take bss (k + 1)
      have hln3 : cs.length + (bss[k]).length ≤ 500 := by have := HS1.out; omega
      have hln4 : (cs ++ bss[k]).length ≤ lenAll (bss.take (k + 1)) := by rw [List.length_append]; omega
      have hln5 : cs.length ≤ lenAll (bss.take (k + 1)) := by omega
      have hub := hu2.mono hG
      have hu1' := cellR_mono hG.ro hu1
      have HL4 := Lib.hid hln4
      have HL5 := Lib.hid hln5
      clear hln1 hln2 hu1 hu2 hln4 hln5 hcl
      generalize bss[k] = b at *
      rcases hor with S2 | ⟨⟨M0, hM0, h106⟩, S2⟩
      ·
        have hc := S2.cellR hu1'
        have hfd := rm_feed S2 _ b hub (by omega)
        go_wp2_with fail
        (with_reducible refine hfd.mono ?_)
        clear hfd hc S2
        rintro e w3 ⟨G2, hG2, S3, ⟨h, -⟩ | ⟨-, M, hM, hres⟩⟩
        · cases h
        have hne : headE (eat (cs ++ b) M) most ≠ 0 := by rcases hres with h | h <;> rw [h.1] <;> decide
        have hfo := feed_of hM hne
        have hap := bstr_append cs b
        have hsc := bstr_size (cs ++ b)
        have hs2 := bstr_size b
        have hcut := fun (W : World) (G : Gnd) (L : List Asrt) (S : Sat G W L) => ref_cut S (cs ++ b) most (by rw [List.length_append]; omega)
        rw [List.length_append] at hsc
        have hG3 := hG.trans hG2
        rcases hres with ⟨h16, v1, rfl, hfr⟩ | ⟨h106, rfl⟩
        · rw [hfo, if_neg (by rw [h16]; decide)] at S3
          simp only at S3
          obtain ⟨Y, cy, rfl, -, -, -⟩ := hfr
          obtain ⟨hw1, hw2⟩ := short_left h16 (by omega)
          have hdd := rm_dead S3
          have hwt := rm_waiting S3
          have hnd := rm_needs S3 (by have := eat_len hM; rw [List.length_append] at this; omega)
          have hw3 : decide (((eat (cs ++ b) M).length : Int) ≥ most + 9) = false := decide_eq_false (by omega)
          have hw4 : decide (rmNeeds (eat (cs ++ b) M) false < 1) = false := decide_eq_false (by omega)
          have hcv := conv_bytes _ b w3 ((hub.mono hG2).sat S3).1
          have hsd := bstr_size (eat (cs ++ b) M)
          have hed := eat_len hM
          go_wp2_with fail
          (with_reducible refine hdd.mono ?_)
          rintro e w4 ⟨rfl, rfl⟩
          go_wp2_with fail
          (with_reducible refine (hcut _ _ _ S3).mono ?_)
          clear hcut hcv
          rintro e w4 ⟨S4, M', hM', hor⟩
          have hMM : M' = M := by
            refine same_count hM' ?_ hM hne
            rcases hor with h | h <;> rw [h.1] <;> decide
          subst hMM
          rcases hor with ⟨h, -⟩ | ⟨-, at', rfl, hat, hatl⟩
          · rw [h16] at h; exact absurd h (by decide)
          have hbd := bstr_drop (cs ++ b) at' (cs ++ b).length rfl
          rw [← hat, List.length_append] at hbd
          rw [List.length_append] at hatl
          have hdd := rm_dead S4
          have hwt := rm_waiting S4
          have hnd := rm_needs S4 (by rw [List.length_append] at hed; omega)
          have hDl : (eat (cs ++ b) M').length ≤ cs.length + b.length := by rw [List.length_append] at hed; omega
          have HDL := Lib.hid hDl
          clear hat S3 h16 hne hfo hed hM' hDl
          generalize eat (cs ++ b) M' = D at *
          generalize rmNeeds D false = nd at *
          go_wp2_with fail
          (with_reducible refine hdd.mono ?_)
          rintro e w5 ⟨rfl, rfl⟩
          go_wp2_with fail
          (with_reducible refine hwt.mono ?_)
          rintro e w5 ⟨rfl, rfl⟩
          go_wp2_with fail
          (with_reducible refine hwt.mono ?_)
          rintro e w5 ⟨rfl, rfl⟩
          go_wp2_with fail
          (with_reducible refine hnd.mono ?_)
          rintro e w5 ⟨rfl, rfl⟩
          go_wp2_with fail
          go_roundw
          case rel => exact ⟨k + 1, G2, D, by omega, by go_num, hG3, rfl, by have h1 := HL4.out; have h2 := HDL.out; rw [List.length_append] at h1; omega, .inl S4⟩
          case measure => simp [intOf]; omega
        · rw [hfo, if_pos h106] at S3
          simp only at S3
          have hdd := rm_dead S3
          have hcv := conv_bytes _ b w3 ((hub.mono hG2).sat S3).1
          have HMM := Lib.hid (And.intro hM h106)
          go_wp2_with fail
          (with_reducible refine hdd.mono ?_)
          clear hdd
          rintro e w4 ⟨rfl, rfl⟩
          go_wp2_with fail
          (with_reducible refine (hcut _ _ _ S3).mono ?_)
          clear hcut hcv
          rintro e w4 ⟨S4, M', hM', hor⟩
          have hMM : M' = M := by
            refine same_count hM' ?_ hM hne
            rcases hor with h | h <;> rw [h.1] <;> decide
          subst hMM
          rcases hor with ⟨-, rfl⟩ | ⟨h, -⟩
          rotate_left
          · rw [h106] at h; exact absurd h (by decide)
          have hdd := rm_dead S4
          have hwt := rm_waiting S4
          have hnd := rm_needs S4 (by simp)
          change Calls _ _ _ _ (fun e w' => e = .returned (.int .i64 0) ∧ _) at hwt
          change Calls _ _ _ _ (fun e w' => e = .returned (.int .i64 0) ∧ _) at hnd
          clear S3 h106 hne hfo hM hM'
          go_wp2_with fail
          (with_reducible refine hdd.mono ?_)
          rintro e w5 ⟨rfl, rfl⟩
          go_wp2_with fail
          (with_reducible refine hwt.mono ?_)
          rintro e w5 ⟨rfl, rfl⟩
          go_wp2_with fail
          (with_reducible refine hnd.mono ?_)
          rintro e w5 ⟨rfl, rfl⟩
          go_wp2_with fail
          go_roundw
          case rel => exact ⟨k + 1, G2, cs ++ b, by omega, by go_num, hG3, rfl, HL4.out, .inr ⟨⟨_, HMM.out⟩, S4⟩⟩
          case measure => simp [intOf]; omega
      ·
        have hc := S2.cellR hu1'
        have hfd := rm_feed S2 _ b hub (by simp; omega)
        have hcut := fun (W : World) (G : Gnd) (L : List Asrt) (S : Sat G W L) => ref_cut S cs most (by omega)
        have HMM := Lib.hid (And.intro hM0 h106)
        go_wp2_with fail
        (with_reducible refine hfd.mono ?_)
        clear hfd hc S2
        rintro e w3 ⟨G2, hG2, S3, ⟨-, rfl⟩ | ⟨h, -⟩⟩
        rotate_left
        · cases h
        rw [feed_dead] at S3
        simp only at S3
        have hG3 := hG.trans hG2
        have hdd := rm_dead S3
        go_wp2_with fail
        (with_reducible refine hdd.mono ?_)
        clear hdd
        rintro e w4 ⟨rfl, rfl⟩
        go_wp2_with fail
        (with_reducible refine (hcut _ _ _ S3).mono ?_)
        clear hcut
        rintro e w4 ⟨S4, M', hM', hor⟩
        have hMM : M' = M0 := by
          refine same_count hM' ?_ hM0 (by rw [h106]; decide)
          rcases hor with h | h <;> rw [h.1] <;> decide
        subst hMM
        rcases hor with ⟨-, rfl⟩ | ⟨h, -⟩
        rotate_left
        · rw [h106] at h; exact absurd h (by decide)
        clear S3 h106 hM0 hM'
        go_wp2_with fail
        go_roundw
        case rel => exact ⟨k + 1, G2, cs, by omega, by go_num, hG3, rfl, HL5.out, .inr ⟨⟨_, HMM.out⟩, S4⟩⟩
        case measure => simp [intOf]; omega
    · rcases hor with S2 | ⟨-, S2⟩
      · go_wp2_with fail
        (with_reducible refine (law_awake _).mono ?_); rintro e w9 ⟨rfl, hb9⟩; go_wp2_with fail; exact hK.out _ _ ⟨rfl, ((S2.drop).below hb9).above hG⟩
      · go_wp2_with fail
        (with_reducible refine (law_awake _).mono ?_); rintro e w9 ⟨rfl, hb9⟩; go_wp2_with fail; exact hK.out _ _ ⟨rfl, ((S2.drop).below hb9).above hG⟩
end Go.Proofs.Ytjaikmkfpkooiaa
