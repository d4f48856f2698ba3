/- The walk of the law ReasmNeeds. -/
import Derived.Test.YtjaikmkfpkooiaaPlays
set_option linter.unusedSimpArgs false
set_option linter.unusedVariables false
namespace Go.Proofs.Ytjaikmkfpkooiaa
open Go.RowKit

theorem hdN_app (bs cs : List UInt8) (h : 3 ≤ bs.length) : hdN (bs ++ cs) = hdN bs := by
  unfold hdN
  rw [List.take_append_of_le_length h]
/-- One byte less than is needed. -/
theorem needs_less {bs cs : List UInt8} (h : headE bs 300 = 16) (hc : (cs.length : Int) = rmNeeds bs false - 1) : headE (bs ++ cs) 300 = 16 := by
  unfold rmNeeds at hc
  rw [if_neg (by decide)] at hc
  by_cases h9 : bs.length < 9
  · rw [if_pos h9] at hc
    unfold headE
    rw [if_pos (by rw [List.length_append]; omega)]
  · rw [if_neg h9] at hc
    have hn := hdN_app bs cs (by omega)
    unfold headE at h ⊢
    rw [if_neg h9] at h
    rw [if_neg (by rw [List.length_append]; omega), hn]
    split at h
    · exact absurd h (by decide)
    · rename_i h1
      rw [if_neg h1, if_pos (by rw [List.length_append]; omega)]
/-- Just what is needed, behind a whole head. -/
theorem needs_all {bs cs : List UInt8} (h : headE bs 300 = 16) (h9 : 9 ≤ bs.length) (hc : (cs.length : Int) = rmNeeds bs false) : headE (bs ++ cs) 300 = 0 ∧ eat (bs ++ cs) 1 = [] := by
  unfold rmNeeds at hc
  rw [if_neg (by decide), if_neg (by omega)] at hc
  have hn := hdN_app bs cs (by omega)
  constructor
  · unfold headE at h ⊢
    rw [if_neg (by omega)] at h
    rw [if_neg (by rw [List.length_append]; omega), hn]
    split at h
    · exact absurd h (by decide)
    · rename_i h1
      rw [if_neg h1, if_neg (by rw [List.length_append]; omega)]
  · show (bs ++ cs).drop (9 + hdN (bs ++ cs)) = []
    rw [hn]
    exact List.drop_eq_nil_of_le (by rw [List.length_append]; omega)
theorem rmNeeds_true (bs : List UInt8) : rmNeeds bs true = 0 := rfl
/-- Behind a first chunk. -/
theorem feed_first {most : Int} {b : List UInt8} : (rmFeed most ([], false) b = ([], true)) ∨ ∃ c, rmFeed most ([], false) b = (c, false) ∧ headE c most = 16 ∧ c.length ≤ b.length := by
  have key : ∀ n, Eats b most (kof most b n) ∧ (kof most b n < n → headE (eat b (kof most b n)) most ≠ 0) := by
    intro n
    induction n with
    | zero => exact ⟨fun i hi => by simp [kof] at hi, fun h => by omega⟩
    | succ n ih =>
      simp only [kof]
      split
      · rename_i h
        exact ⟨ih.1.succ h, fun hlt => absurd h (ih.2 (by omega))⟩
      · rename_i h
        exact ⟨ih.1, fun _ => h⟩
  obtain ⟨k1, k2⟩ := key (b.length + 1)
  have k3 := eat_len k1
  have k4 := k2 (by omega)
  have hf := feed_of (bs := []) (b := b) (most := most) (K := kof most b (b.length + 1)) k1 k4
  simp only [List.nil_append] at hf
  rcases head_three (eat b (kof most b (b.length + 1))) most with h | h | h
  · exact absurd h k4
  · exact .inr ⟨_, by rw [hf, if_neg (by rw [h]; decide)], h, by omega⟩
  · exact .inl (by rw [hf, if_pos h])
set_option maxHeartbeats 4000000 in
set_option maxRecDepth 100000 in
theorem reasmNeeds_walk (w : World) (v0 v1 : Value) (h0 : ∃ d, ArgV w (.sl 1 (.int .u8)) v0 d) (h1 : ∃ d, ArgV w (.int .u8) v1 d) :
    Calls Try.prog 4 #[v0, v1] w fun e w' => e = .returned (.bool true) ∧ Below w.heap.size w w' := by
  refine calls_any fun K hK => ?_
  obtain ⟨_, h0⟩ := h0
  obtain ⟨l, h0⟩ := arg_sl h0
  obtain ⟨b, -, hlen, hb⟩ := slb_of h0
  obtain ⟨_, h1⟩ := h1
  obtain ⟨x, rfl, hx⟩ := arg_int h1
  obtain ⟨cb, hcb⟩ : ∃ cb : UInt8, (Value.int .u8 x) = byteV cb := by
    have h1 : 0 ≤ x ∧ x ≤ 255 := by simp [Lit.wf] at hx; exact hx
    refine ⟨UInt8.ofNat x.toNat, ?_⟩
    have : (UInt8.ofNat x.toNat).toNat = x.toNat := by simp; omega
    simp only [byteV, this]
    congr 1
    omega
  clear h0 h1 l hx
  have HCB := Lib.hid hcb
  clear hcb
  have S0 := Sat.start w
  change SlB (cellR (Gnd.of w).ro) _ _ at hb
  obtain ⟨A, c, rfl, -, -, -⟩ := hb.form
  have hG := Gnd.le.rfl' (G := Gnd.of w)
  by_cases h200 : 200 < (b.length : Int)
  · go_enter Try.func4, Try.ntmps4
    go_wp2_with fail
    (with_reducible refine (law_awake _).mono ?_); rintro e w9 ⟨rfl, hb9⟩; go_wp2_with fail; exact hK.out _ _ ⟨rfl, ((S0).below hb9).above hG⟩
  have hnew := rm_new S0 300 (by decide) (by decide)
  clear S0
  go_enter Try.func4, Try.ntmps4
  go_wp2_with fail
  (with_reducible refine hnew.mono ?_)
  clear hnew
  rintro e w1 ⟨r, rfl, S1⟩
  have hfd := rm_feed_st (st := ([], false)) S1 _ b hb (by simp; omega)
  go_wp2_with fail
  (with_reducible refine hfd.mono ?_)
  clear hfd S1
  rintro e w2 ⟨G, x1, y1, hG1, S2, -, rfl⟩
  replace hG := hG.trans hG1
  rcases feed_first (most := 300) (b := b) with hf | ⟨bs, hf, h16, hbl⟩
  ·
    rw [hf] at S2
    simp only at S2
    have hnd := rm_needs S2 (by simp)
    have hdd := rm_dead S2
    rw [rmNeeds_true] at hnd
    go_wp2_with fail
    (with_reducible refine hnd.mono ?_)
    rintro e w3 ⟨rfl, rfl⟩
    go_wp2_with fail
    (with_reducible refine hdd.mono ?_)
    rintro e w3 ⟨rfl, rfl⟩
    go_wp2_with fail
    (with_reducible refine hdd.mono ?_)
    rintro e w3 ⟨rfl, rfl⟩
    go_wp2_with fail
    (with_reducible refine (law_awake _).mono ?_); rintro e w9 ⟨rfl, hb9⟩; go_wp2_with fail; exact hK.out _ _ ⟨rfl, ((S2.drop).below hb9).above hG⟩
  · rw [hf] at S2
    simp only at S2
    obtain ⟨-, hn1⟩ := short_left h16 (by decide)
    have hnd := rm_needs S2 (by omega)
    have hdd := rm_dead S2
    obtain ⟨n, hn⟩ : ∃ n : Nat, rmNeeds bs false = n := ⟨(rmNeeds bs false).toNat, by omega⟩
    have HN := Lib.hid hn
    rw [hn] at hnd hn1
    clear hn hf
    by_cases h400 : 400 < (n : Int)
    ·
      have hn0 : ((n : Int) == 0) = false := by simp; omega
      go_wp2_with fail
      (with_reducible refine hnd.mono ?_)
      rintro e w3 ⟨rfl, rfl⟩
      go_wp2_with fail
      (with_reducible refine hdd.mono ?_)
      rintro e w3 ⟨rfl, rfl⟩
      go_wp2_with fail
      (with_reducible refine hdd.mono ?_)
      rintro e w3 ⟨rfl, rfl⟩
      go_wp2_with fail
      (with_reducible refine (law_awake _).mono ?_); rintro e w9 ⟨rfl, hb9⟩; go_wp2_with fail; exact hK.out _ _ ⟨rfl, ((S2.drop).below hb9).above hG⟩
    ·
      have hwt := rm_waiting S2
      have hcp := rm_copy S2 (by omega)
      have hmk := run_make_row' (P := Try.prog) 29 5 (.int .u8 0) 1 Try.underlying29 info_u8 rfl .i64 .i64 n (by omega) (by omega)
      go_wp2_with fail
      (with_reducible refine hnd.mono ?_)
      rintro e w3 ⟨rfl, rfl⟩
      go_wp2_with fail
      (with_reducible refine hdd.mono ?_)
      rintro e w3 ⟨rfl, rfl⟩
      go_wp2_with fail
      (with_reducible refine hwt.mono ?_)
      rintro e w3 ⟨rfl, rfl⟩
      go_wp2_with fail
      (with_reducible refine hcp.mono ?_)
      clear hnd hdd hwt hcp S2
      rintro e w4 ⟨G2, q, hG2, rfl, S4⟩
      replace hG := hG.trans hG2
      have S5 := (S4.newBlk (madeCells #[.int .u8 0] n) 5).ownBlk (size := 1) n (by rw [← Array.length_toList, toList_madeCells_one]; simp) (Nat.le_trans (show n ≤ 400 by omega) (by decide))
      clear S4
      go_wp2_with fail
      generalize w4.heap.size = p at S5 ⊢
      go_loopw [64] (fun i wr => ∃ (k : Nat) (xs : List Value), k ≤ n ∧ i = .int .i64 k ∧ (∀ j, j < k → xs[j]? = some (byteV cb)) ∧ Sat G2 wr [ownS 5 1 (.slice (some ⟨p, 0, none⟩) n n) n xs, rmA q 300 bs false, rmA r 300 bs false]) (fun i _ => n - (intOf i).toNat)
      case atStart => exact ⟨0, _, Nat.zero_le _, rfl, fun j hj => absurd hj (by omega), S5⟩
      case round =>
        obtain ⟨k, xs, hk, rfl, hxs, S6⟩ := hrel
        clear S5 hmk
        by_cases hlt : k < n
        · obtain ⟨g, cap, e, -, -, hcl, hfz, hset⟩ := S6.ownCell k hlt
          cases e
          have hl := (own_iff.1 S6).1
          have hlx : k < xs.length := by omega
          rw [List.getElem?_eq_getElem hlx] at hcl
          have HX := Lib.hid hxs
          have HSET := Lib.hid hset
          clear hxs hset S6 hl
          go_wp2_with fail
          go_roundw
          case rel => exact ⟨k + 1, xs.set k (.int .u8 x), by omega, by go_num, fun j hj => by
            by_cases e : j = k
            · subst e; rw [List.getElem?_set_self hlx, HCB.out]
            · rw [List.getElem?_set_ne (by omega)]; exact HX.out j (by omega), HSET.out _⟩
          case measure => simp [intOf]; omega
        · obtain rfl : k = n := by omega
          have hl := (own_iff.1 S6).1
          have hxe : xs = (List.replicate k cb).map byteV := by
            apply List.ext_getElem?
            intro j
            by_cases hj : j < k
            · rw [hxs j hj, List.map_replicate, List.getElem?_replicate, if_pos hj]
            · rw [List.getElem?_eq_none (by omega), List.getElem?_eq_none (by simp; omega)]
          subst hxe
          have hrl : (List.replicate k cb).length = k := List.length_replicate
          rw [show Sat G2 wr (ownS 5 1 (.slice (some ⟨p, 0, none⟩) k k) k ((List.replicate k cb).map byteV) :: _) = Sat G2 wr (ownS 5 1 (.slice (some ⟨p, 0, none⟩) k k) (List.replicate k cb).length ((List.replicate k cb).map byteV) :: [rmA q 300 bs false, rmA r 300 bs false]) by rw [hrl]] at S6
          obtain ⟨G3, hG3, S7, hmr⟩ := S6.ownFrz
          replace hG := hG.trans hG3
          have hms := hmr.to (k - 1) (by omega) k (by omega) (Nat.le_refl _)
          have hsl : ((List.replicate k cb).take (k - 1)).length = k - 1 := by rw [List.length_take, hrl]; omega
          have hl1 := needs_less (cs := (List.replicate k cb).take (k - 1)) h16 (by rw [hsl, HN.out]; omega)
          have hsb : ((List.replicate k cb).take (k - 1)).length ≤ 1000 := by omega
          have hrb : (List.replicate k cb).length ≤ 1000 := by omega
          generalize hcs1 : (List.replicate k cb).take (k - 1) = cs1 at *
          generalize hcs2 : List.replicate k cb = cs2 at *
          have HN2 := HN.out
          have hf1 := rm_feed_st (st := (bs, false)) S7 _ cs1 hms (by simp only; omega)
          have HRL := Lib.hid hrl
          have HL1 := Lib.hid hl1
          clear hcs1 hcs2 hsl hrl hl1 S6 S7 hms hxs hl HN2
          go_wp2_with fail
          (with_reducible refine hf1.mono ?_)
          clear hf1
          rintro e w5 ⟨G4, x2, y2, hG4, S8, hres, rfl⟩
          replace hG := hG.trans hG4
          have hk0 := kof_eq (most := 300) (cat := bs ++ cs1) (K := 0) (fun i hi => absurd hi (by omega)) (by show headE (bs ++ cs1) 300 ≠ 0; rw [HL1.out]; decide) ((bs ++ cs1).length + 1)
          rw [Nat.min_zero] at hk0
          obtain ⟨v1, e1, X1, c1, rfl, -, -, -⟩ := feed_ok hres 0 hk0 HL1.out
          injection e1 with e1
          injection e1 with e1
          have e2 : x2 = .slice X1 0 c1 := by simpa using congrArg (fun a : Array Value => a.getD 0 undef) e1
          have e3 : y2 = .int .i64 0 := by simpa using congrArg (fun a : Array Value => a.getD 1 undef) e1
          subst e2; subst e3
          have hf2 := rm_feed_st (st := (bs, false)) S8.swap _ cs2 (hmr.mono hG4) (by simp only; omega)
          clear hres hk0 e1 S8
          go_wp2_with fail
          (with_reducible refine hf2.mono ?_)
          clear hf2
          rintro e w6 ⟨G5, x3, y3, hG5, S9, hres, rfl⟩
          replace hG := hG.trans hG5
          by_cases h9 : 9 ≤ bs.length
          · have h9' : decide ((9 : Int) ≤ bs.length) = true := decide_eq_true (by omega)
            have HN2 := HN.out
            obtain ⟨q1, q2⟩ := needs_all (cs := cs2) h16 h9 (by rw [HRL.out, HN2])
            have q3 : Eats (bs ++ cs2) 300 1 := fun i hi => match i, hi with
              | 0, _ => q1
              | n + 1, h => absurd h (by omega)
            have q4 : headE (eat (bs ++ cs2) 1) 300 = 16 := by rw [q2]; decide
            have hk1 := kof_eq q3 (by rw [q4]; decide) ((bs ++ cs2).length + 1)
            rw [Nat.min_eq_right (by omega)] at hk1
            obtain ⟨v2, e1, X2, c2, rfl, -, -, -⟩ := feed_ok hres 1 hk1 q4
            injection e1 with e1
            injection e1 with e1
            have e2 : x3 = .slice X2 1 c2 := by simpa using congrArg (fun a : Array Value => a.getD 0 undef) e1
            have e3 : y3 = .int .i64 0 := by simpa using congrArg (fun a : Array Value => a.getD 1 undef) e1
            subst e2; subst e3
            rw [feed_of q3 (by rw [q4]; decide), if_neg (by rw [q4]; decide), q2] at S9
            simp only at S9
            have hwt := rm_waiting S9
            change Calls _ _ _ _ (fun e w' => e = .returned (.int .i64 0) ∧ _) at hwt
            clear hres hk1 q1 q2 q3 q4 e1 HN2
            go_wp2_with fail
            (with_reducible refine hwt.mono ?_)
            rintro e w7 ⟨rfl, rfl⟩
            go_wp2_with fail
            (with_reducible refine (law_awake _).mono ?_); rintro e w9 ⟨rfl, hb9⟩; go_wp2_with fail; exact hK.out _ _ ⟨rfl, ((S9.drop.drop).below hb9).above hG⟩
          · have h9' : decide ((9 : Int) ≤ bs.length) = false := decide_eq_false (by omega)
            clear hres
            go_wp2_with fail
            (with_reducible refine (law_awake _).mono ?_); rintro e w9 ⟨rfl, hb9⟩; go_wp2_with fail; exact hK.out _ _ ⟨rfl, ((S9.drop.drop).below hb9).above hG⟩
end Go.Proofs.Ytjaikmkfpkooiaa
