/- The walk of the law CellReads. -/
import Derived.Test.YthenpoammpkjeaaFills
import Derived.Test.YthenpoammpkjeaaOpen
import Derived.Test.YthenpoammpkjeaaRef9
import Derived.Deep.QuietTactic
import Derived.BigQuiet
set_option linter.unusedSimpArgs false
set_option linter.unusedVariables false
namespace Go.Proofs.Ythenpoammpkjeaa
open Go.RowKit

theorem Sat.drewQ {G : Gnd} {w : World} {l : List Asrt} (H : Sat G w l) (n : Nat) : Sat G (w.drewN n) l := H.below ⟨rfl, rfl, rfl, Nat.le_refl _, fun _ _ => rfl⟩
theorem kept_at {F : List Fr4} {j : Nat} {f : Fr4} (hf : F[j]? = some f) (hk : keep f = true) : (F.filter keep)[((F.take j).filter keep).length]? = some f ∧ ((F.take (j + 1)).filter keep).length = ((F.take j).filter keep).length + 1 := by
  have hj := (List.getElem?_eq_some_iff.1 hf).1
  have he := (List.getElem?_eq_some_iff.1 hf).2
  constructor
  · have e : F = F.take j ++ f :: F.drop (j + 1) := by
      conv => lhs; rw [← List.take_append_drop j F, List.drop_eq_getElem_cons hj, he]
    conv => lhs; arg 1; rw [e]
    rw [List.filter_append, List.getElem?_append_right (Nat.le_refl _), List.filter_cons, if_pos hk]
    simp
  · rw [take_snoc hf, List.filter_append]; simp [hk]
theorem kept_not {F : List Fr4} {j : Nat} {f : Fr4} (hf : F[j]? = some f) (hk : keep f = false) : ((F.take (j + 1)).filter keep).length = ((F.take j).filter keep).length := by
  rw [take_snoc hf, List.filter_append]; simp [hk]
theorem kept_le (F : List Fr4) (j : Nat) : ((F.take j).filter keep).length ≤ j := Nat.le_trans (List.length_filter_le _ _) (by rw [List.length_take]; omega)
set_option maxHeartbeats 8000000 in
set_option maxRecDepth 100000 in
theorem cellReads_walk (w : World) (v0 v1 : Value) (h0 : ∃ d, ArgV w (.sl 1 (.int .u8)) v0 d) (h1 : ∃ d, ArgV w (.int .i64) v1 d) :
    Calls Try.prog 5 #[v0, v1] w fun e w' => e = .returned (.bool true) ∧ Below w.heap.size w w' := by
  refine calls_any fun K hK => ?_
  obtain ⟨_, h0⟩ := h0
  obtain ⟨ll, h0⟩ := arg_sl h0
  obtain ⟨bs, -, hlen, hb⟩ := slb_of h0
  obtain ⟨_, h1⟩ := h1
  obtain ⟨n, rfl, hn⟩ := arg_int h1
  obtain ⟨n0, n1⟩ := bounds_i64 hn
  clear h0 h1 ll hn
  have S0 := Sat.start w
  change SlB (cellR (Gnd.of w).ro) _ _ at hb
  have hG0 := Gnd.le.rfl' (G := Gnd.of w)
  obtain ⟨A, c, rfl, -, -, -⟩ := hb.form
  by_cases h600 : 600 < (bs.length : Int)
  · go_enter Try.func5, Try.ntmps5
    go_wp2_with fail
    (with_reducible refine (awake_below _).mono ?_); rintro e w9 ⟨rfl, hb9⟩; go_wp2_with fail; exact hK.out _ _ ⟨rfl, ((S0).below hb9).above (hG0)⟩
  have hop := cell_open S0 _ bs n hb (by omega)
  have hrl := fun w => law_right n w
  go_enter Try.func5, Try.ntmps5
  go_wp2_with fail
  (with_reducible refine hop.mono ?_)
  clear hop S0
  rintro e w1 ⟨G, hG, hres, S1⟩
  rcases hres with ⟨hr, rfl⟩ | ⟨hr, M, hM, ⟨hE, hE0, hEl, F, v', hFl, hFL, rfl, O, co, rfl, ho1, ho2, hel⟩ | ⟨hbad, rfl⟩⟩
  · rw [hr] at hrl
    have hl1 := hrl w1
    clear hrl
    go_wp2_with fail
    (with_reducible refine hl1.mono ?_)
    clear hl1
    rintro e w2 ⟨rfl, rfl⟩
    go_wp2_with fail
    (with_reducible refine (awake_below _).mono ?_); rintro e w9 ⟨rfl, hb9⟩; go_wp2_with fail; exact hK.out _ _ ⟨rfl, ((S1).below hb9).above (hG)⟩
  · rw [hr] at hrl
    obtain ⟨b1, b2⟩ := right_bounds hr
    have hl1 := hrl w1
    clear hrl
    have hcv := conv_bytes _ bs w1 ((hb.mono hG).sat S1).1
    have ho3 : co ≤ 9223372036854775807 := ho2
    subst hFl
    have HM := Lib.hid hM
    have HEL := Lib.hid hel
    have HE := Lib.hid hE
    have HE0 := Lib.hid hE0
    have HFL := Lib.hid hFL
    have hE1 : (((bs.length : Int)) == n + 18) = true := beq_iff_eq.2 hEl
    have HLN := Lib.hid hEl
    clear hM hel hE hE0 hFL hEl ho2 hE1
    go_wp2_with fail
    (with_reducible refine hl1.mono ?_)
    clear hl1
    rintro e w2 ⟨rfl, rfl⟩
    go_wp2_with fail
    clear hcv
    go_loopw [7, 8] (fun s kk wr => ∃ k : Nat, Eats bs (n + 18) k ∧ kk = .int .i64 ((F.take k).filter keep).length ∧ s = .string (bstr (eat bs k)) ∧ Sat G wr []) (fun s _ _ => match s with | .string x => x.size | _ => 0)
    case atStart => exact ⟨0, fun i hi => absurd hi (by omega), rfl, rfl, S1⟩
    case round =>
      obtain ⟨k, hk, rfl, rfl, S2⟩ := hrel
      clear S1
      have hln := eat_len hk
      have hkM : k ≤ F.length := hk.le (by rw [HE.out]; decide)
      have hsz := bstr_size (eat bs k)
      have hkl := kept_le F k
      by_cases hnil : eat bs k = []
      · have hMk : F.length ≤ k := HM.out.le (by rw [hnil]; show (16 : Int) ≠ 0; decide)
        obtain rfl : k = F.length := by omega
        rw [List.take_length, hnil] at *
        have hln2 := HLN.out
        have hz0 : (bstr []).size = 0 := rfl
        clear hnil hk hln HEL HE HE0 HM
        rw [hln2]
        generalize (F.filter keep).length = m at *
        go_wp2_with fail
        (with_reducible refine (awake_below _).mono ?_); rintro e w9 ⟨rfl, hb9⟩; go_wp2_with fail; exact hK.out _ _ ⟨rfl, ((S2).below hb9).above (hG)⟩
      have hpos : 0 < (eat bs k).length := List.length_pos_iff.2 hnil
      have hrf := ref9_parse S2 (eat bs k) (n + 18) (by omega)
      rcases head_three (eat bs k) (n + 18) with hh | hh | hh
      · rw [show refHead (eat bs k) (n + 18) = .tuple #[.agg #[.int .i64 (hdT (eat bs k)), .int .i64 (hdF (eat bs k)), .int .i64 (hdS (eat bs k)), .int .i64 (9 + hdN (eat bs k))], .int .i64 0] by unfold refHead; rw [if_pos hh]] at hrf
        have hfit := head_fits hh
        have hnx := hk.succ hh
        have HNX := Lib.hid hnx
        have hlt : k < F.length := by
          rcases Nat.lt_or_eq_of_le hkM with h | h
          · exact h
          · rw [h, HE.out] at hh; exact absurd hh (by decide)
        have hfk := List.getElem?_eq_getElem hlt
        have hft := (HFL.out k _ hfk).1
        have hfs := (HFL.out k _ hfk).2.2.1
        by_cases hT : (hdT (eat bs k) : Int) = 250
        · have hkp : keep F[k] = false := by unfold keep fill; rw [hft, hT]; rfl
          have HKN := Lib.hid (kept_not hfk hkp)
          have hTb : ((hdT (eat bs k) : Int) == 250) = true := beq_iff_eq.2 hT
          clear hk hnx hfk hft hfs hkp
          generalize ((F.take k).filter keep).length = kl at *
          go_wp2_with fail
          (with_reducible refine hrf.mono ?_)
          clear hrf
          rintro e w2 ⟨rfl, S3⟩
          have S4 := S3.newBlk #[.int .i64 (hdT (eat bs k)), .int .i64 (hdF (eat bs k)), .int .i64 (hdS (eat bs k)), .int .i64 (9 + hdN (eat bs k))] 36
          clear S2 S3
          have hdr := bstr_drop (eat bs k) (9 + hdN (eat bs k)) (eat bs k).length rfl
          rw [show (eat bs k).drop (9 + hdN (eat bs k)) = eat bs (k + 1) from rfl] at hdr
          have hsz1 := bstr_size (eat bs (k + 1))
          have hl1 : (eat bs (k + 1)).length = (eat bs k).length - (9 + hdN (eat bs k)) := List.length_drop
          obtain ⟨hz, -⟩ := head_bounds (eat bs k)
          clear hh
          generalize hcs1 : eat bs (k + 1) = cs1 at *
          generalize hdN (eat bs k) = m0 at *
          generalize hdT (eat bs k) = T at *
          generalize hdF (eat bs k) = F' at *
          generalize hdS (eat bs k) = D' at *
          generalize hcs : eat bs k = cs at *
          have m1 : (9 + (m0 : Int)).toNat = 9 + m0 := by omega
          clear hT
          go_wp2_with fail
          go_roundw
          case rel => exact ⟨k + 1, HNX.out, by rw [HKN.out], by rw [hcs1], S4.drop⟩
          case measure => rw [hcs]; show (bstr cs1).size < (bstr cs).size; omega
        · have hkp : keep F[k] = true := by unfold keep fill; rw [hft]; simpa using hT
          obtain ⟨hat, hkn⟩ := kept_at hfk hkp
          have HKN := Lib.hid hkn
          have hTb : ((hdT (eat bs k) : Int) == 250) = false := beq_eq_false_iff_ne.2 hT
          have hklt := (List.getElem?_eq_some_iff.1 hat).1
          obtain ⟨g, e1, hq⟩ := HEL.out _ _ hat
          subst e1
          have f0 := hq 0 (by decide)
          have f2 := hq 2 (by decide)
          rw [show (fc F[k])[0]? = some (.int .i64 (hdT (eat bs k))) by rw [← hft]; rfl] at f0
          rw [show (fc F[k])[2]? = some (.int .i64 (hdS (eat bs k))) by rw [← hfs]; rfl] at f2
          rw [Nat.add_zero] at f0
          clear hk hnx hfk hft hfs hkp hat hkn hq HEL
          generalize ((F.take k).filter keep).length = kl at *
          generalize (F.filter keep).length = mm at *
          go_wp2_with fail
          (with_reducible refine hrf.mono ?_)
          clear hrf
          rintro e w2 ⟨rfl, S3⟩
          have S4 := S3.newBlk #[.int .i64 (hdT (eat bs k)), .int .i64 (hdF (eat bs k)), .int .i64 (hdS (eat bs k)), .int .i64 (9 + hdN (eat bs k))] 36
          clear S2 S3
          go_upto_region 13 with fail
          generalize w2.heap.size = q at S4 ⊢
          refine wp_world S4 fun W S5 => ?_
          clear S4
          have HS := Lib.hid S5
          have c0 : W.cell? ⟨q, 0, none⟩ = some (.int .i64 (hdT (eat bs k))) := S5.cell 0
          have c2 : W.cell? ⟨q, 2, none⟩ = some (.int .i64 (hdS (eat bs k))) := S5.cell 2
          have c3 : W.cell? ⟨q, 3, none⟩ = some (.int .i64 (9 + hdN (eat bs k))) := S5.cell 3
          have d0 := S5.cellR f0
          have d2 := S5.cellR f2
          have hdr := bstr_drop (eat bs k) (9 + hdN (eat bs k)) (eat bs k).length rfl
          rw [show (eat bs k).drop (9 + hdN (eat bs k)) = eat bs (k + 1) from rfl] at hdr
          have hsz1 := bstr_size (eat bs (k + 1))
          have hl1 : (eat bs (k + 1)).length = (eat bs k).length - (9 + hdN (eat bs k)) := List.length_drop
          obtain ⟨hz, -⟩ := head_bounds (eat bs k)
          clear f0 f2 hh S5
          generalize hcs1 : eat bs (k + 1) = cs1 at *
          generalize hdN (eat bs k) = m0 at *
          generalize hdT (eat bs k) = T at *
          generalize hdF (eat bs k) = F' at *
          generalize hdS (eat bs k) = D' at *
          generalize hcs : eat bs k = cs at *
          have m1 : (9 + (m0 : Int)).toNat = 9 + m0 := by omega
          have hgq : decide ((kl : Int) ≥ (mm : Int)) = false := decide_eq_false (by omega)
          clear hT
          go_quiet (fail)
          go_wp2_with fail
          go_roundw
          case rel => exact ⟨k + 1, HNX.out, by rw [HKN.out]; go_num, by rw [hcs1], (HS.out.drewQ _).drop⟩
          case measure => rw [hcs]; show (bstr cs1).size < (bstr cs).size; omega
      · have hMk : F.length ≤ k := HM.out.le (by rw [hh]; decide)
        obtain rfl : k = F.length := by omega
        exact absurd HE0.out hnil
      · have hMk : F.length ≤ k := HM.out.le (by rw [hh]; decide)
        obtain rfl : k = F.length := by omega
        exact absurd HE0.out hnil
  · rw [hr] at hrl
    obtain ⟨b1, b2⟩ := right_bounds hr
    have hl1 := hrl w1
    clear hrl
    have hcv := conv_bytes _ bs w1 ((hb.mono hG).sat S1).1
    have HM := Lib.hid hM
    have HBAD := Lib.hid hbad
    clear hM hbad
    go_wp2_with fail
    (with_reducible refine hl1.mono ?_)
    clear hl1
    rintro e w2 ⟨rfl, rfl⟩
    go_wp2_with fail
    clear hcv
    go_loopw [7, 8] (fun s kk wr => ∃ (k m : Nat), Eats bs (n + 18) k ∧ m ≤ k ∧ kk = .int .i64 m ∧ s = .string (bstr (eat bs k)) ∧ Sat G wr []) (fun s _ _ => match s with | .string x => x.size | _ => 0)
    case atStart => exact ⟨0, 0, fun i hi => absurd hi (by omega), Nat.le_refl _, rfl, rfl, S1⟩
    case round =>
      obtain ⟨k, m, hk, hmk, rfl, rfl, S2⟩ := hrel
      clear S1
      have hln := eat_len hk
      have hkM : k ≤ M := hk.le (by rcases HBAD.out with h | ⟨h, -⟩ <;> rw [h] <;> decide)
      have hsz := bstr_size (eat bs k)
      by_cases hnil : eat bs k = []
      · have hMk : M ≤ k := HM.out.le (by rw [hnil]; show (16 : Int) ≠ 0; decide)
        obtain rfl : k = M := by omega
        have hne : (bs.length : Int) ≠ n + 18 := by
          rcases HBAD.out with h | ⟨-, h | h⟩
          · rw [hnil] at h; cases h
          · exact absurd hnil h
          · exact h
        have hnb : (((bs.length : Int)) == n + 18) = false := beq_eq_false_iff_ne.2 hne
        have hz0 : (bstr []).size = 0 := rfl
        rw [hnil] at *
        clear hnil hk hln HM HBAD hne
        go_wp2_with fail
        (with_reducible refine (awake_below _).mono ?_); rintro e w9 ⟨rfl, hb9⟩; go_wp2_with fail; exact hK.out _ _ ⟨rfl, ((S2).below hb9).above (hG)⟩
      have hpos : 0 < (eat bs k).length := List.length_pos_iff.2 hnil
      have hrf := ref9_parse S2 (eat bs k) (n + 18) (by omega)
      rcases head_three (eat bs k) (n + 18) with hh | hh | hh
      · rw [show refHead (eat bs k) (n + 18) = .tuple #[.agg #[.int .i64 (hdT (eat bs k)), .int .i64 (hdF (eat bs k)), .int .i64 (hdS (eat bs k)), .int .i64 (9 + hdN (eat bs k))], .int .i64 0] by unfold refHead; rw [if_pos hh]] at hrf
        have hfit := head_fits hh
        have hnx := hk.succ hh
        have HNX := Lib.hid hnx
        by_cases hT : (hdT (eat bs k) : Int) = 250
        · have hTb : ((hdT (eat bs k) : Int) == 250) = true := beq_iff_eq.2 hT
          clear hk hnx
          go_wp2_with fail
          (with_reducible refine hrf.mono ?_)
          clear hrf
          rintro e w2 ⟨rfl, S3⟩
          have S4 := S3.newBlk #[.int .i64 (hdT (eat bs k)), .int .i64 (hdF (eat bs k)), .int .i64 (hdS (eat bs k)), .int .i64 (9 + hdN (eat bs k))] 36
          clear S2 S3
          have hdr := bstr_drop (eat bs k) (9 + hdN (eat bs k)) (eat bs k).length rfl
          rw [show (eat bs k).drop (9 + hdN (eat bs k)) = eat bs (k + 1) from rfl] at hdr
          have hsz1 := bstr_size (eat bs (k + 1))
          have hl1 : (eat bs (k + 1)).length = (eat bs k).length - (9 + hdN (eat bs k)) := List.length_drop
          obtain ⟨hz, -⟩ := head_bounds (eat bs k)
          clear hh
          generalize hcs1 : eat bs (k + 1) = cs1 at *
          generalize hdN (eat bs k) = m0 at *
          generalize hdT (eat bs k) = T at *
          generalize hdF (eat bs k) = F' at *
          generalize hdS (eat bs k) = D' at *
          generalize hcs : eat bs k = cs at *
          have m1 : (9 + (m0 : Int)).toNat = 9 + m0 := by omega
          clear hT
          go_wp2_with fail
          go_roundw
          case rel => exact ⟨k + 1, m, HNX.out, by omega, rfl, by rw [hcs1], S4.drop⟩
          case measure => rw [hcs]; show (bstr cs1).size < (bstr cs).size; omega
        · have hTb : ((hdT (eat bs k) : Int) == 250) = false := beq_eq_false_iff_ne.2 hT
          clear hk hnx
          go_wp2_with fail
          (with_reducible refine hrf.mono ?_)
          clear hrf
          rintro e w2 ⟨rfl, S3⟩
          have S4 := S3.newBlk #[.int .i64 (hdT (eat bs k)), .int .i64 (hdF (eat bs k)), .int .i64 (hdS (eat bs k)), .int .i64 (9 + hdN (eat bs k))] 36
          clear S2 S3
          go_upto_region 13 with fail
          generalize w2.heap.size = q at S4 ⊢
          refine wp_world S4 fun W S5 => ?_
          clear S4
          have HS := Lib.hid S5
          have c3 : W.cell? ⟨q, 3, none⟩ = some (.int .i64 (9 + hdN (eat bs k))) := S5.cell 3
          have hdr := bstr_drop (eat bs k) (9 + hdN (eat bs k)) (eat bs k).length rfl
          rw [show (eat bs k).drop (9 + hdN (eat bs k)) = eat bs (k + 1) from rfl] at hdr
          have hsz1 := bstr_size (eat bs (k + 1))
          have hl1 : (eat bs (k + 1)).length = (eat bs k).length - (9 + hdN (eat bs k)) := List.length_drop
          obtain ⟨hz, -⟩ := head_bounds (eat bs k)
          clear hh S5
          generalize hcs1 : eat bs (k + 1) = cs1 at *
          generalize hdN (eat bs k) = m0 at *
          generalize hdT (eat bs k) = T at *
          generalize hdF (eat bs k) = F' at *
          generalize hdS (eat bs k) = D' at *
          generalize hcs : eat bs k = cs at *
          have m1 : (9 + (m0 : Int)).toNat = 9 + m0 := by omega
          clear hT
          go_quiet (fail)
          go_wp2_with fail
          go_roundw
          case rel => exact ⟨k + 1, m + 1, HNX.out, by omega, by go_num, by rw [hcs1], (HS.out.drewQ _).drop⟩
          case measure => rw [hcs]; show (bstr cs1).size < (bstr cs).size; omega
      · rw [show refHead (eat bs k) (n + 18) = .tuple #[.agg #[.int .i64 0, .int .i64 0, .int .i64 0, .int .i64 0], .int .i64 16] by unfold refHead; rw [if_neg (by rw [hh]; decide), hh]] at hrf
        go_wp2_with fail
        (with_reducible refine hrf.mono ?_)
        clear hrf
        rintro e w2 ⟨rfl, S3⟩
        have S4 := S3.alloc (.cells #[.int .i64 0, .int .i64 0, .int .i64 0, .int .i64 0] 36)
        clear S2 S3
        go_wp2_with fail
        (with_reducible refine (awake_below _).mono ?_); rintro e w9 ⟨rfl, hb9⟩; go_wp2_with fail; exact hK.out _ _ ⟨rfl, ((S4).below hb9).above (hG)⟩
      · rw [show refHead (eat bs k) (n + 18) = .tuple #[.agg #[.int .i64 0, .int .i64 0, .int .i64 0, .int .i64 0], .int .i64 106] by unfold refHead; rw [if_neg (by rw [hh]; decide), hh]] at hrf
        go_wp2_with fail
        (with_reducible refine hrf.mono ?_)
        clear hrf
        rintro e w2 ⟨rfl, S3⟩
        have S4 := S3.alloc (.cells #[.int .i64 0, .int .i64 0, .int .i64 0, .int .i64 0] 36)
        clear S2 S3
        go_wp2_with fail
        (with_reducible refine (awake_below _).mono ?_); rintro e w9 ⟨rfl, hb9⟩; go_wp2_with fail; exact hK.out _ _ ⟨rfl, ((S4).below hb9).above (hG)⟩
end Go.Proofs.Ythenpoammpkjeaa
