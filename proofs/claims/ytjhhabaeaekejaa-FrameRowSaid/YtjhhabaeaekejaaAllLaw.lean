/- The walk of the law FrameAll. -/
import Derived.Test.YtjhhabaeaekejaaAll
import Derived.Deep.QuietTactic
import Derived.BigQuiet
set_option linter.unusedSimpArgs false
set_option linter.unusedVariables false
namespace Go.Proofs.Ytjhhabaeaekejaa
open Go.RowKit

theorem eq_arr3t (a b c : Int) (w : World) : (Op.equalIn 10000 44 (.agg #[.int .i64 a, .int .i64 b, .int .i64 c]) (.agg #[.int .i64 a, .int .i64 b, .int .i64 c])).run Try.prog w = .ok true w := by
  rw [eq_arr3]; simp
theorem Sat.drewN {G : Gnd} {w : World} {l : List Asrt} (H : Sat G w l) (n : Nat) : Sat G (w.drewN n) l := H.below ⟨rfl, rfl, rfl, Nat.le_refl _, fun _ _ => rfl⟩
set_option maxHeartbeats 4000000 in
set_option maxRecDepth 100000 in
theorem frameAll_walk (w : World) (v0 v1 : Value) (h0 : ∃ d, ArgV w (.sl 1 (.int .u8)) v0 d) (h1 : ∃ d, ArgV w (.int .i64) v1 d) :
    Calls Try.prog 7 #[v0, v1] w fun e w' => e = .returned (.bool true) ∧ Below w.heap.size w w' := by
  refine calls_any fun K hK => ?_
  obtain ⟨_, h0⟩ := h0
  obtain ⟨l, h0⟩ := arg_sl h0
  obtain ⟨bs, -, hlen, hb⟩ := slb_of h0
  obtain ⟨_, h1⟩ := h1
  obtain ⟨most, rfl, -⟩ := arg_int h1
  clear h0 h1 l
  have S0 := Sat.start w
  change SlB (cellR (Gnd.of w).ro) _ _ at hb
  obtain ⟨A, c, rfl, -, -, -⟩ := hb.form
  by_cases h400 : 400 < (bs.length : Int)
  · have hG := Gnd.le.rfl' (G := Gnd.of w)
    go_enter Try.func7, Try.ntmps7
    go_wp2_with fail
    (with_reducible refine (law_awake2 _).mono ?_); rintro e w9 ⟨rfl, hb9⟩; go_wp2_with fail; exact hK.out _ _ ⟨rfl, ((S0).below hb9).above hG⟩
  have hp := frame_all S0 _ bs most hb (by omega)
  go_enter Try.func7, Try.ntmps7
  go_wp2_with fail
  (with_reducible refine hp.mono ?_)
  clear hp S0
  rintro e w1 ⟨G, M, hG, S1, hM, ⟨hE, v1, v2, rfl, hfr, hrest⟩ | ⟨hE, rfl⟩⟩
  · obtain ⟨F, cf, rfl, hf1, hf2, hel⟩ := hfr
    obtain ⟨B, cb, rfl, -, -, -⟩ := hrest.form
    have hf3 : cf ≤ 9223372036854775807 := hf2
    have hcv := conv_bytes _ bs w1 ((hb.mono hG).sat S1).1
    have HM := Lib.hid hM
    have HEL := Lib.hid hel
    have HE := Lib.hid hE
    clear hM hel hE
    go_wp2_with fail
    clear hcv
    go_loopw [8, 9] (fun s kk wr => ∃ k : Nat, Eats bs most k ∧ kk = .int .i64 k ∧ s = .string (bstr (eat bs k)) ∧ Sat G wr []) (fun s _ _ => match s with | .string x => x.size | _ => 0)
    case atStart => exact ⟨0, fun i hi => absurd hi (by omega), rfl, rfl, S1⟩
    case round =>
      obtain ⟨k, hk, rfl, rfl, S2⟩ := hrel
      clear S1
      have hln := eat_len hk
      have hkM : k ≤ M := hk.le (by rw [HE.out]; decide)
      have hrf := ref9_parse S2 (eat bs k) most (by omega)
      have hsz := bstr_size (eat bs k)
      rcases head_three (eat bs k) most with hh | hh | hh
      · rw [show refHead (eat bs k) most = .tuple #[.agg #[.int .i64 (hdT (eat bs k)), .int .i64 (hdF (eat bs k)), .int .i64 (hdS (eat bs k)), .int .i64 (9 + hdN (eat bs k))], .int .i64 0] by unfold refHead; rw [if_pos hh]] at hrf
        have hlt : k < M := by
          rcases Nat.lt_or_eq_of_le hkM with h | h
          · exact h
          · rw [h, HE.out] at hh; exact absurd hh (by decide)
        have hfit := head_fits hh
        have hnx := hk.succ hh
        have HK1 := Lib.hid hk
        have HNX := Lib.hid hnx
        clear hk hnx
        obtain ⟨g, e1, u, f0, f1, f2, f3, hu⟩ := HEL.out k hlt
        subst e1
        obtain ⟨X, cx, rfl, -, -, -⟩ := hu.form
        go_wp2_with fail
        (with_reducible refine hrf.mono ?_)
        clear hrf
        rintro e w2 ⟨rfl, S3⟩
        have S4 := S3.newBlk #[.int .i64 (hdT (eat bs k)), .int .i64 (hdF (eat bs k)), .int .i64 (hdS (eat bs k)), .int .i64 (9 + hdN (eat bs k))] 35
        clear S2 S3
        go_upto_region 10 with fail
        generalize w2.heap.size = q at S4 ⊢
        refine wp_world S4 fun W S5 => ?_
        clear S4
        have HS := Lib.hid S5
        have c0 : W.cell? ⟨q, 0, none⟩ = some (.int .i64 (hdT (eat bs k))) := S5.cell 0
        have c1 : W.cell? ⟨q, 1, none⟩ = some (.int .i64 (hdF (eat bs k))) := S5.cell 1
        have c2 : W.cell? ⟨q, 2, none⟩ = some (.int .i64 (hdS (eat bs k))) := S5.cell 2
        have c3 : W.cell? ⟨q, 3, none⟩ = some (.int .i64 (9 + hdN (eat bs k))) := S5.cell 3
        have d0 : W.cell? ⟨g, k * 4, none⟩ = some (.int .i64 (hdT (eat bs k))) := S5.cellR f0
        have d1 : W.cell? ⟨g, k * 4 + 1, none⟩ = some (.int .i64 (hdF (eat bs k))) := S5.cellR f1
        have d2 : W.cell? ⟨g, k * 4 + 2, none⟩ = some (.int .i64 (hdS (eat bs k))) := S5.cellR f2
        have d3 : W.cell? ⟨g, k * 4 + 3, none⟩ = some (.slice X (((eat bs k).drop 9).take (hdN (eat bs k))).length cx) := S5.cellR f3
        have hcv := conv_bytes _ _ W (hu.sat S5).1
        have hcvn := fun n => conv_bytes _ _ (W.drewN n) (hu.sat S5).1
        have hsl : (bstr (eat bs k)).extract 9 (9 + hdN (eat bs k)) = bstr (((eat bs k).drop 9).take (hdN (eat bs k))) := by
          unfold bstr; rw [Go.ByteArray.extract_mk]; congr 3; omega
        have hdr := bstr_drop (eat bs k) (9 + hdN (eat bs k)) (eat bs k).length rfl
        rw [show (eat bs k).drop (9 + hdN (eat bs k)) = eat bs (k + 1) from rfl] at hdr
        have hpl := bstr_list (((eat bs k).drop 9).take (hdN (eat bs k)))
        have heq := fun w => eq_arr3t (hdT (eat bs k)) (hdF (eat bs k)) (hdS (eat bs k)) w
        have hsz1 := bstr_size (eat bs (k + 1))
        have hl1 : (eat bs (k + 1)).length = (eat bs k).length - (9 + hdN (eat bs k)) := List.length_drop
        obtain ⟨hz, -⟩ := head_bounds (eat bs k)
        clear f0 f1 f2 f3 hu hh S5
        generalize hcs1 : eat bs (k + 1) = cs1 at *
        generalize ((eat bs k).drop 9).take (hdN (eat bs k)) = pl at *
        generalize hdN (eat bs k) = n at *
        generalize hdT (eat bs k) = T at *
        generalize hdF (eat bs k) = F' at *
        generalize hdS (eat bs k) = D' at *
        generalize hcs : eat bs k = cs at *
        have hgq : decide ((k : Int) ≥ (M : Int)) = false := decide_eq_false (by omega)
        have m1 : (9 + (n : Int)).toNat = 9 + n := by omega
        have m2 : max (9 + (n : Int)) 0 = 9 + n := by omega
        have j1 : (0 : Int) ≤ 9 + n := by omega
        have j2 : (9 : Int) ≤ 9 + n := by omega
        have j3 : (9 : Int) + n ≤ cs.length := by omega
        have hsr : ∀ nq, (Instr.slice 9 (.string (bstr cs)) (some (.int .i64 9)) (some (.int .i64 (9 + (n : Int)))) none).run Try.prog (W.drewN nq) = .ok (.string (bstr pl)) (W.drewN nq) := fun nq => by
          rw [run_slice_string _ 9 (bstr cs) .i64 .i64 9 (9 + (n : Int)) Try.underlying9 (by omega) (by omega) (by rw [hsz]; omega), m1, ← hsl]; rfl
        go_quiet (fail)
        go_wp2_with fail
        go_roundw
        case rel => exact ⟨k + 1, HNX.out, by go_num, by rw [hcs1], (HS.out.drewN _).drop⟩
        case measure => rw [hcs]; show (bstr cs1).size < (bstr cs).size; omega
      ·
        have hMk : M ≤ k := HM.out.le (by rw [hh]; decide)
        obtain rfl : k = M := by omega
        rw [show refHead (eat bs k) most = .tuple #[.agg #[.int .i64 0, .int .i64 0, .int .i64 0, .int .i64 0], .int .i64 16] by unfold refHead; rw [if_neg (by rw [hh]; decide), hh]] at hrf
        have hpl := bstr_list (eat bs k)
        go_wp2_with fail
        (with_reducible refine hrf.mono ?_)
        clear hrf
        rintro e w2 ⟨rfl, S3⟩
        have S4 := S3.alloc (.cells #[.int .i64 0, .int .i64 0, .int .i64 0, .int .i64 0] 35)
        have hcv := conv_bytes _ (eat bs k) _ (hrest.sat S4).1
        clear S2 S3
        go_wp2_with fail
        (with_reducible refine (law_awake2 _).mono ?_); rintro e w9 ⟨rfl, hb9⟩; go_wp2_with fail; exact hK.out _ _ ⟨rfl, ((S4).below hb9).above hG⟩
      · have hMk : M ≤ k := HM.out.le (by rw [hh]; decide)
        obtain rfl : k = M := by omega
        have := HE.out
        rw [hh] at this
        exact absurd this (by decide)
  · have hcv := conv_bytes _ bs w1 ((hb.mono hG).sat S1).1
    have HM := Lib.hid hM
    have HE := Lib.hid hE
    clear hM hE
    go_wp2_with fail
    clear hcv
    go_loopw [8, 9] (fun s kk wr => ∃ k : Nat, Eats bs most k ∧ kk = .int .i64 k ∧ s = .string (bstr (eat bs k)) ∧ Sat G wr []) (fun s _ _ => match s with | .string x => x.size | _ => 0)
    case atStart => exact ⟨0, fun i hi => absurd hi (by omega), rfl, rfl, S1⟩
    case round =>
      obtain ⟨k, hk, rfl, rfl, S2⟩ := hrel
      clear S1
      have hln := eat_len hk
      have hkM : k ≤ M := hk.le (by rw [HE.out]; decide)
      have hrf := ref9_parse S2 (eat bs k) most (by omega)
      have hsz := bstr_size (eat bs k)
      rcases head_three (eat bs k) most with hh | hh | hh
      ·
        rw [show refHead (eat bs k) most = .tuple #[.agg #[.int .i64 (hdT (eat bs k)), .int .i64 (hdF (eat bs k)), .int .i64 (hdS (eat bs k)), .int .i64 (9 + hdN (eat bs k))], .int .i64 0] by unfold refHead; rw [if_pos hh]] at hrf
        have hfit := head_fits hh
        have hnx := hk.succ hh
        have HNX := Lib.hid hnx
        clear hk hnx
        go_wp2_with fail
        (with_reducible refine hrf.mono ?_)
        clear hrf
        rintro e w2 ⟨rfl, S3⟩
        have S4 := S3.newBlk #[.int .i64 (hdT (eat bs k)), .int .i64 (hdF (eat bs k)), .int .i64 (hdS (eat bs k)), .int .i64 (9 + hdN (eat bs k))] 35
        clear S2 S3
        go_upto_region 10 with fail
        generalize w2.heap.size = q at S4 ⊢
        refine wp_world S4 fun W S5 => ?_
        clear S4
        have HS := Lib.hid S5
        have c3 : W.cell? ⟨q, 3, none⟩ = some (.int .i64 (9 + hdN (eat bs k))) := S5.cell 3
        have hdr := bstr_drop (eat bs k) (9 + hdN (eat bs k)) (eat bs k).length rfl
        rw [show (eat bs k).drop (9 + hdN (eat bs k)) = eat bs (k + 1) from rfl] at hdr
        have hsz1 := bstr_size (eat bs (k + 1))
        have hl1 : (eat bs (k + 1)).length = (eat bs k).length - (9 + hdN (eat bs k)) := List.length_drop
        obtain ⟨hz, -⟩ := head_bounds (eat bs k)
        clear hh S5
        generalize hcs1 : eat bs (k + 1) = cs1 at *
        generalize hdN (eat bs k) = n at *
        generalize hdT (eat bs k) = T at *
        generalize hdF (eat bs k) = F' at *
        generalize hdS (eat bs k) = D' at *
        generalize hcs : eat bs k = cs at *
        have m1 : (9 + (n : Int)).toNat = 9 + n := by omega
        go_quiet (fail)
        go_wp2_with fail
        go_roundw
        case rel => exact ⟨k + 1, HNX.out, by go_num, by rw [hcs1], (HS.out.drewN _).drop⟩
        case measure => rw [hcs]; show (bstr cs1).size < (bstr cs).size; omega
      · have hMk : M ≤ k := HM.out.le (by rw [hh]; decide)
        obtain rfl : k = M := by omega
        have := HE.out
        rw [hh] at this
        exact absurd this (by decide)
      ·
        rw [show refHead (eat bs k) most = .tuple #[.agg #[.int .i64 0, .int .i64 0, .int .i64 0, .int .i64 0], .int .i64 106] by unfold refHead; rw [if_neg (by rw [hh]; decide), hh]] at hrf
        go_wp2_with fail
        (with_reducible refine hrf.mono ?_)
        clear hrf
        rintro e w2 ⟨rfl, S3⟩
        have S4 := S3.alloc (.cells #[.int .i64 0, .int .i64 0, .int .i64 0, .int .i64 0] 35)
        clear S2 S3
        go_wp2_with fail
        (with_reducible refine (law_awake2 _).mono ?_); rintro e w9 ⟨rfl, hb9⟩; go_wp2_with fail; exact hK.out _ _ ⟨rfl, ((S4).below hb9).above hG⟩
end Go.Proofs.Ytjhhabaeaekejaa
