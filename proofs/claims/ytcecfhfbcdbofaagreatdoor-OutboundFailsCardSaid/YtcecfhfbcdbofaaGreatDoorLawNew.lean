/- The walk of the law OutboundNew. -/
import Derived.Test.YtcecfhfbcdbofaaGreatDoorG8
set_option linter.unusedSimpArgs false
set_option linter.unusedVariables false
namespace Go.Proofs.YtcecfhfbcdbofaaGreatDoor
open Go.RowKit
attribute [local go_sem] Oper.semAt_some

theorem step_last {c : Oc} {s s' : Os} {t : Nat} {tick : Int} {d : Dv} (h : StepR c s t tick d s') : s'.last = s.last := by
  rcases h with ⟨x, X, -, -, rfl⟩ | ⟨-, y, -, -, -, -, -, -, -, -, -, -, h, -⟩ | ⟨-, -, x, L, p, F', -, -, -, rfl⟩ | ⟨-, -, -, -, rfl⟩
  · rfl
  · exact h
  · rfl
  · rfl
theorem few_of {c : Oc} {s : Os} (h : OInv c s) : s.F.length = s.M.length := by rw [h.mf.length_eq, List.length_map]
theorem step_few {c : Oc} {s s' : Os} {t : Nat} {tick : Int} {d : Dv} (h : StepR c s t tick d s') (hw : OInv c s) (hw' : OInv c s') : s'.F.length ≤ s.F.length + 1 := by
  rcases h with ⟨x, X, -, -, rfl⟩ | ⟨-, y, -, -, -, -, -, -, -, -, -, -, -, h⟩ | ⟨-, -, x, L, p, F', -, -, -, rfl⟩ | ⟨-, -, -, -, rfl⟩
  · exact Nat.le_succ _
  · omega
  · rw [few_of hw', few_of hw]; exact Nat.le_refl _
  · exact Nat.le_succ _
def slotE (last tick : Int) : Int := if tickOk tick then (if tick ≤ last then 25 else 0) else 11
def slotL (last tick : Int) : Int := if tickOk tick = true ∧ last < tick then tick else last
section
variable {G : Gnd} {w w' : World} {l : List Asrt} {o : Nat} {c : Oc} {s : Os}
theorem ob_slotE (H : Sat G w (outA o c s :: l)) (hw : OInv c s) (hT : TabG G) (tick : Int) (hfew : s.F.length < 10000) :
    Calls Tryz.prog 13 #[.pointer (some ⟨o, 0, none⟩), .int .i64 tick] w fun e w' => ∃ (G' : Gnd) (s' : Os) (u : Value) (d1 d2 d3 d4 d5 : Int), G.le G' ∧ e = .returned (.tuple #[u, .agg #[.int .i64 d1, .int .i64 d2, .int .i64 d3, .int .i64 d4, .int .i64 d5], .int .i64 (slotE s.last tick)]) ∧ s'.last = slotL s.last tick ∧ s'.F.length ≤ s.F.length + 1 ∧ OInv c s' ∧ Sat G' w' (outA o c s' :: l) := by
  refine (ob_slot H hw hT tick hfew).mono ?_
  rintro e w' ⟨G', s', hG, hR, hI, S⟩
  rcases hR with ⟨hb, rfl, rfl⟩ | ⟨hb, hle, rfl, rfl⟩ | ⟨hb, hlt, t, d, u, bs, ht, htt, hu, hlen, rfl, hst⟩
  · refine ⟨G', s', .slice none 0 0, 0, 0, 0, 0, 0, hG, ?_, ?_, Nat.le_succ _, hI, S⟩
    · rw [show slotE s'.last tick = 11 by unfold slotE; rw [hb]; rfl]
    · unfold slotL; rw [if_neg (by rw [hb]; intro h; cases h.1)]
  · refine ⟨G', s', .slice none 0 0, 0, 0, 0, 0, 0, hG, ?_, ?_, Nat.le_succ _, hI, S⟩
    · rw [show slotE s'.last tick = 25 by unfold slotE; rw [if_pos hb, if_pos hle]]
    · unfold slotL; rw [if_neg (by omega)]
  · refine ⟨G', s', u, d.1, d.2.1, d.2.2.1, d.2.2.2.1, d.2.2.2.2, hG, ?_, ?_, ?_, hI, S⟩
    · rw [show slotE s.last tick = 0 by unfold slotE; rw [if_pos hb, if_neg (by omega)]]
    · rw [step_last hst]; unfold slotL; rw [if_pos ⟨hb, hlt⟩]
    · exact step_few (s := { s with last := tick }) hst (last_inv hw hlt) hI
theorem law_in (k : Int) : Calls Tryz.prog 22 #[.int .i64 k] w fun e w' => e = .returned (.bool (tickOk k)) ∧ w = w' := by
  refine calls_any fun K hK => ?_
  unfold tickOk at hK
  by_cases h0 : 0 ≤ k
  · by_cases h1 : k ≤ 1073741823
    · have h2 : k < 1073741824 := by omega
      go_enter Tryz.func22, Tryz.ntmps22
      go_wp2_with fail
      exact hK.out _ _ ⟨by rw [decide_eq_true h0, decide_eq_true h1]; rfl, rfl⟩
    · have h2 : ¬ k < 1073741824 := by omega
      go_enter Tryz.func22, Tryz.ntmps22
      go_wp2_with fail
      exact hK.out _ _ ⟨by rw [decide_eq_true h0, show decide (k ≤ 1073741823) = false from decide_eq_false (by omega)]; rfl, rfl⟩
  · go_enter Tryz.func22, Tryz.ntmps22
    go_wp2_with fail
    exact hK.out _ _ ⟨by rw [show decide (0 ≤ k) = false from decide_eq_false (by omega)]; rfl, rfl⟩
theorem ref_new13 (H : Sat G w l) : Calls Tryz.prog 21 #[] w fun e w' => e = .returned (.agg #[.int .i64 0, .int .i64 1, .int .i64 1, .int .i64 0]) ∧ Sat G w' l := by
  refine calls_any fun K hK => ?_
  have S := H.newBlk #[.int .i64 0, .int .i64 1, .int .i64 1, .int .i64 0] 57
  clear H
  go_enter Tryz.func21, Tryz.ntmps21
  go_wp2_with fail
  exact ret_cell S _ _ rfl _ rfl Tryz.underlying57 rfl (by kernel_rfl) rfl (hK.out _ _ ⟨rfl, S.drop⟩)
theorem ref_num13 (H : Sat G w l) : Calls Tryz.prog 20 #[.agg #[.int .i64 0, .int .i64 1, .int .i64 1, .int .i64 0]] w fun e w' => e = .returned (.int .i64 0) ∧ Sat G w' l := by
  refine calls_any fun K hK => ?_
  have S := H.newBlk #[.int .i64 0, .int .i64 1, .int .i64 1, .int .i64 0] 57
  have c0 := S.cell 0
  have HS := Lib.hid S.drop
  clear S H
  go_enter Tryz.func20, Tryz.ntmps20
  go_wp2_with fail
  exact hK.out _ _ ⟨rfl, HS.out⟩
theorem in_iff (k : Int) : tickOk k = true → -1 < k := fun h => by
  unfold tickOk at h
  simp only [Bool.and_eq_true, decide_eq_true_eq] at h
  omega
set_option maxHeartbeats 8000000 in
set_option maxRecDepth 100000 in
theorem outboundNew_walk (w : World) (v0 v1 v2 : Value) (h0 : ∃ d, ArgV w (Ty.agg [.int .i64, .int .i64, .int .i64, .int .i64, .int .i64]) v0 d) (h1 : ∃ d, ArgV w (.int .i64) v1 d) (h2 : ∃ d, ArgV w (.int .i64) v2 d) (htab : TabW w) :
    Calls Tryz.prog 5 #[v0, v1, v2] w fun e w' => e = .returned (.bool true) ∧ Below w.heap.size w w' := by
  refine calls_any fun K hK => ?_
  obtain ⟨_, h0⟩ := h0
  obtain ⟨t, z, b, i, q, rfl⟩ := arg_cfg h0
  obtain ⟨_, h1⟩ := h1
  obtain ⟨now, rfl, -⟩ := arg_int h1
  obtain ⟨_, h2⟩ := h2
  obtain ⟨thn, rfl, -⟩ := arg_int h2
  clear h0 h1 h2
  have HT := Lib.hid (TabG.of htab)
  have S0 := (Sat.start w).newBlk #[.int .i64 t, .int .i64 z, .int .i64 b, .int .i64 i, .int .i64 q] 23
  clear htab
  have c0 := S0.cell 0
  have c1 := S0.cell 1
  have c2 := S0.cell 2
  have c3 := S0.cell 3
  have c4 := S0.cell 4
  cases hm : mayB t z b i q with
  | false =>
    have hnew := ob_new_not S0 t z b i q hm
    clear S0
    go_enter Tryz.func5, Tryz.ntmps5
    go_wp2_with fail
    (with_reducible refine hnew.mono ?_)
    rintro e w1 ⟨rfl, S1⟩
    clear hnew c0 c1 c2 c3 c4
    have c0 := S1.cell 0
    have c1 := S1.cell 1
    have c2 := S1.cell 2
    have c3 := S1.cell 3
    have c4 := S1.cell 4
    have hmy := law_may S1 t z b i q
    rw [hm] at hmy
    clear S1
    go_wp2_with fail
    (with_reducible refine hmy.mono ?_)
    rintro e w2 ⟨rfl, S2⟩
    have HS9 := Lib.hid S2
    have HT9 := HT
    have HG9 := Lib.hid (Gnd.le.rfl' (G := Gnd.of w))
    clear hmy c0 c1 c2 c3 c4 S2
    go_wp2_with fail
    (with_reducible refine (law_awake HS9.out HT9.out).mono ?_); rintro e w9 ⟨rfl, G9, hG9, S9⟩; go_wp2_with fail; exact hK.out _ _ ⟨rfl, S9.above (HG9.out.trans hG9)⟩
  | true =>
    have hmm := of_decide_eq_true hm
    obtain ⟨n, rfl⟩ := Int.eq_ofNat_of_zero_le (show 0 ≤ t by omega)
    have hnew := ob_new S0 n z b i q hm
    have HM := Lib.hid hm
    clear S0 hmm
    go_enter Tryz.func5, Tryz.ntmps5
    go_wp2_with fail
    (with_reducible refine hnew.mono ?_)
    rintro e w1 ⟨o, rfl, S1⟩
    clear hnew c0 c1 c2 c3 c4
    have c0 := S1.swap.cell 0
    have c1 := S1.swap.cell 1
    have c2 := S1.swap.cell 2
    have c3 := S1.swap.cell 3
    have c4 := S1.swap.cell 4
    have hmy := law_may S1 n z b i q
    rw [hm] at hmy
    clear S1 hm
    go_wp2_with fail
    (with_reducible refine hmy.mono ?_)
    rintro e w2 ⟨rfl, S2⟩
    clear hmy c0 c1 c2 c3 c4
    have hrn := ref_new13 S2
    clear S2
    go_wp2_with fail
    (with_reducible refine hrn.mono ?_)
    rintro e w3 ⟨rfl, S3⟩
    have hrm := ref_num13 S3
    clear S3 hrn
    go_wp2_with fail
    (with_reducible refine hrm.mono ?_)
    rintro e w4 ⟨rfl, S4⟩
    have hs1 := ob_slotE S4 (new_inv HM.out) HT.out now (by show 0 < 10000; decide)
    change Calls _ _ _ _ (fun e w' => ∃ (G' : Gnd) (s' : Os) (u : Value) (d1 d2 d3 d4 d5 : Int), _ ∧ e = .returned (.tuple #[_, _, .int .i64 (slotE (-1) now)]) ∧ s'.last = slotL (-1) now ∧ s'.F.length ≤ 0 + 1 ∧ _) at hs1
    obtain ⟨x1, hx1⟩ : ∃ x, x = slotE (-1) now := ⟨_, rfl⟩
    rw [← hx1] at hs1
    have HX1 := Lib.hid hx1
    clear S4 hrm hx1
    go_wp2_with fail
    (with_reducible refine hs1.mono ?_)
    rintro e w5 ⟨G1, s1, u1, d1, d2, d3, d4, d5, hG1, rfl, hl1, hf1, hI1, S5⟩
    have S6 := S5.newBlk #[.int .i64 d1, .int .i64 d2, .int .i64 d3, .int .i64 d4, .int .i64 d5] 45
    have hs2 := ob_slotE S6.swap hI1 (HT.out.mono hG1) thn (by omega)
    obtain ⟨x2, hx2⟩ : ∃ x, x = slotE s1.last thn := ⟨_, rfl⟩
    rw [← hx2] at hs2
    have HX2 := Lib.hid (And.intro hx2 (And.intro hl1 hG1))
    clear S5 S6 hs1 hx2 hl1 hf1 hI1 hG1
    go_wp2_with fail
    (with_reducible refine hs2.mono ?_)
    rintro e w6 ⟨G2, s2, u2, b1, b2, b3, b4, b5, hG2, rfl, -, -, -, S7⟩
    have S8 := S7.newBlk #[.int .i64 b1, .int .i64 b2, .int .i64 b3, .int .i64 b4, .int .i64 b5] 45
    have HS9 := Lib.hid S8
    have HT9 := Lib.hid (HT.out.mono (HX2.out.2.2.trans hG2))
    have HG9 := Lib.hid (HX2.out.2.2.trans hG2)
    clear S7 S8 hs2 hG2
    have hi1 : ∀ W, _ := fun W => law_in (w := W) now
    have hi2 : ∀ W, _ := fun W => law_in (w := W) thn
    cases hn : tickOk now with
    | false =>
      rw [hn] at hi1
      obtain rfl : x1 = 11 := by rw [HX1.out]; unfold slotE; rw [hn]; rfl
      have hl : s1.last = -1 := by rw [HX2.out.2.1]; unfold slotL; rw [if_neg (by rw [hn]; intro h; cases h.1)]
      cases hn2 : tickOk thn with
      | false =>
        rw [hn2] at hi2
        obtain rfl : x2 = 11 := by rw [HX2.out.1]; unfold slotE; rw [hn2]; rfl
        clear hl hn hn2
        go_wp2_with fail
        (with_reducible refine (hi1 _).mono ?_); rintro e w7 ⟨rfl, rfl⟩; go_wp2_with fail
        (with_reducible refine (hi1 _).mono ?_); rintro e w7 ⟨rfl, rfl⟩; go_wp2_with fail
        (with_reducible refine (hi2 _).mono ?_); rintro e w7 ⟨rfl, rfl⟩; go_wp2_with fail
        (with_reducible refine (law_awake HS9.out HT9.out).mono ?_); rintro e w9 ⟨rfl, G9, hG9, S9⟩; go_wp2_with fail; exact hK.out _ _ ⟨rfl, S9.above (HG9.out.trans hG9)⟩
      | true =>
        rw [hn2] at hi2
        have hlt := in_iff thn hn2
        obtain rfl : x2 = 0 := by rw [HX2.out.1, hl]; unfold slotE; rw [hn2, if_pos rfl, if_neg (by omega)]
        clear hl hn hn2
        go_wp2_with fail
        (with_reducible refine (hi1 _).mono ?_); rintro e w7 ⟨rfl, rfl⟩; go_wp2_with fail
        (with_reducible refine (hi1 _).mono ?_); rintro e w7 ⟨rfl, rfl⟩; go_wp2_with fail
        (with_reducible refine (hi2 _).mono ?_); rintro e w7 ⟨rfl, rfl⟩; go_wp2_with fail
        (with_reducible refine (law_awake HS9.out HT9.out).mono ?_); rintro e w9 ⟨rfl, G9, hG9, S9⟩; go_wp2_with fail; exact hK.out _ _ ⟨rfl, S9.above (HG9.out.trans hG9)⟩
    | true =>
      rw [hn] at hi1
      have hlt := in_iff now hn
      obtain rfl : x1 = 0 := by rw [HX1.out]; unfold slotE; rw [hn, if_pos rfl, if_neg (by omega)]
      have hl : s1.last = now := by rw [HX2.out.2.1]; unfold slotL; rw [if_pos ⟨hn, hlt⟩]
      cases hn2 : tickOk thn with
      | false =>
        rw [hn2] at hi2
        obtain rfl : x2 = 11 := by rw [HX2.out.1]; unfold slotE; rw [hn2]; rfl
        clear hl hn hn2 hlt
        go_wp2_with fail
        (with_reducible refine (hi1 _).mono ?_); rintro e w7 ⟨rfl, rfl⟩; go_wp2_with fail
        (with_reducible refine (hi1 _).mono ?_); rintro e w7 ⟨rfl, rfl⟩; go_wp2_with fail
        (with_reducible refine (hi2 _).mono ?_); rintro e w7 ⟨rfl, rfl⟩; go_wp2_with fail
        (with_reducible refine (law_awake HS9.out HT9.out).mono ?_); rintro e w9 ⟨rfl, G9, hG9, S9⟩; go_wp2_with fail; exact hK.out _ _ ⟨rfl, S9.above (HG9.out.trans hG9)⟩
      | true =>
        rw [hn2] at hi2
        by_cases hle : thn ≤ now
        · obtain rfl : x2 = 25 := by rw [HX2.out.1, hl]; unfold slotE; rw [hn2, if_pos rfl, if_pos hle]
          have hng : decide (now < thn) = false := decide_eq_false (by omega)
          have hgq : decide (thn > now) = false := decide_eq_false (by omega)
          clear hl hn hn2 hlt hle
          go_wp2_with fail
          (with_reducible refine (hi1 _).mono ?_); rintro e w7 ⟨rfl, rfl⟩; go_wp2_with fail
          (with_reducible refine (hi1 _).mono ?_); rintro e w7 ⟨rfl, rfl⟩; go_wp2_with fail
          (with_reducible refine (hi2 _).mono ?_); rintro e w7 ⟨rfl, rfl⟩; go_wp2_with fail
          (with_reducible refine (law_awake HS9.out HT9.out).mono ?_); rintro e w9 ⟨rfl, G9, hG9, S9⟩; go_wp2_with fail; exact hK.out _ _ ⟨rfl, S9.above (HG9.out.trans hG9)⟩
        · obtain rfl : x2 = 0 := by rw [HX2.out.1, hl]; unfold slotE; rw [hn2, if_pos rfl, if_neg hle]
          have hng : now < thn := by omega
          clear hl hn hn2 hlt hle
          go_wp2_with fail
          (with_reducible refine (hi1 _).mono ?_); rintro e w7 ⟨rfl, rfl⟩; go_wp2_with fail
          (with_reducible refine (hi1 _).mono ?_); rintro e w7 ⟨rfl, rfl⟩; go_wp2_with fail
          (with_reducible refine (hi2 _).mono ?_); rintro e w7 ⟨rfl, rfl⟩; go_wp2_with fail
          (with_reducible refine (law_awake HS9.out HT9.out).mono ?_); rintro e w9 ⟨rfl, G9, hG9, S9⟩; go_wp2_with fail; exact hK.out _ _ ⟨rfl, S9.above (HG9.out.trans hG9)⟩
end
end Go.Proofs.YtcecfhfbcdbofaaGreatDoor
