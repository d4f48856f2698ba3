/- The walk over step. -/
import Derived.Test.YtkjkekhhhbopcaaStp
set_option linter.unusedSimpArgs false
set_option linter.unusedVariables false
namespace Go.Proofs.Ytkjkekhhhbopcaa
open Go.RowKit

theorem addF_len (lim : Int) (F : List Fd) (x : Fd) : (addF lim F x).length + (shrF (lim - fsz1 x) F).2 = F.length + (if (fsz1 x : Int) ≤ lim then 1 else 0) := by
  have := shrF_len (lim - fsz1 x) F
  unfold addF
  rw [List.length_append]
  split <;> simp <;> omega
theorem results_ttt {P : Program} {fn : Func} {p1 p2 p3 : Tmp} (h : fn.results = #[.tmp p1, .tmp p2, .tmp p3]) (tmps : Array Value) (w : World) : (results fn tmps).run P w = .ok (.tuple #[tmps.getD p1 undef, tmps.getD p2 undef, tmps.getD p3 undef]) w := by
  simp [results, h]
section
variable {G : Gnd} {w w' : World} {l : List Asrt} {p : Nat} {Z F : List Fd} {lim : Int}
set_option maxHeartbeats 8000000 in
set_option maxRecDepth 100000 in
theorem law_step1 {v : Value} (H : Sat G w (tbA p Z F lim :: l)) (wf : TWf Z F lim) (hv : RF (cellR G.ro) v F.reverse) (k n : Int) (x : Fd) (h1 : x.1.length ≤ 140737488351232) (h2 : x.2.length ≤ 140737488351232) (hk : k = 1) :
    Calls Try.prog 16 #[.pointer (some ⟨p, 0, none⟩), v, .int .i64 lim, .agg #[.int .i64 k, .int .i64 n, .string (bstr x.1), .string (bstr x.2)]] w (fun e w' => ∃ u G' Z', G.le G' ∧ e = .returned (.tuple #[u, .int .i64 (stepF lim F ⟨k, n, x⟩).2, .bool true]) ∧ RF (cellR G'.ro) u (stepF lim F ⟨k, n, x⟩).1.reverse ∧ TWf Z' (stepF lim F ⟨k, n, x⟩).1 (stepF lim F ⟨k, n, x⟩).2 ∧ Sat G' w' (tbA p Z' (stepF lim F ⟨k, n, x⟩).1 (stepF lim F ⟨k, n, x⟩).2 :: l)) := by
  refine calls_any fun K hK => ?_
  have hst : stepF lim F ⟨k, n, x⟩ = (addF lim F x, lim) := by unfold stepF; rw [if_pos hk]
  rw [hst] at hK
  subst hk
  have hlen := addF_len lim F x
  have S0 := H.newBlk #[.int .i64 1, .int .i64 n, .string (bstr x.1), .string (bstr x.2)] 36
  have hl0 := wf.l0
  have hl1 := wf.l1
  have hsz := wf.sz
  have hfl := wf.len
  have hfs : fsz F ≤ 65536 := by omega
  have hfl4 : F.length ≤ 4000 := by omega
  have HWF := Lib.hid wf
  obtain ⟨A, c, rfl, -, -, -, -⟩ := id hv
  rw [List.length_reverse] at hv ⊢
  obtain ⟨nl, hnl⟩ : ∃ nl, nl = F.length := ⟨_, rfl⟩
  rw [← hnl] at hv hlen ⊢
  have HV := Lib.hid hv
  have hnb : nl ≤ 4000 := by omega
  have HBD := Lib.hid (And.intro hfs hfl4)
  have HNL := Lib.hid hnl
  clear hv wf H hst hsz hfl hfs hfl4 hnl
  go_enter Try.func16, Try.ntmps16
  go_upto_region 3 with fail
  generalize w.heap.size = r at *
  refine wp_world S0 fun w1 S1 => ?_
  have d2 := S1.cell 2
  have d3 := S1.cell 3
  have hp := law_pair S1 x
  clear S0
  go_wp2_with fail
  (with_reducible refine hp.mono ?_)
  clear hp d2 d3 S1
  rintro e w2 ⟨rfl, S2⟩
  have ha := ref_add S2 HV.out lim hl0 hl1 x HBD.out.1 HBD.out.2 (by omega) (by omega)
  clear S2
  go_wp2_with fail
  (with_reducible refine ha.mono ?_)
  clear ha
  rintro e w3 ⟨u, G1, hG1, rfl, hu, S3⟩
  obtain ⟨B, c2, rfl, -, -, -, -⟩ := id hu
  rw [List.length_reverse] at hu ⊢
  obtain ⟨yl, hyl⟩ : ∃ yl, yl = (addF lim F x).length := ⟨_, rfl⟩
  obtain ⟨K0, hK0⟩ : ∃ K0, K0 = (shrF (lim - fsz1 x) F).2 := ⟨_, rfl⟩
  have hs := fd_size S3 x.1 x.2 (by omega) (by omega)
  have hsx : ((fsz1 (x.1, x.2) : Nat) : Int) = (fsz1 x : Nat) := rfl
  obtain ⟨sx, hsx2⟩ : ∃ sx, sx = fsz1 x := ⟨_, rfl⟩
  rw [hsx, ← hsx2] at hs
  rw [← hyl] at hu hlen ⊢
  rw [← hK0, ← hsx2] at hlen
  have HSX := Lib.hid hsx2
  have HU := Lib.hid hu
  have HK0 := Lib.hid hK0
  have d2 := S3.cell 2
  have d3 := S3.cell 3
  have HKN : Hid (K0 ≤ 4000 ∧ yl ≤ 4001) := Lib.hid (by have hk4 := shrF_len (lim - fsz1 x) F; rw [← hK0] at hk4; have := HNL.out; split at hlen <;> omega)
  have hw1 : IntKind.i64.wrap ((nl : Int) + 1) = ((nl + 1 : Nat) : Int) := by rw [IntWalk.i64_in _ (by omega)]; omega
  clear hu hyl hsx hsx2
  by_cases hfit : (sx : Int) ≤ lim
  · rw [if_pos hfit] at hlen
    have hw2 : IntKind.i64.wrap (((nl + 1 : Nat) : Int) - (yl : Int)) = (K0 : Int) := by rw [IntWalk.i64_in _ (by have := HKN.out; omega)]; omega
    clear hlen hK0
    generalize ((nl + 1 : Nat) : Int) = nn at *
    have hgt : ¬ (lim < (sx : Int)) := by omega
    go_wp2_with fail
    (with_reducible refine hs.mono ?_)
    clear hs d2 d3 S3
    rintro e w4 ⟨rfl, S4⟩
    have d2 := S4.cell 2
    have d3 := S4.cell 3
    have had := tb_add S4.swap HWF.out x (by omega) (by omega)
    rw [← HK0.out] at had
    clear S4
    go_wp2_with fail
    (with_reducible refine had.mono ?_)
    clear had d2 d3
    rintro e w5 ⟨rfl, Z5, wf5, S5⟩
    have HS := Lib.hid S5
    have HW5 := Lib.hid wf5
    clear S5 wf5
    go_wp2_with fail
    refine bodyPost_ret (results_ttt (p1 := 8) (p2 := 9) (p3 := 10) rfl _ _) rfl ?_
    exact hK.out _ _ ⟨_, G1, Z5, hG1, rfl, HU.out, HW5.out, HS.out.drop2⟩
  · rw [if_neg hfit] at hlen
    have hgt : lim < (sx : Int) := by omega
    have hk0 : K0 = nl := by
      have h3 := HK0.out
      rw [shrF_all (by have := HSX.out; omega)] at h3
      simp only at h3
      exact h3.trans HNL.out.symm
    clear hlen hK0
    go_wp2_with fail
    (with_reducible refine hs.mono ?_)
    clear hs d2 d3 S3
    rintro e w4 ⟨rfl, S4⟩
    have d2 := S4.cell 2
    have d3 := S4.cell 3
    have had := tb_add S4.swap HWF.out x (by omega) (by omega)
    rw [← HK0.out, hk0] at had
    clear S4
    go_wp2_with fail
    (with_reducible refine had.mono ?_)
    clear had d2 d3
    rintro e w5 ⟨rfl, Z5, wf5, S5⟩
    have HS := Lib.hid S5
    have HW5 := Lib.hid wf5
    clear S5 wf5
    go_wp2_with fail
    refine bodyPost_ret (results_ttt (p1 := 8) (p2 := 9) (p3 := 10) rfl _ _) rfl ?_
    exact hK.out _ _ ⟨_, G1, Z5, hG1, rfl, HU.out, HW5.out, HS.out.drop2⟩
set_option maxHeartbeats 8000000 in
set_option maxRecDepth 100000 in
theorem law_step2 {v : Value} (H : Sat G w (tbA p Z F lim :: l)) (wf : TWf Z F lim) (hv : RF (cellR G.ro) v F.reverse) (k n : Int) (x : Fd) (hk : k = 2) :
    Calls Try.prog 16 #[.pointer (some ⟨p, 0, none⟩), v, .int .i64 lim, .agg #[.int .i64 k, .int .i64 n, .string (bstr x.1), .string (bstr x.2)]] w (fun e w' => ∃ u G' Z', G.le G' ∧ e = .returned (.tuple #[u, .int .i64 (stepF lim F ⟨k, n, x⟩).2, .bool true]) ∧ RF (cellR G'.ro) u (stepF lim F ⟨k, n, x⟩).1.reverse ∧ TWf Z' (stepF lim F ⟨k, n, x⟩).1 (stepF lim F ⟨k, n, x⟩).2 ∧ Sat G' w' (tbA p Z' (stepF lim F ⟨k, n, x⟩).1 (stepF lim F ⟨k, n, x⟩).2 :: l)) := by
  refine calls_any fun K hK => ?_
  have hl1 := wf.l1
  have hsz := wf.sz
  have hfl := wf.len
  have hfs : fsz F ≤ 65536 := by omega
  have hfl4 : F.length ≤ 4000 := by omega
  have S0 := H.newBlk #[.int .i64 k, .int .i64 n, .string (bstr x.1), .string (bstr x.2)] 36
  obtain ⟨A, c, rfl, -, -, -, -⟩ := id hv
  rw [List.length_reverse] at hv ⊢
  have HV := Lib.hid hv
  by_cases hn : lRight n = true
  · have hst : stepF lim F ⟨k, n, x⟩ = ((shrF n F).1, n) := by unfold stepF; rw [if_neg (show ¬ (k = 1) by omega), if_pos hk, if_pos hn]
    rw [hst] at hK
    subst hk
    obtain ⟨a1, a2⟩ := of_decide_eq_true hn
    have b1 : ¬ (n < 0) := by omega
    have b2 : ¬ (65536 < n) := by omega
    have hrz := fun W (S : Sat G W (blk w.heap.size #[.int .i64 2, .int .i64 n, .string (bstr x.1), .string (bstr x.2)] 36 :: tbA p Z F lim :: l)) => tb_resize S.swap wf n hn
    have HBD := Lib.hid hfs
    have HSL := Lib.hid (shrF_len n F)
    have HNB := Lib.hid hfl4
    obtain ⟨K0, hK0⟩ : ∃ K0, K0 = (shrF n F).2 := ⟨_, rfl⟩
    rw [← hK0] at hrz HSL
    clear hK0 hst H hn hl1 hsz hfl hfs hfl4 wf hv
    obtain ⟨nl, hnl⟩ : ∃ nl, nl = F.length := ⟨_, rfl⟩
    rw [← hnl] at HV HSL HNB ⊢
    clear hnl
    go_enter Try.func16, Try.ntmps16
    go_upto_region 9 with fail
    generalize w.heap.size = r at *
    refine wp_world S0 fun w1 S1 => ?_
    have d1 := S1.cell 1
    have hrz1 := hrz w1 S1
    clear S0 hrz S1
    go_wp2_with fail
    (with_reducible refine hrz1.mono ?_)
    clear hrz1 d1
    rintro e w2 ⟨rfl, Z1, wf1, S2⟩
    have d1 := S2.swap.cell 1
    have hrr := ref_resize S2 HV.out n HBD.out
    have HW1 := Lib.hid wf1
    clear S2 wf1
    go_wp2_with fail
    (with_reducible refine hrr.mono ?_)
    clear hrr d1
    rintro e w3 ⟨u, rfl, hu, S3⟩
    have d1 := S3.swap.cell 1
    obtain ⟨B, c2, rfl, -, -, -, -⟩ := id hu
    rw [List.length_reverse] at hu ⊢
    have hsl := HSL.out
    have hnb := HNB.out
    obtain ⟨yl, hyl⟩ : ∃ yl, yl = (shrF n F).1.length := ⟨_, rfl⟩
    rw [← hyl] at hu hsl ⊢
    have HU := Lib.hid hu
    have HS := Lib.hid S3
    have hw2 : IntKind.i64.wrap ((nl : Int) - (yl : Int)) = (K0 : Int) := by rw [IntWalk.i64_in _ (by omega)]; omega
    clear hu hyl hsl S3
    go_upto_region 13 with fail
    go_quiet (fail)
    go_wp2_with fail
    refine bodyPost_ret (results_ttt (p1 := 8) (p2 := 9) (p3 := 10) rfl _ _) rfl ?_
    exact hK.out _ _ ⟨_, G, Z1, Gnd.le.rfl', rfl, HU.out, HW1.out, (HS.out.drewQ _).drop2⟩
  · have hn := eq_false_of_ne_true hn
    have hst : stepF lim F ⟨k, n, x⟩ = (F, lim) := by unfold stepF; rw [if_neg (show ¬ (k = 1) by omega), if_pos hk, if_neg (by rw [hn]; decide)]
    rw [hst] at hK
    subst hk
    have h3 : ¬ (0 ≤ n ∧ n ≤ 65536) := of_decide_eq_false hn
    have hrz := fun W (S : Sat G W (blk w.heap.size #[.int .i64 2, .int .i64 n, .string (bstr x.1), .string (bstr x.2)] 36 :: tbA p Z F lim :: l)) => tb_resize_not S.swap n hn
    have HWF := Lib.hid wf
    clear hst H hn hl1 hsz hfl hfs hfl4 wf hv
    by_cases h4 : n < 0
    · clear h3
      go_enter Try.func16, Try.ntmps16
      go_upto_region 9 with fail
      generalize w.heap.size = r at *
      refine wp_world S0 fun w1 S1 => ?_
      have d1 := S1.cell 1
      have hrz1 := hrz w1 S1
      clear S0 hrz S1
      go_wp2_with fail
      (with_reducible refine hrz1.mono ?_)
      clear hrz1 d1
      rintro e w2 ⟨rfl, S2⟩
      have d1 := S2.swap.cell 1
      have HS := Lib.hid S2
      clear S2
      go_wp2_with fail
      refine bodyPost_ret (results_ttt (p1 := 8) (p2 := 9) (p3 := 10) rfl _ _) rfl ?_
      exact hK.out _ _ ⟨_, G, Z, Gnd.le.rfl', rfl, HV.out, HWF.out, HS.out.drop2⟩
    · have h5 : 65536 < n := by omega
      clear h3
      go_enter Try.func16, Try.ntmps16
      go_upto_region 9 with fail
      generalize w.heap.size = r at *
      refine wp_world S0 fun w1 S1 => ?_
      have d1 := S1.cell 1
      have hrz1 := hrz w1 S1
      clear S0 hrz S1
      go_wp2_with fail
      (with_reducible refine hrz1.mono ?_)
      clear hrz1 d1
      rintro e w2 ⟨rfl, S2⟩
      have d1 := S2.swap.cell 1
      have HS := Lib.hid S2
      clear S2
      go_wp2_with fail
      refine bodyPost_ret (results_ttt (p1 := 8) (p2 := 9) (p3 := 10) rfl _ _) rfl ?_
      exact hK.out _ _ ⟨_, G, Z, Gnd.le.rfl', rfl, HV.out, HWF.out, HS.out.drop2⟩
set_option maxHeartbeats 1000000 in
theorem law_step0 {v : Value} (H : Sat G w (tbA p Z F lim :: l)) (wf : TWf Z F lim) (hv : RF (cellR G.ro) v F.reverse) (k n : Int) (x : Fd) (hk : k ≠ 1) (hk2 : k ≠ 2) :
    Calls Try.prog 16 #[.pointer (some ⟨p, 0, none⟩), v, .int .i64 lim, .agg #[.int .i64 k, .int .i64 n, .string (bstr x.1), .string (bstr x.2)]] w (fun e w' => ∃ u G' Z', G.le G' ∧ e = .returned (.tuple #[u, .int .i64 (stepF lim F ⟨k, n, x⟩).2, .bool true]) ∧ RF (cellR G'.ro) u (stepF lim F ⟨k, n, x⟩).1.reverse ∧ TWf Z' (stepF lim F ⟨k, n, x⟩).1 (stepF lim F ⟨k, n, x⟩).2 ∧ Sat G' w' (tbA p Z' (stepF lim F ⟨k, n, x⟩).1 (stepF lim F ⟨k, n, x⟩).2 :: l)) := by
  refine calls_any fun K hK => ?_
  have hst : stepF lim F ⟨k, n, x⟩ = (F, lim) := by unfold stepF; rw [if_neg hk, if_neg hk2]
  rw [hst] at hK
  have S0 := H.newBlk #[.int .i64 k, .int .i64 n, .string (bstr x.1), .string (bstr x.2)] 36
  have HS := Lib.hid S0
  have z1 : (k == 1) = false := beq_eq_false_iff_ne.2 hk
  have z2 : (k == 2) = false := beq_eq_false_iff_ne.2 hk2
  have HV := Lib.hid hv
  have HWF := Lib.hid wf
  clear hst H hk hk2 S0 hv wf
  go_enter Try.func16, Try.ntmps16
  go_wp2_with fail
  refine bodyPost_ret (results_ttt (p1 := 8) (p2 := 9) (p3 := 10) rfl _ _) rfl ?_
  exact hK.out _ _ ⟨_, G, Z, Gnd.le.rfl', rfl, HV.out, HWF.out, HS.out.drop⟩
theorem law_step {v : Value} (H : Sat G w (tbA p Z F lim :: l)) (wf : TWf Z F lim) (hv : RF (cellR G.ro) v F.reverse) (k n : Int) (x : Fd) (h1 : x.1.length ≤ 140737488351232) (h2 : x.2.length ≤ 140737488351232) :
    Calls Try.prog 16 #[.pointer (some ⟨p, 0, none⟩), v, .int .i64 lim, .agg #[.int .i64 k, .int .i64 n, .string (bstr x.1), .string (bstr x.2)]] w (fun e w' => ∃ u G' Z', G.le G' ∧ e = .returned (.tuple #[u, .int .i64 (stepF lim F ⟨k, n, x⟩).2, .bool true]) ∧ RF (cellR G'.ro) u (stepF lim F ⟨k, n, x⟩).1.reverse ∧ TWf Z' (stepF lim F ⟨k, n, x⟩).1 (stepF lim F ⟨k, n, x⟩).2 ∧ Sat G' w' (tbA p Z' (stepF lim F ⟨k, n, x⟩).1 (stepF lim F ⟨k, n, x⟩).2 :: l)) := by
  by_cases hk : k = 1
  · exact law_step1 H wf hv k n x h1 h2 hk
  · by_cases hk2 : k = 2
    · exact law_step2 H wf hv k n x hk2
    · exact law_step0 H wf hv k n x hk hk2
end
end Go.Proofs.Ytkjkekhhhbopcaa
