/- Chapter 14: Fail, and the law's step, walked. -/
import Derived.Test.YtecnddhfjjnbkaaDoorSim
set_option linter.unusedSimpArgs false
set_option linter.unusedVariables false
namespace Go.Proofs.YtecnddhfjjnbkaaDoor
open Go.RowKit

theorem results_ttt {P : Program} {fn : Func} {p1 p2 p3 : Tmp} (h : fn.results = #[.tmp p1, .tmp p2, .tmp p3]) (tmps : Array Value) (w : World) : (results fn tmps).run P w = .ok (.tuple #[tmps.getD p1 undef, tmps.getD p2 undef, tmps.getD p3 undef]) w := by
  simp [results, h]
theorem zeroCells_one (v : Value) (n : Nat) : (Builtin.zeroCells #[v] n).toList = List.replicate n v := by
  apply List.ext_getElem?
  intro k
  simp only [Builtin.zeroCells, Array.toList_map, List.getElem?_map, Array.toList_range, List.size_toArray, List.length_cons, List.length_nil, Nat.mul_one, Nat.zero_add, Nat.mod_one]
  by_cases hk : k < n
  · rw [List.getElem?_range hk, List.getElem?_replicate, if_pos hk]; rfl
  · rw [List.getElem?_eq_none (by simp; omega), List.getElem?_replicate, if_neg hk]; rfl
theorem encs_rep (n : Nat) : encs lenc (List.replicate n 0) = List.replicate n (.int .i64 0) := by
  induction n with
  | zero => rfl
  | succ n ih => rw [List.replicate_succ, List.replicate_succ, ← ih]; rfl
theorem lay_zero {cap : Nat} {cur : Array Value} {L : List Int} (La : Lay lenc 1 cap cur L) : Lay lenc 1 cap (setMid cur 0 (Builtin.zeroCells #[Value.int .i64 0] L.length).toList) (List.replicate L.length 0) := by
  have h1 := La.len
  have h2 := La.all
  refine ⟨lenc_len, by rw [setMid_size]; exact La.all, by simpa using La.len, ?_⟩
  rw [setMid_list _ _ _ (by rw [zeroCells_one, List.length_replicate]; omega), zeroCells_one, encs_rep]
  simp
section
variable {G : Gnd} {w w' : World} {l : List Asrt} {g : Nat} {ten quo last : Int} {F : List Ent} {L : List Int}
set_option maxHeartbeats 1000000 in
theorem rg_fail (H : Sat G w (rgA g ten quo F L last :: l)) (hL : 0 < L.length) : Calls Tryd.prog 32 #[.pointer (some ⟨g, 0, none⟩)] w fun e w' => e = .returned (.int .i64 F.length) ∧ Sat G w' (rgA g ten quo [] (List.replicate L.length 0) last :: l) := by
  refine calls_any fun K hK => ?_
  obtain ⟨v, u, S⟩ := rg_iff.1 H
  obtain ⟨A, c, rfl, hnc, hcm, -⟩ := S.swap.ownSlice
  obtain ⟨b, cap, cur, rfl, hcap, La, S2⟩ := (S.re [2, 0, 1]).layOpen lenc_len hL
  have hroom : 0 + L.length * 1 ≤ cur.size := by rw [La.all]; have := La.len; omega
  have HLA := Lib.hid La
  have HCP := Lib.hid hcap
  have HLL := Lib.hid hL
  have S3 := S2.swap
  have c2 := S3.cell 2
  have f2 := S3.frozen 2
  have S4 := S3.setCell 2 (.slice none 0 0)
  clear H S S2 La hcap
  obtain ⟨N, hN⟩ : ∃ N, N = L.length := ⟨_, rfl⟩
  rw [← hN] at hroom S3 S4 hL
  have HN := Lib.hid hN
  clear hN
  have c3 := S4.cell 3
  have S5 := S4.swap
  clear S3 S4
  go_enter Tryd.func32, Tryd.ntmps32
  go_wp2_with (refine st_clear rfl _ 64 rfl 3 (.int .i64 0) Tryd.underlying64 (by kernel_rfl) (by simp [Value.cells, Value.oneCell']) b 0 N cap rfl S5 hroom fun W6 S6 => ?_)
  rw [if_neg (by omega)] at S6
  refine hK.out _ _ ⟨rfl, rg_iff.2 ⟨.slice none 0 0, .slice (some ⟨b, 0, none⟩) N cap, ?_⟩⟩
  have hz := lay_zero HLA.out
  rw [← HN.out] at hz ⊢
  have S7 := S6.layClose hz HCP.out N (by simp)
  exact ((S7.re [1, 0, 2]).re [0, 1, 2] |>.re [2, 0, 1]).drop.ownNil 72 11 |>.re [1, 0, 2]
theorem roOpen_same (X : List RSt) (ten quo last m : Int) (h : ¬ (roOpen X ten quo last m).2 = 0) : (roOpen X ten quo last m).1 = X := by
  unfold roOpen at h ⊢
  split
  · rfl
  · rename_i h1
    rw [if_neg h1] at h
    split
    · rfl
    · rename_i h2; rw [if_neg h2] at h; exact absurd rfl h
theorem findR_some {X : List RSt} {id : Int} {i : Nat} (h : findX X id = some i) : findR X id = i := by unfold findR; unfold findX at h; rw [h]
theorem findR_none {X : List RSt} {id : Int} (h : findX X id = none) : findR X id = -1 := by unfold findR; unfold findX at h; rw [h]
set_option maxHeartbeats 8000000 in
set_option maxRecDepth 100000 in
theorem law_step {k T : Nat} {s : StM} {v : Value} (H : Sat G w (rgA g T quo s.F s.L s.last :: l)) (h : SInv k T quo s) (hk : k ≤ 300) (ht : TabG G) (hv : RL (cellR G.ro) v s.X) (A : Option Addr) (n c : Nat) (o : OpD) :
    Calls Tryd.prog 15 #[.pointer (some ⟨g, 0, none⟩), v, .int .i64 s.last, .agg #[.int .i64 T, .int .i64 quo, .slice A n c], .agg #[.int .i64 o.k, .int .i64 o.n, .int .i64 o.e]] w fun e w' => ∃ u G', G.le G' ∧ e = .returned (.tuple #[u, .int .i64 (stepM T quo s o).last, .bool true]) ∧ RL (cellR G'.ro) u (stepM T quo s o).X ∧ Sat G' w' (rgA g T quo (stepM T quo s o).F (stepM T quo s o).L (stepM T quo s o).last :: l) := by
  refine calls_any fun K hK => ?_
  obtain ⟨ok, on, oe⟩ := o
  have hlen := h.sim.len
  have hfew := h.r.few
  have S1 := (H.newBlk #[.int .i64 T, .int .i64 quo, .slice A n c] 29).newBlk #[.int .i64 ok, .int .i64 on, .int .i64 oe] 37
  simp only [World.size_alloc] at S1
  have d0 := S1.cell 0
  have d1 := S1.cell 1
  have d2 := S1.cell 2
  have hT0 := h.r.t0
  have hT1 := h.r.t1
  have HI := Lib.hid h
  have HT := Lib.hid ht
  have HV := Lib.hid hv
  unfold stepM at hK
  simp only at hK
  obtain ⟨A1, c1, rfl, -⟩ := id hv
  have HLEN := Lib.hid hlen
  have hXf : s.X.length ≤ 300 := by omega
  clear H h ht hv hlen
  have S2 := S1.re [2, 0, 1]
  clear S1
  by_cases k1 : ok = 1
  · subst k1
    rw [if_pos rfl] at hK
    simp only at hK
    have hop := rg_open S2 (HI.out.r.wf (by omega)) HT.out on
    by_cases r0 : on < 0
    · rw [if_neg (by omega)] at hK
      have e1 : rOpen T quo s.F s.L s.last on = ⟨s.F, s.L, s.last, 0, 11⟩ := if_pos (if_neg (by omega))
      rw [e1] at hop hK
      clear e1 S2
      go_enter Tryd.func15, Tryd.ntmps15
      go_wp2_with fail
      (with_reducible refine (hop).mono ?_); rintro e w1 ⟨rfl, S3⟩
      clear hop d0 d1 d2
      have d1 := S3.swap.cell 1
      have HS := Lib.hid S3.swap.drop.swap.drop
      clear S3
      go_wp2_with fail
      first
      | exact hK.out _ _ ⟨_, G, Gnd.le.rfl', rfl, HV.out, HS.out⟩
      | (refine bodyPost_ret (results_ttt rfl _ _) rfl ?_; exact hK.out _ _ ⟨_, G, Gnd.le.rfl', rfl, HV.out, HS.out⟩)
    by_cases r1 : 1073741823 < on
    · rw [if_neg (by omega)] at hK
      have e1 : rOpen T quo s.F s.L s.last on = ⟨s.F, s.L, s.last, 0, 11⟩ := if_pos (if_neg (by omega))
      rw [e1] at hop hK
      clear e1 S2
      go_enter Tryd.func15, Tryd.ntmps15
      go_wp2_with fail
      (with_reducible refine (hop).mono ?_); rintro e w1 ⟨rfl, S3⟩
      clear hop d0 d1 d2
      have d1 := S3.swap.cell 1
      have HS := Lib.hid S3.swap.drop.swap.drop
      clear S3
      go_wp2_with fail
      first
      | exact hK.out _ _ ⟨_, G, Gnd.le.rfl', rfl, HV.out, HS.out⟩
      | (refine bodyPost_ret (results_ttt rfl _ _) rfl ?_; exact hK.out _ _ ⟨_, G, Gnd.le.rfl', rfl, HV.out, HS.out⟩)
    rw [if_pos (by omega)] at hK
    obtain ⟨m, rfl⟩ : ∃ m : Nat, on = m := ⟨on.toNat, by omega⟩
    obtain ⟨p1, p2, p3, -, -, -⟩ := HI.out.opn m (by omega) (by omega)
    rw [p1, p2] at hop
    rw [p3] at hop hK
    have hro := fun (W : World) (l : List Asrt) (S : Sat G W l) => ref_open S HV.out (by omega) T (by omega) (by omega) quo s.last m (by omega)
    generalize (rOpen T quo s.F s.L s.last m).F = OF at *
    generalize (rOpen T quo s.F s.L s.last m).L = OL at *
    clear p1 p2 p3 S2
    have hsm := roOpen_same s.X T quo s.last m
    obtain ⟨Q, hQ⟩ : ∃ Q, Q = roOpen s.X T quo s.last m := ⟨_, rfl⟩
    simp only [← hQ] at hop hK hro hsm
    clear hQ
    obtain ⟨QX, want⟩ := Q
    simp only at hop hK hro hsm
    by_cases w0 : want = 0
    · subst w0
      rw [if_pos rfl] at hop hK
      simp only [if_true] at hop hK
      go_enter Tryd.func15, Tryd.ntmps15
      go_wp2_with fail
      (with_reducible refine (hop).mono ?_); rintro e w1 ⟨rfl, S3⟩
      clear hop d0 d1 d2
      have d1 := S3.swap.cell 1
      have q0 := (S3.re [2, 0, 1]).cell 0
      have q1 := (S3.re [2, 0, 1]).cell 1
      have ho := hro _ _ S3
      clear S3 hro
      go_wp2_with fail
      (with_reducible refine (ho).mono ?_); rintro e w2 ⟨u, G1, hG1, rfl, hu, S4⟩
      clear ho d1 q0 q1
      go_upto_region 9 with fail
      have d1 := S4.swap.cell 1
      have HS := Lib.hid S4
      have zb : ((2 * (m : Int) + 1) == 2 * (m : Int) + 1) = true := beq_self_eq_true _
      clear S4
      go_quiet (fail)
      go_wp2_with fail
      first
      | exact hK.out _ _ ⟨_, G1, hG1, rfl, hu, (HS.out.drewQ _).swap.drop.swap.drop⟩
      | (refine bodyPost_ret (results_ttt rfl _ _) rfl ?_; exact hK.out _ _ ⟨_, G1, hG1, rfl, hu, (HS.out.drewQ _).swap.drop.swap.drop⟩)
    · rw [if_neg w0] at hop hK
      simp only [if_neg w0] at hop hK
      obtain rfl := hsm w0
      have w0b : (want != 0) = true := by simp [w0]
      have wb : (want == want) = true := beq_self_eq_true _
      go_enter Tryd.func15, Tryd.ntmps15
      go_wp2_with fail
      (with_reducible refine (hop).mono ?_); rintro e w1 ⟨rfl, S3⟩
      clear hop d0 d1 d2
      have d1 := S3.swap.cell 1
      have q0 := (S3.re [2, 0, 1]).cell 0
      have q1 := (S3.re [2, 0, 1]).cell 1
      have ho := hro _ _ S3
      clear S3 hro
      go_wp2_with fail
      (with_reducible refine (ho).mono ?_); rintro e w2 ⟨u, G1, hG1, rfl, hu, S4⟩
      clear ho d1 q0 q1
      have HS := Lib.hid S4.swap.drop.swap.drop
      clear S4
      go_wp2_with fail
      first
      | exact hK.out _ _ ⟨_, G1, hG1, rfl, HV.out.mono hG1, HS.out⟩
      | (refine bodyPost_ret (results_ttt rfl _ _) rfl ?_; exact hK.out _ _ ⟨_, G1, hG1, rfl, HV.out.mono hG1, HS.out⟩)
  rw [if_neg k1] at hK
  have k1b : (ok == 1) = false := beq_eq_false_iff_ne.2 k1
  by_cases k2 : ok = 2
  · subst k2
    rw [if_pos rfl] at hK
    simp only at hK
    have hd := rg_do S2 (HI.out.r.wf (by omega)) HI.out.r.rise HT.out (HI.out.r.cnt' (by omega)) on oe
    have hfx := HI.out.sim.find on
    have hff := fun (W : World) (G1 : Gnd) (l : List Asrt) (hG : G.le G1) (S : Sat G1 W l) => ref_find ((HV.out.mono hG).sat S) (by omega) on
    clear S2
    cases ha : atE s.F on with
    | none =>
      have hs : stepX s.X on oe = s.X := by unfold stepX; rw [hfx, ha]
      rw [gDo_none oe ha] at hd hK
      rw [hs] at hK
      rw [ha] at hfx
      have hf1 := findR_none hfx
      simp only [hf1] at hff
      clear hs hf1 hfx ha
      go_enter Tryd.func15, Tryd.ntmps15
      go_wp2_with fail
      (with_reducible refine (hd).mono ?_); rintro e w1 ⟨rfl, S3⟩
      clear hd d0 d1 d2
      have S4 := S3.newBlk #[.int .i64 0, .bool false] 41
      clear S3
      go_upto_region 12 with fail
      generalize w1.heap.size = z at *
      refine wp_world S4 fun w2 S5 => ?_
      clear S4
      have d1 := S5.pull2.cell 1
      have e0 := S5.cell 0
      have e1 := S5.cell 1
      have hf := hff _ _ _ Gnd.le.rfl' S5
      have hok := fa_ok S5 0 false
      rw [show ((0 : Int) == 0 && !false) = true from rfl] at hok
      clear S5 hff
      go_wp2_with fail
      (with_reducible refine (hf).mono ?_); rintro e w3 ⟨rfl, rfl⟩
      clear hf
      go_wp2_with fail
      (with_reducible refine (hok).mono ?_); rintro e w3 ⟨rfl, S6⟩
      clear hok e0 e1 d1
      have HS := Lib.hid (S6.drop.swap.drop.swap.drop)
      clear S6
      go_wp2_with fail
      first
      | exact hK.out _ _ ⟨_, G, Gnd.le.rfl', rfl, HV.out, HS.out⟩
      | (refine bodyPost_ret (results_ttt rfl _ _) rfl ?_; exact hK.out _ _ ⟨_, G, Gnd.le.rfl', rfl, HV.out, HS.out⟩)
    | some i =>
      obtain ⟨x, hx, rfl⟩ := atE_get ha
      obtain ⟨y, hy, y1, y2, y3, y4⟩ := HI.out.sim.get hx
      have hgd := gDo_some (L := s.L) (ten := T) HI.out.r.rise oe ha hx
      have hr3 : (gDo T s.F s.L x.id oe).err = (pDo x.n oe).err ∧ (gDo T s.F s.L x.id oe).code = (pDo x.n oe).code ∧ (gDo T s.F s.L x.id oe).conn = (pDo x.n oe).conn := by
        rw [hgd]; unfold gDoAt; split <;> exact ⟨rfl, rfl, rfl⟩
      have hs : stepX s.X x.id oe = if 0 ≤ oe ∧ oe ≤ 8 then (roDo s.X i y oe).1 else s.X := by
        unfold stepX
        rw [hfx, ha]
        simp only [hy]
      rw [hr3.1, hr3.2.1, hr3.2.2] at hd
      rw [hs] at hK
      rw [ha] at hfx
      have hf1 := findR_some hfx
      simp only [hf1] at hff
      have hfar : (oe < 0 ∨ 8 < oe) → pDo x.n oe = ⟨x.n, 11, 0, false, false⟩ := fun h => far x.n oe h
      generalize (gDo T s.F s.L x.id oe).F = OF at *
      generalize (gDo T s.F s.L x.id oe).L = OL at *
      have hi := (List.getElem?_eq_some_iff.1 hy).1
      clear hs hf1 hfx ha hgd hr3
      by_cases r0 : oe < 0
      · rw [hfar (.inl r0)] at hd
        rw [if_neg (by omega)] at hK
        clear hfar
        go_enter Tryd.func15, Tryd.ntmps15
        go_wp2_with fail
        (with_reducible refine (hd).mono ?_); rintro e w1 ⟨rfl, S3⟩
        clear hd d0 d1 d2
        have S4 := S3.newBlk #[.int .i64 0, .bool false] 41
        clear S3
        go_upto_region 12 with fail
        generalize w1.heap.size = z at *
        refine wp_world S4 fun w2 S5 => ?_
        clear S4
        have d1 := S5.pull2.cell 1
        have d2 := S5.pull2.cell 2
        have e0 := S5.cell 0
        have e1 := S5.cell 1
        have hf := hff _ _ _ Gnd.le.rfl' S5
        have hok := fa_ok S5 0 false
        rw [show ((0 : Int) == 0 && !false) = true from rfl] at hok
        clear S5 hff
        go_wp2_with fail
        (with_reducible refine (hf).mono ?_); rintro e w3 ⟨rfl, rfl⟩
        clear hf
        go_wp2_with fail
        (with_reducible refine (hok).mono ?_); rintro e w3 ⟨rfl, S6⟩
        clear hok e0 e1 d1 d2
        have HS := Lib.hid (S6.drop.swap.drop.swap.drop)
        clear S6
        go_wp2_with fail
        first
        | exact hK.out _ _ ⟨_, G, Gnd.le.rfl', rfl, HV.out, HS.out⟩
        | (refine bodyPost_ret (results_ttt rfl _ _) rfl ?_; exact hK.out _ _ ⟨_, G, Gnd.le.rfl', rfl, HV.out, HS.out⟩)
      by_cases r1 : 8 < oe
      · rw [hfar (.inr r1)] at hd
        rw [if_neg (by omega)] at hK
        clear hfar
        go_enter Tryd.func15, Tryd.ntmps15
        go_wp2_with fail
        (with_reducible refine (hd).mono ?_); rintro e w1 ⟨rfl, S3⟩
        clear hd d0 d1 d2
        have S4 := S3.newBlk #[.int .i64 0, .bool false] 41
        clear S3
        go_upto_region 12 with fail
        generalize w1.heap.size = z at *
        refine wp_world S4 fun w2 S5 => ?_
        clear S4
        have d1 := S5.pull2.cell 1
        have d2 := S5.pull2.cell 2
        have e0 := S5.cell 0
        have e1 := S5.cell 1
        have hf := hff _ _ _ Gnd.le.rfl' S5
        have hok := fa_ok S5 0 false
        rw [show ((0 : Int) == 0 && !false) = true from rfl] at hok
        clear S5 hff
        go_wp2_with fail
        (with_reducible refine (hf).mono ?_); rintro e w3 ⟨rfl, rfl⟩
        clear hf
        go_wp2_with fail
        (with_reducible refine (hok).mono ?_); rintro e w3 ⟨rfl, S6⟩
        clear hok e0 e1 d1 d2
        have HS := Lib.hid (S6.drop.swap.drop.swap.drop)
        clear S6
        go_wp2_with fail
        first
        | exact hK.out _ _ ⟨_, G, Gnd.le.rfl', rfl, HV.out, HS.out⟩
        | (refine bodyPost_ret (results_ttt rfl _ _) rfl ?_; exact hK.out _ _ ⟨_, G, Gnd.le.rfl', rfl, HV.out, HS.out⟩)
      · rw [if_pos (by omega)] at hK
        obtain ⟨ev, rfl⟩ : ∃ ev : Nat, oe = ev := ⟨oe.toNat, by omega⟩
        have hsm := same_of y.s y4 ev (by omega)
        have hs1 := hsm.err
        have hs2 := hsm.ok
        rw [y3] at hs1 hs2
        unfold codeOk at hs2
        have hro := fun (W : World) (l : List Asrt) (S : Sat G W l) => ref_rdo S HV.out (by omega) i y hy y4 ev (by omega)
        have hr2 : (roDo s.X i y ev).2 = (rDo y.s ev).2 := rfl
        rw [hr2] at hro
        generalize (rDo y.s ev).2 = wh at *
        generalize hpd : pDo x.n ev = pp at *
        obtain ⟨pn, er, cd, cn, ct⟩ := pp
        simp only at hs1 hs2 hd
        generalize (roDo s.X i y ev).1 = NX at *
        have z1 : ((er == 25) == (wh == 1)) = true := by rw [hs1]; exact beq_self_eq_true _
        have z2 : ((cd == 0 && !cn) == decide (wh < 2)) = true := by rw [hs2]; exact beq_self_eq_true _
        have hok1 := fun (W : World) (l : List Asrt) (G1 : Gnd) (S : Sat G1 W l) => fa_ok S cd cn
        generalize (cd == 0 && !cn) = bo at *
        clear hfar hpd hs1 hs2 hsm hr2 hx
        go_enter Tryd.func15, Tryd.ntmps15
        go_wp2_with fail
        (with_reducible refine (hd).mono ?_); rintro e w1 ⟨rfl, S3⟩
        clear hd d0 d1 d2
        have S4 := S3.newBlk #[.int .i64 cd, .bool cn] 41
        clear S3
        go_upto_region 12 with fail
        generalize w1.heap.size = z at *
        refine wp_world S4 fun w2 S5 => ?_
        clear S4
        have d1 := S5.pull2.cell 1
        have d2 := S5.pull2.cell 2
        have e0 := S5.cell 0
        have e1 := S5.cell 1
        have hf := hff _ _ _ Gnd.le.rfl' S5
        have ho := hro _ _ S5
        clear S5 hff
        go_wp2_with fail
        (with_reducible refine (hf).mono ?_); rintro e w3 ⟨rfl, rfl⟩
        clear hf
        go_wp2_with fail
        (with_reducible refine (ho).mono ?_); rintro e w3 ⟨u, G1, hG1, rfl, hu, S6⟩
        clear ho hro d1 d2 e0 e1
        have e0 := S6.cell 0
        have e1 := S6.cell 1
        have hok := hok1 _ _ _ S6
        clear S6 hok1
        go_wp2_with fail
        (with_reducible refine (hok).mono ?_); rintro e w4 ⟨rfl, S7⟩
        clear hok e0 e1
        have HS := Lib.hid (S7.drop.swap.drop.swap.drop)
        clear S7
        go_wp2_with fail
        first
        | exact hK.out _ _ ⟨_, G1, hG1, rfl, hu, HS.out⟩
        | (refine bodyPost_ret (results_ttt rfl _ _) rfl ?_; exact hK.out _ _ ⟨_, G1, hG1, rfl, hu, HS.out⟩)
  rw [if_neg k2] at hK
  have k2b : (ok == 2) = false := beq_eq_false_iff_ne.2 k2
  by_cases k3 : ok = 3
  · subst k3
    rw [if_pos rfl] at hK
    simp only at hK
    have hf := rg_fail S2 (by have := HI.out.r.len; omega)
    have z : ((s.F.length : Int) == (s.X.length : Int)) = true := beq_iff_eq.2 (by rw [HLEN.out])
    clear S2
    go_enter Tryd.func15, Tryd.ntmps15
    go_wp2_with fail
    (with_reducible refine (hf).mono ?_); rintro e w1 ⟨rfl, S3⟩
    clear hf d0 d1 d2
    have HS := Lib.hid S3.swap.drop.swap.drop
    clear S3
    go_wp2_with fail
    first
    | exact hK.out _ _ ⟨_, G, Gnd.le.rfl', rfl, RL.nil _, HS.out⟩
    | (refine bodyPost_ret (results_ttt rfl _ _) rfl ?_; exact hK.out _ _ ⟨_, G, Gnd.le.rfl', rfl, RL.nil _, HS.out⟩)
  · rw [if_neg k3] at hK
    have k3b : (ok == 3) = false := beq_eq_false_iff_ne.2 k3
    have HS := Lib.hid S2.swap.drop.swap.drop
    clear S2
    go_enter Tryd.func15, Tryd.ntmps15
    go_wp2_with fail
    first
    | exact hK.out _ _ ⟨_, G, Gnd.le.rfl', rfl, HV.out, HS.out⟩
    | (refine bodyPost_ret (results_ttt rfl _ _) rfl ?_; exact hK.out _ _ ⟨_, G, Gnd.le.rfl', rfl, HV.out, HS.out⟩)
end
end Go.Proofs.YtecnddhfjjnbkaaDoor
