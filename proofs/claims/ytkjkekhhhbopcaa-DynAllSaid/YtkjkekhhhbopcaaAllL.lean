/- The walk of the law DynAll. -/
import Derived.Test.YtkjkekhhhbopcaaCpy
import Derived.Test.YtkjkekhhhbopcaaRegIn
set_option linter.unusedSimpArgs false
set_option linter.unusedVariables false
namespace Go.Proofs.Ytkjkekhhhbopcaa
open Go.RowKit Go.Shelf
attribute [local go_sem] Oper.semAt_some

theorem rd_ops1 {R : Hp} {d : D} {c : List Value} (hl : c.length = 1) (h : Rd R (.sl 48 (Ty.agg [.int .i64, .int .i64, (Ty.agg [.str, .str])])) d c) : ∃ v ops, c = [v] ∧ ROps R v ops := by
  obtain ⟨l, rfl⟩ : ∃ l, d = D.sl l := by cases d <;> (try simp only [Rd] at h) <;> exact ⟨_, rfl⟩
  obtain ⟨x, rfl⟩ : ∃ x, c = [x] := by
    match c, hl with
    | [v], _ => exact ⟨v, rfl⟩
  have h' : RdSl R 48 (Ty.agg [.int .i64, .int .i64, (Ty.agg [.str, .str])]) x l := h
  obtain ⟨ops, hx⟩ := ops_of h'
  exact ⟨x, ops, rfl, hx⟩
theorem arg_all {w : World} {v : Value} {d : D} (h : ArgV w (Ty.agg [.int .i64, .sl 48 (Ty.agg [.int .i64, .int .i64, (Ty.agg [.str, .str])]), .sl 48 (Ty.agg [.int .i64, .int .i64, (Ty.agg [.str, .str])]), .int .i64]) v d) : ∃ (n stop : Int) (x1 x2 : Value) (o1 o2 : List OpD), v = .agg #[.int .i64 n, x1, x2, .int .i64 stop] ∧ ROps (Gnd.of w).ro x1 o1 ∧ ROps (Gnd.of w).ro x2 o2 := by
  obtain ⟨cs, rfl, h⟩ := h
  obtain ⟨ds, rfl⟩ : ∃ ds, d = .agg ds := by cases d <;> (try simp only [Rd] at h) <;> exact ⟨_, rfl⟩
  simp only [Rd] at h
  obtain ⟨_, _, c0, _, rfl, e0, _, r0, h⟩ := rdAll_cons h
  obtain ⟨_, _, c1, _, rfl, rfl, l1, r1, h⟩ := rdAll_cons h
  obtain ⟨_, _, c2, _, rfl, rfl, l2, r2, h⟩ := rdAll_cons h
  obtain ⟨_, _, c3, _, rfl, rfl, _, r3, h⟩ := rdAll_cons h
  obtain rfl := rdAll_nil h
  obtain ⟨m0, rfl, -⟩ := rd_int1 r0
  obtain ⟨x1, o1, rfl, h1⟩ := rd_ops1 l1 r1
  obtain ⟨x2, o2, rfl, h2⟩ := rd_ops1 l2 r2
  obtain ⟨m3, rfl, -⟩ := rd_int1 r3
  exact ⟨m0, m3, x1, x2, o1, o2, by rw [show cs = #[.int .i64 m0, x1, x2, .int .i64 m3] from Array.toList_inj.1 (by rw [e0]; rfl)], h1, h2⟩
theorem results_c {P : Program} {fn : Func} {p1 : Tmp} {y1 : TypeId} (h : fn.results = #[.cell p1 y1]) (tmps : Array Value) (w : World) (g1 : Nat) (v1 : Value)
    (hp1 : tmps.getD p1 undef = .pointer (some ⟨g1, 0, none⟩)) (h1 : ∀ W : World, W.cell? ⟨g1, 0, none⟩ = some v1 → (loadVar y1 ⟨g1, 0, none⟩).run P W = .ok v1 W)
    (c1 : w.cell? ⟨g1, 0, none⟩ = some v1) : (results fn tmps).run P w = .ok v1 w := by
  have e1 : tmps[p1]?.getD undef = .pointer (some ⟨g1, 0, none⟩) := by simpa using hp1
  simp [results, h, e1, asAddr, h1 w c1]
def HAl (f : Nat → Bool) : Prop := f 12 = true → f 8 = true
def allX (r18 r9 : Nat) (xv : Value) (stop : Int) (l : List Asrt) (c : Code) (pre : List Fd) : List Asrt := pur (c = .exit 4 ∧ (pre.length : Int) = stop) :: blk r18 #[.int .i64 (pre.length : Nat)] 3 :: blk r9 #[xv] 34 :: l
def allB (r18 r9 : Nat) (xv : Value) (l : List Asrt) (pre : List Fd) : List Asrt := blk r18 #[.int .i64 (pre.length : Nat)] 3 :: blk r9 #[xv] 34 :: l
set_option maxHeartbeats 16000000 in
set_option maxRecDepth 100000 in
theorem dynAll_walk (w : World) (v0 : Value) (h0 : ∃ d, ArgV w (Ty.agg [.int .i64, .sl 48 (Ty.agg [.int .i64, .int .i64, (Ty.agg [.str, .str])]), .sl 48 (Ty.agg [.int .i64, .int .i64, (Ty.agg [.str, .str])]), .int .i64]) v0 d) :
    Calls Try.prog 5 #[v0] w fun e w' => e = .returned (.bool true) ∧ Below w.heap.size w w' := by
  refine calls_any fun K hK => ?_
  obtain ⟨_, h0⟩ := h0
  obtain ⟨n, stop, x1, x2, o1, o2, rfl, ho1, ho2⟩ := arg_all h0
  clear h0
  have hG0 := Gnd.le.rfl' (G := Gnd.of w)
  have S0 := ((Sat.start w).newBlk #[.int .i64 n, x1, x2, .int .i64 stop] 42).newBlk #[.bool false] 4
  simp only [World.size_alloc] at S0
  have HO1 := Lib.hid ho1
  have HO2 := Lib.hid ho2
  obtain ⟨X1, c1, rfl, hl1, hc1, he1⟩ := ho1
  obtain ⟨X2, c2, rfl, hl2, hc2, he2⟩ := ho2
  have HEL1 := Lib.hid he1
  have HEL2 := Lib.hid he2
  clear he1 he2
  refine calls_marks Try.func5 rfl ?_
  simp only [Try.ntmps5, List.size_toArray, List.length_cons, List.length_nil, Nat.reduceAdd, Nat.reduceSub, Array.replicate_succ, Array.replicate_zero, List.push_toArray, List.append_toArray, List.nil_append, List.cons_append]
  go_upto_region 1 with fail
  obtain ⟨r1, hr1⟩ : ∃ r1, r1 = w.heap.size := ⟨_, rfl⟩
  rw [← hr1] at S0 ⊢
  obtain ⟨r2, hr2⟩ : ∃ r2, r2 = r1 + 1 := ⟨_, rfl⟩
  rw [← hr2] at S0 ⊢
  clear hr1 hr2
  refine wp_world S0 fun w1 S1 => ?_
  clear S0
  refine wp_act fun a0 ha0 => ?_
  have HSZ : a0.tmps.size = 141 := by rw [ha0]; rfl
  have E1 : a0.eval (.tmp 1) = .pointer (some ⟨r1, 0, none⟩) := by rw [ha0]; rfl
  refine wp_region_J (by kernel_rfl) 13 (by kernel_rfl) [[], [0], [], [2], [], [4], [], [6], [], [1, 0, 1, 8], [3, 9, 0, 1, 2, 3, 8, 9], [5, 10, 0, 1, 2, 3, 4, 5, 8, 9, 10], [8, 7, 11, 0, 1, 2, 3, 4, 5, 6, 7, 8, 9, 10, 11]] (by kernel_rfl) (by kernel_rfl) (fun f a' W => ∃ r6, HAl f ∧ a' = acts [(0, 20, .pointer (some ⟨r1, 0, none⟩)), (1, 21, .int .i64 n), (2, 22, .pointer (some ⟨r1, 1, none⟩)), (3, 23, .slice X1 o1.length c1), (4, 24, .pointer (some ⟨r1, 2, none⟩)), (5, 25, .slice X2 o2.length c2), (6, 26, .pointer (some ⟨r1, 3, none⟩)), (7, 27, .int .i64 stop), (8, 6, .pointer (some ⟨r6, 0, none⟩)), (9, 3, .int .i64 n), (10, 4, .slice X1 o1.length c1), (11, 5, .slice X2 o2.length c2)] f a0 ∧ Sat (Gnd.of w) W [opt (f 8) (blk r6 #[.int .i64 (cond (f 12) stop 0)] 3), blk r2 #[.bool false] 4, blk r1 #[.int .i64 n, .slice X1 o1.length c1, .slice X2 o2.length c2, .int .i64 stop] 42]) ?_ ?_ ?_
  · exact ⟨0, (by unfold HAl; decide), rfl, S1.drew.opt0⟩
  · refine ⟨?_, ?_, ?_, ?_, ?_, ?_, ?_, ?_, ?_, ?_, ?_, ?_, ?_, trivial⟩
    · rintro f a' W h0 hd ⟨r6, hh, rfl, S⟩
      refine wpOp_run (v := .pointer (some ⟨r1, 0, none⟩)) rfl rfl (fun ρ hρ => ?_) ⟨r6, hh, (acts_some 0 rfl (by kernel_rfl) (by kernel_rfl)).symm, S⟩
      have e0 : ρ (.tmp 1) = .pointer (some ⟨r1, 0, none⟩) := by rw [hρ]; exact (acts_eval_tmp 1 (by kernel_rfl)).trans E1
      clear hρ
      go_simp
    · rintro f a' W h1 hd ⟨r6, hh, rfl, S⟩
      refine wpOp_run (v := .int .i64 n) rfl rfl (fun ρ hρ => ?_) ⟨r6, hh, (acts_some 1 rfl (by kernel_rfl) (by kernel_rfl)).symm, S⟩
      have e0 : ρ (.tmp 20) = .pointer (some ⟨r1, 0, none⟩) := by rw [hρ]; exact acts_eval_hit 0 rfl hd.1 (by rw [HSZ]; rfl) (by kernel_rfl)
      clear hρ
      (have hcl : W.cell? ⟨r1, 0, none⟩ = some (.int .i64 n) := S.pull2.cell 0)
      go_simp
    · rintro f a' W h2 hd ⟨r6, hh, rfl, S⟩
      refine wpOp_run (v := .pointer (some ⟨r1, 1, none⟩)) rfl rfl (fun ρ hρ => ?_) ⟨r6, hh, (acts_some 2 rfl (by kernel_rfl) (by kernel_rfl)).symm, S⟩
      have e0 : ρ (.tmp 1) = .pointer (some ⟨r1, 0, none⟩) := by rw [hρ]; exact (acts_eval_tmp 1 (by kernel_rfl)).trans E1
      clear hρ
      go_simp
    · rintro f a' W h3 hd ⟨r6, hh, rfl, S⟩
      refine wpOp_run (v := .slice X1 o1.length c1) rfl rfl (fun ρ hρ => ?_) ⟨r6, hh, (acts_some 3 rfl (by kernel_rfl) (by kernel_rfl)).symm, S⟩
      have e0 : ρ (.tmp 22) = .pointer (some ⟨r1, 1, none⟩) := by rw [hρ]; exact acts_eval_hit 2 rfl hd.1 (by rw [HSZ]; rfl) (by kernel_rfl)
      clear hρ
      (have hcl : W.cell? ⟨r1, 1, none⟩ = some (.slice X1 o1.length c1) := S.pull2.cell 1)
      go_simp
    · rintro f a' W h4 hd ⟨r6, hh, rfl, S⟩
      refine wpOp_run (v := .pointer (some ⟨r1, 2, none⟩)) rfl rfl (fun ρ hρ => ?_) ⟨r6, hh, (acts_some 4 rfl (by kernel_rfl) (by kernel_rfl)).symm, S⟩
      have e0 : ρ (.tmp 1) = .pointer (some ⟨r1, 0, none⟩) := by rw [hρ]; exact (acts_eval_tmp 1 (by kernel_rfl)).trans E1
      clear hρ
      go_simp
    · rintro f a' W h5 hd ⟨r6, hh, rfl, S⟩
      refine wpOp_run (v := .slice X2 o2.length c2) rfl rfl (fun ρ hρ => ?_) ⟨r6, hh, (acts_some 5 rfl (by kernel_rfl) (by kernel_rfl)).symm, S⟩
      have e0 : ρ (.tmp 24) = .pointer (some ⟨r1, 2, none⟩) := by rw [hρ]; exact acts_eval_hit 4 rfl hd.1 (by rw [HSZ]; rfl) (by kernel_rfl)
      clear hρ
      (have hcl : W.cell? ⟨r1, 2, none⟩ = some (.slice X2 o2.length c2) := S.pull2.cell 2)
      go_simp
    · rintro f a' W h6 hd ⟨r6, hh, rfl, S⟩
      refine wpOp_run (v := .pointer (some ⟨r1, 3, none⟩)) rfl rfl (fun ρ hρ => ?_) ⟨r6, hh, (acts_some 6 rfl (by kernel_rfl) (by kernel_rfl)).symm, S⟩
      have e0 : ρ (.tmp 1) = .pointer (some ⟨r1, 0, none⟩) := by rw [hρ]; exact (acts_eval_tmp 1 (by kernel_rfl)).trans E1
      clear hρ
      go_simp
    · rintro f a' W h7 hd ⟨r6, hh, rfl, S⟩
      refine wpOp_run (v := .int .i64 stop) rfl rfl (fun ρ hρ => ?_) ⟨r6, hh, (acts_some 7 rfl (by kernel_rfl) (by kernel_rfl)).symm, S⟩
      have e0 : ρ (.tmp 26) = .pointer (some ⟨r1, 3, none⟩) := by rw [hρ]; exact acts_eval_hit 6 rfl hd.1 (by rw [HSZ]; rfl) (by kernel_rfl)
      clear hρ
      (have hcl : W.cell? ⟨r1, 3, none⟩ = some (.int .i64 stop) := S.pull2.cell 3)
      go_simp
    · rintro f a' W h8 hd ⟨r6, hh, rfl, S⟩
      (have z12 := no_of hh h8)
      refine wpOp_mem (v := .pointer (some ⟨W.heap.size, 0, none⟩)) (w' := W.alloc (.cells #[.int .i64 0] 3)) rfl rfl (fun ρ hρ => ?_) (⟨W.heap.size, fun _ => rfl, acts_swap (by simp only [acts, h8, Bool.false_eq_true, if_false]) (k := 8) rfl (by kernel_rfl) (by kernel_rfl), (by show Sat _ _ [opt true (blk _ #[.int .i64 (cond (f 12) stop 0)] _), _, _]; rw [z12]; exact Sat.optI rfl (S.newBlk _ _).drop2)⟩)
      clear hρ
      go_simp
    · rintro f a' W h9 hd ⟨r6, hh, rfl, S⟩
      refine wpOp_run (v := .int .i64 n) rfl rfl (fun ρ hρ => ?_) ⟨r6, hh, (acts_some 9 rfl (by kernel_rfl) (by kernel_rfl)).symm, S⟩
      have e0 : ρ (.tmp 21) = .int .i64 n := by rw [hρ]; exact acts_eval_hit 1 rfl hd.1 (by rw [HSZ]; rfl) (by kernel_rfl)
      clear hρ
      go_simp
    · rintro f a' W h10 hd ⟨r6, hh, rfl, S⟩
      refine wpOp_run (v := .slice X1 o1.length c1) rfl rfl (fun ρ hρ => ?_) ⟨r6, hh, (acts_some 10 rfl (by kernel_rfl) (by kernel_rfl)).symm, S⟩
      have e0 : ρ (.tmp 23) = .slice X1 o1.length c1 := by rw [hρ]; exact acts_eval_hit 3 rfl hd.1 (by rw [HSZ]; rfl) (by kernel_rfl)
      clear hρ
      go_simp
    · rintro f a' W h11 hd ⟨r6, hh, rfl, S⟩
      refine wpOp_run (v := .slice X2 o2.length c2) rfl rfl (fun ρ hρ => ?_) ⟨r6, hh, (acts_some 11 rfl (by kernel_rfl) (by kernel_rfl)).symm, S⟩
      have e0 : ρ (.tmp 25) = .slice X2 o2.length c2 := by rw [hρ]; exact acts_eval_hit 5 rfl hd.1 (by rw [HSZ]; rfl) (by kernel_rfl)
      clear hρ
      go_simp
    · rintro f a' W h12 hd ⟨r6, hh, rfl, S⟩
      have q6 : (acts [(0, 20, .pointer (some ⟨r1, 0, none⟩)), (1, 21, .int .i64 n), (2, 22, .pointer (some ⟨r1, 1, none⟩)), (3, 23, .slice X1 o1.length c1), (4, 24, .pointer (some ⟨r1, 2, none⟩)), (5, 25, .slice X2 o2.length c2), (6, 26, .pointer (some ⟨r1, 3, none⟩)), (7, 27, .int .i64 stop), (8, 6, .pointer (some ⟨r6, 0, none⟩)), (9, 3, .int .i64 n), (10, 4, .slice X1 o1.length c1), (11, 5, .slice X2 o2.length c2)] f a0).eval (.tmp 6) = .pointer (some ⟨r6, 0, none⟩) := acts_eval_hit 8 rfl hd.1 (by rw [HSZ]; rfl) (by kernel_rfl)
      have q27 : (acts [(0, 20, .pointer (some ⟨r1, 0, none⟩)), (1, 21, .int .i64 n), (2, 22, .pointer (some ⟨r1, 1, none⟩)), (3, 23, .slice X1 o1.length c1), (4, 24, .pointer (some ⟨r1, 2, none⟩)), (5, 25, .slice X2 o2.length c2), (6, 26, .pointer (some ⟨r1, 3, none⟩)), (7, 27, .int .i64 stop), (8, 6, .pointer (some ⟨r6, 0, none⟩)), (9, 3, .int .i64 n), (10, 4, .slice X1 o1.length c1), (11, 5, .slice X2 o2.length c2)] f a0).eval (.tmp 27) = .int .i64 stop := acts_eval_hit 7 rfl hd.2.1 (by rw [HSZ]; rfl) (by kernel_rfl)
      (rw [hd.1, h12] at S; have S2 := opt_iff.1 S; refine wpOp_list rfl ?_; refine st_set rfl _ _ _ rfl _ _ _ q6 q27 rfl _ _ S2 (by kernel_rfl) (by simp) fun W' S' => ?_; refine ⟨r6, fun _ => hd.1, (acts_none 12 (by kernel_rfl)).symm, ?_⟩; show Sat _ W' [opt (f 8) _, _, _]; rw [hd.1]; exact opt_iff.2 S')
  · rintro a' W ⟨r6, -, rfl, S2⟩
    subst ha0
    simp only [acts, if_true, Act.put, List.setIfInBounds_toArray, List.set_cons_succ, List.set_cons_zero]
    have S3 := (opt_iff.1 S2).swap
    simp only [cond_true] at S3
    clear HSZ E1 S1 S2
    have hsm1 := law_small S3 _ o1 HO1.out
    clear S3
    by_cases hq1 : osum o1 ≤ 120
    · rw [decide_eq_true hq1] at hsm1
      go_wp2_with fail
      (with_reducible refine hsm1.mono ?_)
      clear hsm1
      rintro e w2 ⟨rfl, S4⟩
      have hsm2 := law_small S4 _ o2 HO2.out
      clear S4
      by_cases hq2 : osum o2 ≤ 120
      · rw [decide_eq_true hq2] at hsm2
        by_cases hn : lRight n = true
        · obtain ⟨a1, a2⟩ := of_decide_eq_true hn
          have z1 : ¬ (n < 0) := by omega
          have z2 : ¬ (65536 < n) := by omega
          have HN := Lib.hid hn
          have hwf0 : TWf [] [] n := ⟨a1, a2, by simpa [fsz] using a1, Nat.le_refl _⟩
          have HW0 := Lib.hid hwf0
          clear hq1 hq2 hwf0 hn
          go_wp2_with fail
          (with_reducible refine hsm2.mono ?_)
          clear hsm2
          rintro e w3 ⟨rfl, S5⟩
          have hnew := tb_new S5 n HN.out
          clear S5
          go_wp2_with fail
          (with_reducible refine hnew.mono ?_)
          clear hnew
          rintro e w4 ⟨p, rfl, S6⟩
          have S7 := S6.newBlk #[.slice none 0 0] 34
          clear S6
          go_upto_region 8 with fail
          generalize w4.heap.size = r9 at *
          refine wp_world S7 fun w5 S8 => ?_
          have S9 := S8.swap
          clear S7 S8
          go_wp2_with fail
          go_loopw [3, 58] (fun lv i wr => ∃ (k : Nat) (Z F : List Fd) (lim : Int) (G' : Gnd) (xv : Value), k ≤ o1.length ∧ i = .int .i64 k ∧ lv = .int .i64 lim ∧ (Gnd.of w).le G' ∧ TWf Z F lim ∧ RF (cellR G'.ro) xv F.reverse ∧ Sat G' wr [tbA p Z F lim, blk r9 #[xv] 34, blk r2 #[.bool false] 4, blk r6 #[.int .i64 stop] 3, blk r1 #[.int .i64 n, .slice X1 o1.length c1, .slice X2 o2.length c2, .int .i64 stop] 42]) (fun _ i _ => o1.length - (intOf i).toNat)
          case atStart => exact ⟨0, [], [], n, Gnd.of w, _, Nat.zero_le _, rfl, rfl, hG0, HW0.out, RF.nil _, S9⟩
          case round =>
            obtain ⟨k, Z, F, lim, G1, xv, hk, rfl, rfl, hG1, hwf, hrf, S⟩ := hrel
            clear S9
            by_cases hlt : k < o1.length
            · have hok := List.getElem?_eq_getElem hlt
              obtain ⟨ad, bo, off, rfl, had, hcl, ho⟩ := HEL1.out k _ hok
              generalize o1[k] = o at hcl ho
              clear hok
              obtain ⟨ok, on, ⟨h, b⟩⟩ := o
              simp only [OpD.cells, fenc] at hcl
              have d0 := S.cellR (cellR_mono hG1.ro (hcl 0 _ rfl))
              have d1 := S.cellR (cellR_mono hG1.ro (hcl 1 _ rfl))
              have d2 := S.cellR (cellR_mono hG1.ro (hcl 2 _ rfl))
              have d3 := S.cellR (cellR_mono hG1.ro (hcl 3 _ rfl))
              rw [Nat.add_zero] at d0
              have HS6 := Lib.hid (S.newBlk #[.int .i64 ok, .int .i64 on, .string (bstr h), .string (bstr b)] 36)
              have HO := Lib.hid ho
              have HWF := Lib.hid hwf
              have HRF := Lib.hid hrf
              obtain ⟨Y, yc, rfl, -⟩ := id hrf
              clear S hcl ho hwf hrf
              rw [List.length_reverse] at HRF HS6
              go_upto_region 11 with fail
              generalize wr.heap.size = z at *
              refine wp_world HS6.out fun w6 S7 => ?_
              clear HS6 d0 d1 d2 d3
              have d0 := S7.cell 0
              have d1 := S7.cell 1
              have d2 := S7.cell 2
              have d3 := S7.cell 3
              have d9 := S7.pull2.cell 0
              have hst := law_step S7.swap HWF.out HRF.out ok on (h, b) HO.out.h HO.out.b
              clear S7
              go_wp2_with fail
              (with_reducible refine hst.mono ?_)
              clear hst d0 d1 d2 d3 d9
              rintro e w7 ⟨u, G2, Z2, hG2, rfl, hu, hwf2, S8⟩
              obtain ⟨q, hq⟩ : ∃ q, q = stepF lim F ⟨ok, on, (h, b)⟩ := ⟨_, rfl⟩
              rw [← hq] at hu hwf2 S8 ⊢
              obtain ⟨F2, lim2⟩ := q
              simp only at hu hwf2 S8 ⊢
              clear hq
              have HU := Lib.hid hu
              have HW2 := Lib.hid hwf2
              obtain ⟨Y2, yc2, rfl, -⟩ := id hu
              rw [List.length_reverse] at HU ⊢
              have c9 := S8.pull2.cell 0
              have f9 := S8.pull2.frozen 0
              have HS8 := Lib.hid ((S8.pull2.setCell 0 (.slice Y2 F2.length yc2)).re [2, 1, 0]).drop
              clear hu hwf2 S8
              go_wp2_with fail
              go_roundw
              case rel => exact ⟨k + 1, Z2, F2, lim2, G2, _, by omega, by go_num, rfl, hG1.trans hG2, HW2.out, HU.out, HS8.out⟩
              case measure => simp [intOf]; omega
            · have hkk : k = o1.length := by omega
              have hzl := hwf.z
              have hfl := hwf.len
              have hl1' := hwf.l1
              have hsz := hwf.sz
              have HZF : Hid (Z.length ≤ 10000 ∧ F.length ≤ 10000) := Lib.hid (by omega)
              have HRF := Lib.hid hrf
              have HWF := Lib.hid hwf
              obtain ⟨Y, yc, rfl, -⟩ := id hrf
              rw [List.length_reverse] at HRF S
              have hcp := tb_copy S HZF.out.1 HZF.out.2
              clear S hrf hwf hzl hfl hl1' hsz
              go_wp2_with fail
              (with_reducible refine hcp.mono ?_)
              clear hcp
              rintro e w8 ⟨q, rfl, S10⟩
              have d9 := S10.pull2.cell 0
              have HWC : Hid (TWf [] F lim) := Lib.hid ⟨HWF.out.l0, HWF.out.l1, HWF.out.sz, Nat.zero_le _⟩
              go_wp2_with fail
              go_loopw [13, 14, 80] (fun yv mv i wr => ∃ (k : Nat) (Zc Fc : List Fd) (mc : Int) (G' : Gnd), k ≤ o2.length ∧ i = .int .i64 k ∧ mv = .int .i64 mc ∧ G1.le G' ∧ TWf Zc Fc mc ∧ RF (cellR G'.ro) yv Fc.reverse ∧ Sat G' wr [tbA q Zc Fc mc, tbA p Z F lim, blk r9 #[.slice Y F.length yc] 34, blk r2 #[.bool false] 4, blk r6 #[.int .i64 stop] 3, blk r1 #[.int .i64 n, .slice X1 o1.length c1, .slice X2 o2.length c2, .int .i64 stop] 42]) (fun _ _ i _ => o2.length - (intOf i).toNat)
              case atStart => exact ⟨0, [], F, lim, G1, Nat.zero_le _, rfl, rfl, Gnd.le.rfl', HWC.out, HRF.out, S10⟩
              case round =>
                obtain ⟨k, Zc, Fc, mc, G2, hk, rfl, rfl, hG2, hwf, hrf, S⟩ := hrel
                clear S10 d9
                by_cases hlt : k < o2.length
                · have hok := List.getElem?_eq_getElem hlt
                  obtain ⟨ad, bo, off, rfl, had, hcl, ho⟩ := HEL2.out k _ hok
                  generalize o2[k] = o at hcl ho
                  clear hok
                  obtain ⟨ok, on, ⟨h, b⟩⟩ := o
                  simp only [OpD.cells, fenc] at hcl
                  have d0 := S.cellR (cellR_mono (hG1.trans hG2).ro (hcl 0 _ rfl))
                  have d1 := S.cellR (cellR_mono (hG1.trans hG2).ro (hcl 1 _ rfl))
                  have d2 := S.cellR (cellR_mono (hG1.trans hG2).ro (hcl 2 _ rfl))
                  have d3 := S.cellR (cellR_mono (hG1.trans hG2).ro (hcl 3 _ rfl))
                  rw [Nat.add_zero] at d0
                  have HS6 := Lib.hid (S.newBlk #[.int .i64 ok, .int .i64 on, .string (bstr h), .string (bstr b)] 36)
                  have HO := Lib.hid ho
                  have HWF2 := Lib.hid hwf
                  have HRF2 := Lib.hid hrf
                  obtain ⟨Yc, ycc, rfl, -⟩ := id hrf
                  clear S hcl ho hwf hrf
                  rw [List.length_reverse] at HRF2 ⊢
                  go_upto_region 21 with fail
                  generalize wr.heap.size = z at *
                  refine wp_world HS6.out fun w9 S11 => ?_
                  clear HS6 d0 d1 d2 d3
                  have d0 := S11.cell 0
                  have d1 := S11.cell 1
                  have d2 := S11.cell 2
                  have d3 := S11.cell 3
                  have hst := law_step S11.swap HWF2.out HRF2.out ok on (h, b) HO.out.h HO.out.b
                  clear S11
                  go_wp2_with fail
                  (with_reducible refine hst.mono ?_)
                  clear hst d0 d1 d2 d3
                  rintro e w10 ⟨u, G3, Z3, hG3, rfl, hu, hwf3, S12⟩
                  obtain ⟨qq, hq⟩ : ∃ q, q = stepF mc Fc ⟨ok, on, (h, b)⟩ := ⟨_, rfl⟩
                  rw [← hq] at hu hwf3 S12 ⊢
                  obtain ⟨F3, lim3⟩ := qq
                  simp only at hu hwf3 S12 ⊢
                  clear hq
                  have HU := Lib.hid hu
                  have HW3 := Lib.hid hwf3
                  obtain ⟨Y3, yc3, rfl, -⟩ := id hu
                  rw [List.length_reverse] at HU ⊢
                  have HS12 := Lib.hid S12
                  clear hu hwf3 S12
                  go_wp2_with fail
                  go_roundw
                  case rel => exact ⟨k + 1, Z3, F3, lim3, G3, by omega, by go_num, rfl, hG2.trans hG3, HW3.out, HU.out, HS12.out.drop2⟩
                  case measure => simp [intOf]; omega
                · have hkk : k = o2.length := by omega
                  have HWF2 := Lib.hid hwf
                  have HRF2 := Lib.hid hrf
                  obtain ⟨Yc, ycc, rfl, -⟩ := id hrf
                  rw [List.length_reverse] at HRF2 ⊢
                  have S13 := S.newBlk #[.int .i64 0] 3
                  clear S hrf hwf
                  go_upto_region 26 with fail
                  generalize wr.heap.size = r18 at *
                  refine wp_world S13 fun w11 S14 => ?_
                  have ha := tb_all S14 (.pointer (some ⟨p, 0, none⟩)) rfl
                  clear S13 S14
                  go_wp2_with fail
                  (with_reducible refine ha.mono ?_)
                  clear ha
                  rintro e w12 ⟨b, rfl, S15⟩
                  go_wp2_with fail
                  have hseq := all_gives (p := p) (Z := Z) (F := F) (lim := lim) b HZF.out.1 HZF.out.2
                  obtain ⟨L0, hL0⟩ : ∃ L0, L0 = [tbA q Zc Fc mc, blk r2 #[.bool false] 4, blk r6 #[.int .i64 stop] 3, blk r1 #[.int .i64 n, .slice X1 o1.length c1, .slice X2 o2.length c2, .int .i64 stop] 42] := ⟨_, rfl⟩
                  have S16 : Sat G2 w12 ([blk b #[.pointer (some ⟨p, 0, none⟩)] 24, tbA p Z F lim] ++ allB r18 r9 (.slice Y F.length yc) L0 []) := by rw [hL0]; exact S15.re [0, 3, 1, 4, 2]
                  have HL0 := Lib.hid hL0
                  clear S15 hL0
                  refine wp_range rfl (enters_of Try.func31 (by kernel_rfl) rfl) hseq (fun _ => rfl)
                    (allB r18 r9 (.slice Y F.length yc) L0) (allX r18 r9 (.slice Y F.length yc) stop L0) S16 ?rnd ?done ?stop
                  case rnd =>
                    intro l2 pre x W A' G3 K2 hpre hG3 S17 hK2
                    have S18 := (S17.newBlk #[.string (bstr x.1), .string (bstr x.2)] 23).perm List.perm_middle.symm
                    unfold fencs
                    gi_wp2
                    refine hK2 _ _ _ S18 ?_
                    intro A'' W2 S19
                    generalize W.heap.size = qf at *
                    obtain ⟨k, hk0⟩ : ∃ k, k = pre.length := ⟨_, rfl⟩
                    have hlen : (pre ++ [x]).length = k + 1 := by rw [hk0]; simp
                    have hkF : k < F.length := by
                      have := hpre.length_le
                      rw [hlen, List.length_reverse] at this
                      omega
                    have hx : F.reverse[k]? = some x := by
                      obtain ⟨t, ht⟩ := hpre
                      rw [← ht, hk0]; simp
                    obtain ⟨Aq, cq, e, -, -, -, hel⟩ := HRF.out.mono (hG2.trans hG3)
                    obtain ⟨e1, e2, e3⟩ := Value.slice.inj e
                    subst e1
                    obtain ⟨g, o, rfl, hcl⟩ := hel k x hx
                    have HCL2 := Lib.hid hcl
                    have S20 : Sat G3 W2 (blk qf #[.string (bstr x.1), .string (bstr x.2)] 23 :: blk r18 #[.int .i64 k] 3 :: blk r9 #[.slice (some ⟨g, o, none⟩) F.length yc] 34 :: tbA q Zc Fc mc :: blk r2 #[.bool false] 4 :: blk r6 #[.int .i64 stop] 3 :: blk r1 #[.int .i64 n, .slice X1 o1.length c1, .slice X2 o2.length c2, .int .i64 stop] 42 :: A'') := by
                      have T := S19.perm List.perm_append_comm
                      unfold allB at T
                      rw [HL0.out, ← hk0] at T
                      exact T
                    have HCB : Hid (∀ W, Sat G3 W (blk r18 #[.int .i64 ((k + 1 : Nat) : Int)] 3 :: blk qf #[.string (bstr x.1), .string (bstr x.2)] 23 :: blk r9 #[.slice (some ⟨g, o, none⟩) F.length yc] 34 :: tbA q Zc Fc mc :: blk r2 #[.bool false] 4 :: blk r6 #[.int .i64 stop] 3 :: blk r1 #[.int .i64 n, .slice X1 o1.length c1, .slice X2 o2.length c2, .int .i64 stop] 42 :: A'') → Sat G3 W (A'' ++ allB r18 r9 (.slice (some ⟨g, o, none⟩) F.length yc) L0 (pre ++ [x]))) := Lib.hid fun W S => by
                      unfold allB
                      rw [hlen, HL0.out]
                      exact S.drop2.perm (List.perm_append_comm (l₁ := [_, _, _, _, _, _]) (l₂ := A''))
                    have HCX : Hid (((k + 1 : Nat) : Int) = stop → ∀ W, Sat G3 W (blk r18 #[.int .i64 ((k + 1 : Nat) : Int)] 3 :: blk qf #[.string (bstr x.1), .string (bstr x.2)] 23 :: blk r9 #[.slice (some ⟨g, o, none⟩) F.length yc] 34 :: tbA q Zc Fc mc :: blk r2 #[.bool false] 4 :: blk r6 #[.int .i64 stop] 3 :: blk r1 #[.int .i64 n, .slice X1 o1.length c1, .slice X2 o2.length c2, .int .i64 stop] 42 :: A'') → Sat G3 W (A'' ++ allX r18 r9 (.slice (some ⟨g, o, none⟩) F.length yc) stop L0 (.exit 4) (pre ++ [x]))) := Lib.hid fun hst W S => by
                      unfold allX
                      rw [hlen, HL0.out]
                      exact (Sat.pur_iff.2 ⟨⟨rfl, hst⟩, S.drop2⟩).perm (List.perm_append_comm (l₁ := [_, _, _, _, _, _, _]) (l₂ := A''))
                    have HLT : Hid ((k : Int) < (F.length : Int) ∧ k < F.length) := Lib.hid (by omega)
                    have hwk : IntKind.i64.wrap ((k : Int) + 1) = ((k + 1 : Nat) : Int) := by have := HZF.out.2; rw [IntWalk.i64_in _ (by omega)]; omega
                    have HWK := Lib.hid hwk
                    clear S16 S17 S18 S19 hK2 hx hel hcl e e2 e3 hpre hlen hk0 hwk hkF
                    gi_wp2
                    refine wp_actIn fun a0 ha0 => ?_
                    have HSZ : a0.tmps.size = 141 := by rw [ha0]; rfl
                    have E9 : a0.eval (.tmp 9) = .pointer (some ⟨r9, 0, none⟩) := by rw [ha0]; rfl
                    have E18 : a0.eval (.tmp 18) = .pointer (some ⟨r18, 0, none⟩) := by rw [ha0]; rfl
                    have E19 : a0.eval (.tmp 19) = .pointer (some ⟨qf, 0, none⟩) := by rw [ha0]; rfl
                    refine wp_region_JIn (by kernel_rfl) 13 (by kernel_rfl) [[], [], [1], [0, 2], [3], [4], [5, 4, 4], [4], [4], [7, 8, 4], [9, 4], [6, 10, 4], [4, 11]] (by kernel_rfl) (by kernel_rfl) (fun f a' W => a' = acts [(0, 99, .int .i64 k), (1, 100, .slice (some ⟨g, o, none⟩) F.length yc), (2, 101, .int .i64 F.length), (3, 102, .bool false), (4, 103, .bool false), (5, 104, .agg #[.string (bstr x.1), .string (bstr x.2)]), (6, 105, .agg #[.string (bstr x.1), .string (bstr x.2)]), (7, 106, .slice (some ⟨g, o, none⟩) F.length yc), (8, 107, .int .i64 k), (9, 108, .pointer (some ⟨g, o + k * 2, none⟩)), (10, 109, .agg #[.string (bstr x.1), .string (bstr x.2)]), (11, 110, .bool false), (12, 111, .bool false)] f a0 ∧ Sat G3 W (blk qf #[.string (bstr x.1), .string (bstr x.2)] 23 :: blk r18 #[.int .i64 k] 3 :: blk r9 #[.slice (some ⟨g, o, none⟩) F.length yc] 34 :: tbA q Zc Fc mc :: blk r2 #[.bool false] 4 :: blk r6 #[.int .i64 stop] 3 :: blk r1 #[.int .i64 n, .slice X1 o1.length c1, .slice X2 o2.length c2, .int .i64 stop] 42 :: A'')) ?_ ?_ ?_
                    · exact ⟨rfl, S20.drew⟩
                    · refine ⟨?_, ?_, ?_, ?_, ?_, ?_, ?_, ?_, ?_, ?_, ?_, ?_, ?_, trivial⟩
                      · rintro f a' W h0 hd ⟨rfl, S⟩
                        refine wpOpIn_run (v := .int .i64 k) rfl rfl (fun ρ hρ => ?_) ⟨(acts_some 0 rfl (by kernel_rfl) (by kernel_rfl)).symm, S⟩
                        have e0 : ρ (.tmp 18) = .pointer (some ⟨r18, 0, none⟩) := by rw [hρ]; exact (acts_eval_tmp 18 (by kernel_rfl)).trans E18
                        clear hρ
                        (have hz := S.swap.cell 0)
                        go_simp
                      · rintro f a' W h1 hd ⟨rfl, S⟩
                        refine wpOpIn_run (v := .slice (some ⟨g, o, none⟩) F.length yc) rfl rfl (fun ρ hρ => ?_) ⟨(acts_some 1 rfl (by kernel_rfl) (by kernel_rfl)).symm, S⟩
                        have e0 : ρ (.tmp 9) = .pointer (some ⟨r9, 0, none⟩) := by rw [hρ]; exact (acts_eval_tmp 9 (by kernel_rfl)).trans E9
                        clear hρ
                        (have hz := S.pull2.cell 0)
                        go_simp
                      · rintro f a' W h2 hd ⟨rfl, S⟩
                        refine wpOpIn_run (v := .int .i64 F.length) rfl rfl (fun ρ hρ => ?_) ⟨(acts_some 2 rfl (by kernel_rfl) (by kernel_rfl)).symm, S⟩
                        have e0 : ρ (.tmp 100) = .slice (some ⟨g, o, none⟩) F.length yc := by rw [hρ]; exact acts_eval_hit 1 rfl hd.1 (by rw [HSZ]; rfl) (by kernel_rfl)
                        clear hρ
                        go_simp
                      · rintro f a' W h3 hd ⟨rfl, S⟩
                        refine wpOpIn_run (v := .bool false) rfl rfl (fun ρ hρ => ?_) ⟨(acts_some 3 rfl (by kernel_rfl) (by kernel_rfl)).symm, S⟩
                        have e0 : ρ (.tmp 99) = .int .i64 k := by rw [hρ]; exact acts_eval_hit 0 rfl hd.1 (by rw [HSZ]; rfl) (by kernel_rfl)
                        have e1 : ρ (.tmp 101) = .int .i64 F.length := by rw [hρ]; exact acts_eval_hit 2 rfl hd.2.1 (by rw [HSZ]; rfl) (by kernel_rfl)
                        clear hρ
                        (have hh := HLT.out.1; have hh2 : ¬ ((F.length : Int) ≤ (k : Int)) := (by omega); have hh3 : ¬ (F.length ≤ k) := (by omega))
                        go_simp
                      · rintro f a' W h4 hd ⟨rfl, S⟩
                        refine wpOpIn_run (v := .bool false) rfl rfl (fun ρ hρ => ?_) ⟨(acts_some 4 rfl (by kernel_rfl) (by kernel_rfl)).symm, S⟩
                        have e0 : ρ (.tmp 102) = .bool false := by rw [hρ]; exact acts_eval_hit 3 rfl hd.1 (by rw [HSZ]; rfl) (by kernel_rfl)
                        clear hρ
                        go_simp
                      · rintro f a' W h5 hd ⟨rfl, S⟩
                        refine wpOpIn_runG (v := .agg #[.string (bstr x.1), .string (bstr x.2)]) rfl ?_ (fun ρ hρ => ?_) ⟨(acts_some 5 rfl (by kernel_rfl) (by kernel_rfl)).symm, S⟩
                        · exact wanted_hit (t := 103) rfl rfl (acts_eval_hit 4 rfl hd.1 (by rw [HSZ]; rfl) (by kernel_rfl))
                        · skip
                          have e0 : ρ (.tmp 19) = .pointer (some ⟨qf, 0, none⟩) := by rw [hρ]; exact (acts_eval_tmp 19 (by kernel_rfl)).trans E19
                          clear hρ
                          (have hz0 := S.cell 0; have hz1 := S.cell 1)
                          go_simp
                      · rintro f a' W h6 hd ⟨rfl, S⟩
                        refine wpOpIn_callG rfl (wanted_hit (t := 103) rfl rfl (acts_eval_hit 4 rfl hd.2.1 (by rw [HSZ]; rfl) (by kernel_rfl))) (fun ρ hρ => ?_) (law_pair S x) ?_
                        · skip
                          have e0 : ρ (.tmp 104) = .agg #[.string (bstr x.1), .string (bstr x.2)] := by rw [hρ]; exact acts_eval_hit 5 rfl hd.1 (by rw [HSZ]; rfl) (by kernel_rfl)
                          have ef : ρ (.func 20) = .func (.func 20) #[] #[] := by rw [hρ]; rfl
                          clear hρ
                          go_simp
                        · (rintro e W' ⟨rfl, S'⟩; exact ⟨_, rfl, (acts_some 6 rfl (by kernel_rfl) (by kernel_rfl)).symm, S'⟩)
                      · rintro f a' W h7 hd ⟨rfl, S⟩
                        refine wpOpIn_runG (v := .slice (some ⟨g, o, none⟩) F.length yc) rfl ?_ (fun ρ hρ => ?_) ⟨(acts_some 7 rfl (by kernel_rfl) (by kernel_rfl)).symm, S⟩
                        · exact wanted_hit (t := 103) rfl rfl (acts_eval_hit 4 rfl hd.1 (by rw [HSZ]; rfl) (by kernel_rfl))
                        · skip
                          have e0 : ρ (.tmp 9) = .pointer (some ⟨r9, 0, none⟩) := by rw [hρ]; exact (acts_eval_tmp 9 (by kernel_rfl)).trans E9
                          clear hρ
                          (have hz := S.pull2.cell 0)
                          go_simp
                      · rintro f a' W h8 hd ⟨rfl, S⟩
                        refine wpOpIn_runG (v := .int .i64 k) rfl ?_ (fun ρ hρ => ?_) ⟨(acts_some 8 rfl (by kernel_rfl) (by kernel_rfl)).symm, S⟩
                        · exact wanted_hit (t := 103) rfl rfl (acts_eval_hit 4 rfl hd.1 (by rw [HSZ]; rfl) (by kernel_rfl))
                        · skip
                          have e0 : ρ (.tmp 18) = .pointer (some ⟨r18, 0, none⟩) := by rw [hρ]; exact (acts_eval_tmp 18 (by kernel_rfl)).trans E18
                          clear hρ
                          (have hz := S.swap.cell 0)
                          go_simp
                      · rintro f a' W h9 hd ⟨rfl, S⟩
                        refine wpOpIn_runG (v := .pointer (some ⟨g, o + k * 2, none⟩)) rfl ?_ (fun ρ hρ => ?_) ⟨(acts_some 9 rfl (by kernel_rfl) (by kernel_rfl)).symm, S⟩
                        · exact wanted_hit (t := 103) rfl rfl (acts_eval_hit 4 rfl hd.2.2.1 (by rw [HSZ]; rfl) (by kernel_rfl))
                        · skip
                          have e0 : ρ (.tmp 106) = .slice (some ⟨g, o, none⟩) F.length yc := by rw [hρ]; exact acts_eval_hit 7 rfl hd.1 (by rw [HSZ]; rfl) (by kernel_rfl)
                          have e1 : ρ (.tmp 107) = .int .i64 k := by rw [hρ]; exact acts_eval_hit 8 rfl hd.2.1 (by rw [HSZ]; rfl) (by kernel_rfl)
                          clear hρ
                          (have hh1 := HLT.out.1; have hh2 := HLT.out.2)
                          go_simp
                      · rintro f a' W h10 hd ⟨rfl, S⟩
                        refine wpOpIn_runG (v := .agg #[.string (bstr x.1), .string (bstr x.2)]) rfl ?_ (fun ρ hρ => ?_) ⟨(acts_some 10 rfl (by kernel_rfl) (by kernel_rfl)).symm, S⟩
                        · exact wanted_hit (t := 103) rfl rfl (acts_eval_hit 4 rfl hd.2.1 (by rw [HSZ]; rfl) (by kernel_rfl))
                        · skip
                          have e0 : ρ (.tmp 108) = .pointer (some ⟨g, o + k * 2, none⟩) := by rw [hρ]; exact acts_eval_hit 9 rfl hd.1 (by rw [HSZ]; rfl) (by kernel_rfl)
                          clear hρ
                          (have hz0 := S.cellR (HCL2.out 0 _ rfl); have hz1 := S.cellR (HCL2.out 1 _ rfl); generalize o + k * 2 = jj at *)
                          go_simp
                      · rintro f a' W h11 hd ⟨rfl, S⟩
                        refine wpOpIn_runG (v := .bool false) rfl ?_ (fun ρ hρ => ?_) ⟨(acts_some 11 rfl (by kernel_rfl) (by kernel_rfl)).symm, S⟩
                        · exact wanted_hit (t := 103) rfl rfl (acts_eval_hit 4 rfl hd.2.2.1 (by rw [HSZ]; rfl) (by kernel_rfl))
                        · skip
                          have e0 : ρ (.tmp 105) = .agg #[.string (bstr x.1), .string (bstr x.2)] := by rw [hρ]; exact acts_eval_hit 6 rfl hd.1 (by rw [HSZ]; rfl) (by kernel_rfl)
                          have e1 : ρ (.tmp 109) = .agg #[.string (bstr x.1), .string (bstr x.2)] := by rw [hρ]; exact acts_eval_hit 10 rfl hd.2.1 (by rw [HSZ]; rfl) (by kernel_rfl)
                          clear hρ
                          (have hz := eq_arrS x W)
                          go_simp
                      · rintro f a' W h12 hd ⟨rfl, S⟩
                        refine wpOpIn_run (v := .bool false) rfl rfl (fun ρ hρ => ?_) ⟨(acts_some 12 rfl (by kernel_rfl) (by kernel_rfl)).symm, S⟩
                        have e0 : ρ (.tmp 103) = .bool false := by rw [hρ]; exact acts_eval_hit 4 rfl hd.1 (by rw [HSZ]; rfl) (by kernel_rfl)
                        have e1 : ρ (.tmp 110) = .bool false := by rw [hρ]; exact acts_eval_hit 11 rfl hd.2.1 (by rw [HSZ]; rfl) (by kernel_rfl)
                        have ec : ∀ v, ρ (.const v) = v := by rw [hρ]; exact fun _ => rfl
                        clear hρ
                        go_simp
                    rintro a' W ⟨rfl, S21⟩
                    subst ha0
                    simp only [acts, if_true, Act.put, List.setIfInBounds_toArray, List.set_cons_succ, List.set_cons_zero]
                    have S22 := S21.swap
                    have c18 := S22.cell 0
                    have f18 := S22.frozen 0
                    have c6 : W.cell? ⟨r6, 0, none⟩ = _ := (S22.re [5, 0, 1, 2, 3, 4]).cell 0
                    have d186 : r18 ≠ r6 := (S22.re [0, 5, 1, 2, 3, 4]).ne
                    have S23 := S22.setCell 0 (.int .i64 ((k + 1 : Nat) : Int))
                    have hwk := HWK.out
                    by_cases hst : ((k + 1 : Nat) : Int) = stop
                    · have HS := Lib.hid (HCX.out hst _ S23)
                      have hst2 : (((k + 1 : Nat) : Int) == stop) = true := beq_iff_eq.2 hst
                      clear HSZ E9 E18 E19 S20 S21 S22 S23 hst
                      gi_wp2
                      exact ⟨G3, Gnd.le.rfl', HS.out⟩
                    · have HS := Lib.hid (HCB.out _ S23)
                      have hst2 : (((k + 1 : Nat) : Int) == stop) = false := beq_eq_false_iff_ne.2 hst
                      clear HSZ E9 E18 E19 S20 S21 S22 S23 hst
                      gi_wp2
                      exact ⟨G3, Gnd.le.rfl', HS.out⟩
                  case done =>
                    intro D W6 G4 hG4 S17
                    have S18 : Sat G4 W6 (obj D (.deferred (some [])) :: blk b #[.pointer (some ⟨p, 0, none⟩)] 24 :: tbA p Z F lim :: blk r18 #[.int .i64 F.length] 3 :: blk r9 #[.slice Y F.length yc] 34 :: [tbA q Zc Fc mc, blk r2 #[.bool false] 4, blk r6 #[.int .i64 stop] 3, blk r1 #[.int .i64 n, .slice X1 o1.length c1, .slice X2 o2.length c2, .int .i64 stop] 42]) := by
                      unfold allB at S17
                      rw [List.length_reverse, HL0.out] at S17
                      exact S17
                    have c18 := S18.pull3.cell 0
                    have c9 := (S18.re [4, 0, 1, 2, 3]).cell 0
                    have c6 := (S18.re [7, 0, 1, 2, 3, 4, 5, 6]).cell 0
                    have hsa := law_same (S18.pull2) HWF.out (HRF.out.mono (hG2.trans hG4))
                    clear S17 S18 S16 hseq
                    go_wp2_with fail
                    (with_reducible refine hsa.mono ?_)
                    clear hsa c18 c9 c6
                    rintro e w13 ⟨rfl, S19⟩
                    have hsb := law_same (S19.re [5, 0, 1, 2, 3, 4]) HWF2.out (HRF2.out.mono hG4)
                    clear S19
                    go_wp2_with fail
                    (with_reducible refine hsb.mono ?_)
                    clear hsb
                    rintro e w14 ⟨rfl, S20⟩
                    have S21 := S20.drop.drop.re [4, 0, 1, 2, 3]
                    clear S20
                    go_wp2_with fail
                    (with_reducible refine (law_awake (S21)).mono ?_); rintro e w19 ⟨rfl, S29⟩; have f2 := S29.frozen 0; have c2 := S29.cell 0; have HS9 := Lib.hid (S29.setCell 0 (.bool true)).swap; clear S29; go_wp2_with fail; exact marks_end HS9.out rfl fun W7 S10 => ⟨_, results_c rfl _ _ r2 (.bool true) rfl (fun W h => by go_simp) (S10.cell 0), hK.out _ _ ⟨rfl, S10.above (hG1.trans (hG2.trans hG4))⟩⟩
                  case stop =>
                    intro D c pre W6 G4 hpre hG4 S17
                    have S18 : Sat G4 W6 (obj D (.deferred (some [])) :: blk b #[.pointer (some ⟨p, 0, none⟩)] 24 :: tbA p Z F lim :: pur (c = .exit 4 ∧ (pre.length : Int) = stop) :: blk r18 #[.int .i64 pre.length] 3 :: blk r9 #[.slice Y F.length yc] 34 :: [tbA q Zc Fc mc, blk r2 #[.bool false] 4, blk r6 #[.int .i64 stop] 3, blk r1 #[.int .i64 n, .slice X1 o1.length c1, .slice X2 o2.length c2, .int .i64 stop] 42]) := by
                      unfold allX at S17
                      rw [HL0.out] at S17
                      exact S17
                    obtain ⟨⟨rfl, hst⟩, S19⟩ := Sat.pur_iff.1 (S18.re [3, 0, 1, 2])
                    generalize pre.length = k at *
                    have c18 := S19.pull3.cell 0
                    have c9 := (S19.re [4, 0, 1, 2, 3]).cell 0
                    have c6 := (S19.re [7, 0, 1, 2, 3, 4, 5, 6]).cell 0
                    have hsa := law_same (S19.pull2) HWF.out (HRF.out.mono (hG2.trans hG4))
                    have hst2 : ((k : Int) == stop) = true := beq_iff_eq.2 hst
                    clear S17 S18 S16 S19 hseq hpre hst
                    by_cases hkf : k = F.length
                    · have hkf2 : ((k : Int) == (F.length : Int)) = true := beq_iff_eq.2 (by omega)
                      clear hkf
                      go_wp2_with fail
                      (with_reducible refine hsa.mono ?_)
                      clear hsa c18 c9 c6
                      rintro e w13 ⟨rfl, S19⟩
                      have hsb := law_same (S19.re [5, 0, 1, 2, 3, 4]) HWF2.out (HRF2.out.mono hG4)
                      clear S19
                      go_wp2_with fail
                      (with_reducible refine hsb.mono ?_)
                      clear hsb
                      rintro e w14 ⟨rfl, S20⟩
                      have S21 := S20.drop.drop.re [4, 0, 1, 2, 3]
                      clear S20
                      go_wp2_with fail
                      (with_reducible refine (law_awake (S21)).mono ?_); rintro e w19 ⟨rfl, S29⟩; have f2 := S29.frozen 0; have c2 := S29.cell 0; have HS9 := Lib.hid (S29.setCell 0 (.bool true)).swap; clear S29; go_wp2_with fail; exact marks_end HS9.out rfl fun W7 S10 => ⟨_, results_c rfl _ _ r2 (.bool true) rfl (fun W h => by go_simp) (S10.cell 0), hK.out _ _ ⟨rfl, S10.above (hG1.trans (hG2.trans hG4))⟩⟩
                    · have hkf2 : ((k : Int) == (F.length : Int)) = false := beq_eq_false_iff_ne.2 (by omega)
                      clear hkf
                      go_wp2_with fail
                      (with_reducible refine hsa.mono ?_)
                      clear hsa c18 c9 c6
                      rintro e w13 ⟨rfl, S19⟩
                      have hsb := law_same (S19.re [5, 0, 1, 2, 3, 4]) HWF2.out (HRF2.out.mono hG4)
                      clear S19
                      go_wp2_with fail
                      (with_reducible refine hsb.mono ?_)
                      clear hsb
                      rintro e w14 ⟨rfl, S20⟩
                      have S21 := S20.drop.drop.re [4, 0, 1, 2, 3]
                      clear S20
                      go_wp2_with fail
                      (with_reducible refine (law_awake (S21)).mono ?_); rintro e w19 ⟨rfl, S29⟩; have f2 := S29.frozen 0; have c2 := S29.cell 0; have HS9 := Lib.hid (S29.setCell 0 (.bool true)).swap; clear S29; go_wp2_with fail; exact marks_end HS9.out rfl fun W7 S10 => ⟨_, results_c rfl _ _ r2 (.bool true) rfl (fun W h => by go_simp) (S10.cell 0), hK.out _ _ ⟨rfl, S10.above (hG1.trans (hG2.trans hG4))⟩⟩
        · have hn := eq_false_of_ne_true hn
          have h3 : ¬ (0 ≤ n ∧ n ≤ 65536) := of_decide_eq_false hn
          clear hq1 hq2 hn
          by_cases h4 : n < 0
          · go_wp2_with fail
            (with_reducible refine hsm2.mono ?_)
            clear hsm2
            rintro e w3 ⟨rfl, S5⟩
            go_wp2_with fail
            (with_reducible refine (law_awake (S5)).mono ?_); rintro e w9 ⟨rfl, S9⟩; have f2 := S9.frozen 0; have c2 := S9.cell 0; have HS9 := Lib.hid (S9.setCell 0 (.bool true)); clear S9; go_wp2_with fail; exact marks_none rfl ⟨_, results_c rfl _ _ r2 (.bool true) rfl (fun W h => by go_simp) (Sat.cell (HS9.out) 0), hK.out _ _ ⟨rfl, Sat.above hG0 (HS9.out)⟩⟩
          · have h5 : 65536 < n := by omega
            go_wp2_with fail
            (with_reducible refine hsm2.mono ?_)
            clear hsm2
            rintro e w3 ⟨rfl, S5⟩
            go_wp2_with fail
            (with_reducible refine (law_awake (S5)).mono ?_); rintro e w9 ⟨rfl, S9⟩; have f2 := S9.frozen 0; have c2 := S9.cell 0; have HS9 := Lib.hid (S9.setCell 0 (.bool true)); clear S9; go_wp2_with fail; exact marks_none rfl ⟨_, results_c rfl _ _ r2 (.bool true) rfl (fun W h => by go_simp) (Sat.cell (HS9.out) 0), hK.out _ _ ⟨rfl, Sat.above hG0 (HS9.out)⟩⟩
      · rw [decide_eq_false hq2] at hsm2
        go_wp2_with fail
        (with_reducible refine hsm2.mono ?_)
        clear hsm2
        rintro e w3 ⟨rfl, S5⟩
        go_wp2_with fail
        (with_reducible refine (law_awake (S5)).mono ?_); rintro e w9 ⟨rfl, S9⟩; have f2 := S9.frozen 0; have c2 := S9.cell 0; have HS9 := Lib.hid (S9.setCell 0 (.bool true)); clear S9; go_wp2_with fail; exact marks_none rfl ⟨_, results_c rfl _ _ r2 (.bool true) rfl (fun W h => by go_simp) (Sat.cell (HS9.out) 0), hK.out _ _ ⟨rfl, Sat.above hG0 (HS9.out)⟩⟩
    · rw [decide_eq_false hq1] at hsm1
      go_wp2_with fail
      (with_reducible refine hsm1.mono ?_)
      clear hsm1
      rintro e w2 ⟨rfl, S4⟩
      go_wp2_with fail
      (with_reducible refine (law_awake (S4)).mono ?_); rintro e w9 ⟨rfl, S9⟩; have f2 := S9.frozen 0; have c2 := S9.cell 0; have HS9 := Lib.hid (S9.setCell 0 (.bool true)); clear S9; go_wp2_with fail; exact marks_none rfl ⟨_, results_c rfl _ _ r2 (.bool true) rfl (fun W h => by go_simp) (Sat.cell (HS9.out) 0), hK.out _ _ ⟨rfl, Sat.above hG0 (HS9.out)⟩⟩
end Go.Proofs.Ytkjkekhhhbopcaa
