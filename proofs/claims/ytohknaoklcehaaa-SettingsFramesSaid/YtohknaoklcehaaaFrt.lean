/- settings.Frame: the walk, behind its tests. -/
import Derived.Test.YtohknaoklcehaaaFrs
set_option linter.unusedSimpArgs false
set_option linter.unusedVariables false
namespace Go.Proofs.Ytohknaoklcehaaa
open Go.RowKit

def wire (ps : List (Int × Int)) : List UInt8 := ps.flatMap fun p => bigOf p.1.toNat 2 ++ bigOf p.2.toNat 4
theorem wire_length (ps : List (Int × Int)) : (wire ps).length = 6 * ps.length := by
  induction ps with
  | nil => rfl
  | cons p ps ih =>
    unfold wire at ih ⊢
    rw [List.flatMap_cons, List.length_append, ih, List.length_append, bigOf_length, bigOf_length, List.length_cons]; omega
theorem wire_snoc (ps : List (Int × Int)) (p : Int × Int) : wire (ps ++ [p]) = wire ps ++ (bigOf p.1.toNat 2 ++ bigOf p.2.toNat 4) := by simp [wire]
def HFa (f : Nat → Bool) : Prop := (f 10 = true → f 5 = true ∧ f 9 = true ∧ f 1 = true) ∧ (f 11 = true → f 10 = true) ∧ (f 13 = true → f 11 = true)
theorem parts3 {G : Gnd} {w : World} {l : List Asrt} {b1 b2 b3 : Bool} {u5 u9 v : Value} {X : Asrt} {g n1 n2 : Nat} {bs : List UInt8}
    (S : Sat G w (X :: opt b1 (blk g #[v, u5, u9] 47) :: opt b2 (ownS 5 1 u9 4 ((bigOf n2 4).map byteV)) :: opt b3 (ownS 5 1 u5 2 ((bigOf n1 2).map byteV)) :: l))
    (h1 : b1 = true) (h2 : b2 = true) (h3 : b3 = true) (hv : SlB (cellR G.ro) v bs) :
    ∀ i bs', [bs, bigOf n1 2, bigOf n2 4][i]? = some bs' → ∃ v, w.cell? ((⟨g, 0, none⟩ : Addr).add i) = some v ∧ SlB w.cell? v bs' := by
  subst h1; subst h2; subst h3
  have hc : ∀ i, w.cell? ((⟨g, 0, none⟩ : Addr).add i) = #[v, u5, u9][i]? := fun i => by
    have e : (⟨g, 0, none⟩ : Addr).add i = ⟨g, i, none⟩ := by unfold Addr.add; split <;> simp_all
    rw [e]; exact (opt_iff.1 (Sat.mid [_] S)).cell i
  have s2 : SlB w.cell? u9 (bigOf n2 4) := own_slb (t := 5) (by rw [bigOf_length]; exact opt_iff.1 (Sat.mid [_, _] S))
  have s1 : SlB w.cell? u5 (bigOf n1 2) := own_slb (t := 5) (by rw [bigOf_length]; exact opt_iff.1 (Sat.mid [_, _, _] S))
  have s0 : SlB w.cell? v bs := hv.sat S
  intro i bs' hi
  rcases i with _ | _ | _ | i
  · cases hi; exact ⟨_, by rw [hc]; rfl, s0⟩
  · cases hi; exact ⟨_, by rw [hc]; rfl, s1⟩
  · cases hi; exact ⟨_, by rw [hc]; rfl, s2⟩
  · simp at hi
section
variable {G : Gnd} {w : World} {l : List Asrt}
set_option maxHeartbeats 1000000 in
theorem sf_frame_wrong (H : Sat G w l) (v : Value) (ps : List (Int × Int)) (hv : RPairs G.ro v ps) (hw : ps.any wrongP = true) : Calls Try.prog 17 #[v] w fun e w' => e = .returned (.tuple #[.agg #[.int .i64 0, .int .i64 0, .int .i64 0, .slice none 0 0], .int .i64 11]) ∧ Sat G w' l := by
  refine calls_any fun K hK => ?_
  have S0 := H.newBlk #[.int .i64 0, .int .i64 0, .int .i64 0, .slice none 0 0] 49
  have hc := sf_contains S0 v ps hv
  rw [hw] at hc
  clear H S0
  go_enter Try.func17, Try.ntmps17
  go_wp2_with fail
  (with_reducible refine hc.mono ?_)
  clear hc
  rintro e w1 ⟨rfl, S1⟩
  generalize w.heap.size = r at *
  have f0 := S1.frozen 0
  have f1 := S1.frozen 1
  have f2 := S1.frozen 2
  have f3 := S1.frozen 3
  have c0 := S1.cell 0
  have c1 := S1.cell 1
  have c2 := S1.cell 2
  have c3 := S1.cell 3
  have HS := Lib.hid ((((S1.setCell 0 (.int .i64 0)).setCell 1 (.int .i64 0)).setCell 2 (.int .i64 0)).setCell 3 (.slice none 0 0))
  clear S1
  go_wp2_with fail
  refine bodyPost_ret (results_cell_t rfl _ _ _ _ _ _ rfl (HS.out).blk_at Try.underlying49 rfl (by kernel_rfl)) rfl ?_
  exact hK.out _ _ ⟨rfl, HS.out.drop⟩
set_option maxHeartbeats 1000000 in
theorem sf_frame_full (H : Sat G w l) (v : Value) (ps : List (Int × Int)) (hv : RPairs G.ro v ps) (hw : ps.any wrongP = false) (hl : 100 < ps.length) : Calls Try.prog 17 #[v] w fun e w' => e = .returned (.tuple #[.agg #[.int .i64 0, .int .i64 0, .int .i64 0, .slice none 0 0], .int .i64 15]) ∧ Sat G w' l := by
  refine calls_any fun K hK => ?_
  have S0 := H.newBlk #[.int .i64 0, .int .i64 0, .int .i64 0, .slice none 0 0] 49
  have hc := sf_contains S0 v ps hv
  rw [hw] at hc
  obtain ⟨A, c, rfl, -⟩ := id hv
  have hl2 : (100 : Int) < ps.length := by omega
  clear H S0
  go_enter Try.func17, Try.ntmps17
  go_wp2_with fail
  (with_reducible refine hc.mono ?_)
  clear hc
  rintro e w1 ⟨rfl, S1⟩
  generalize w.heap.size = r at *
  have f0 := S1.frozen 0
  have f1 := S1.frozen 1
  have f2 := S1.frozen 2
  have f3 := S1.frozen 3
  have c0 := S1.cell 0
  have c1 := S1.cell 1
  have c2 := S1.cell 2
  have c3 := S1.cell 3
  have HS := Lib.hid ((((S1.setCell 0 (.int .i64 0)).setCell 1 (.int .i64 0)).setCell 2 (.int .i64 0)).setCell 3 (.slice none 0 0))
  clear S1
  go_wp2_with fail
  refine bodyPost_ret (results_cell_t rfl _ _ _ _ _ _ rfl (HS.out).blk_at Try.underlying49 rfl (by kernel_rfl)) rfl ?_
  exact hK.out _ _ ⟨rfl, HS.out.drop⟩
set_option maxHeartbeats 8000000 in
set_option maxRecDepth 100000 in
theorem sf_frame (H : Sat G w l) (v : Value) (ps : List (Int × Int)) (hv : RPairs G.ro v ps) (hw : ps.any wrongP = false) (hl : ps.length ≤ 100) : Calls Try.prog 17 #[v] w fun e w' => ∃ u G', G.le G' ∧ e = .returned (.tuple #[.agg #[.int .i64 4, .int .i64 0, .int .i64 0, u], .int .i64 0]) ∧ SlB (cellR G'.ro) u (wire ps) ∧ Sat G' w' l := by
  refine calls_any fun K hK => ?_
  have S0 := H.newBlk #[.int .i64 0, .int .i64 0, .int .i64 0, .slice none 0 0] 49
  have hc := sf_contains S0 v ps hv
  rw [hw] at hc
  obtain ⟨A, c, rfl, hm, hel⟩ := id hv
  have HEL := Lib.hid hel
  have HW := Lib.hid hw
  have hl2 : ¬ ((100 : Int) < ps.length) := by omega
  clear H S0 hel hv hw
  go_enter Try.func17, Try.ntmps17
  go_wp2_with fail
  (with_reducible refine hc.mono ?_)
  clear hc
  generalize w.heap.size = r
  rintro e w1 ⟨rfl, S1⟩
  have S2 := S1.newBlk #[.int .i64 4, .int .i64 0, .int .i64 0, .slice none 0 0] 49
  clear S1
  go_upto_region 7 with fail
  generalize w1.heap.size = r5 at *
  refine wp_world S2 fun w2 S3 => ?_
  clear S2
  go_wp2_with fail
  go_loopw [21] (fun i wr => ∃ (k : Nat) (G1 : Gnd) (u : Value), k ≤ ps.length ∧ i = .int .i64 k ∧ G.le G1 ∧ SlB (cellR G1.ro) u (wire (ps.take k)) ∧ Sat G1 wr (blk r5 #[.int .i64 4, .int .i64 0, .int .i64 0, u] 49 :: blk r #[.int .i64 0, .int .i64 0, .int .i64 0, .slice none 0 0] 49 :: l)) (fun i _ => ps.length - (intOf i).toNat)
  case atStart => exact ⟨0, G, _, Nat.zero_le _, rfl, Gnd.le.rfl', SlB.nil _, S3⟩
  case round =>
    obtain ⟨k, G1, u, hk, rfl, hG1, hu, S⟩ := hrel
    clear S3
    by_cases hlt : k < ps.length
    · have hx := List.getElem?_eq_getElem hlt
      have htk := ptake hx
      obtain ⟨a, b, off, rfl, hab, e1, e2⟩ := HEL.out k _ hx
      have hwx : wrongP ps[k] = false := by
        have := HW.out
        rw [List.any_eq_false] at this
        exact eq_false_of_ne_true (this _ (List.getElem_mem hlt))
      generalize ps[k] = x at *
      obtain ⟨xa, xb⟩ := x
      have hr : 0 ≤ xa ∧ xa ≤ 65535 ∧ 0 ≤ xb ∧ xb ≤ 4294967295 := by
        unfold wrongP at hwx
        simpa using hwx
      obtain ⟨n1, rfl⟩ : ∃ n : Nat, xa = n := ⟨xa.toNat, by omega⟩
      obtain ⟨n2, rfl⟩ : ∃ n : Nat, xb = n := ⟨xb.toNat, by omega⟩
      have d0 := S.cellR (cellR_mono hG1.ro e1)
      have d1 := S.cellR (cellR_mono hG1.ro e2)
      have hws := wire_snoc (ps.take k) ((n1 : Int), (n2 : Int))
      rw [← htk] at hws
      simp only [Int.toNat_natCast] at hws
      have hwl := wire_length (ps.take k)
      rw [List.length_take] at hwl
      obtain ⟨bs, hbs⟩ : ∃ bs, bs = wire (ps.take k) := ⟨_, rfl⟩
      rw [← hbs] at hu hws hwl
      have hbl : bs.length ≤ 600 := by omega
      obtain ⟨B, hB⟩ : ∃ B, B = bs ++ (bigOf n1 2 ++ bigOf n2 4) := ⟨_, rfl⟩
      rw [← hB] at hws
      have hBf : [bs, bigOf n1 2, bigOf n2 4].flatten = B := by rw [hB]; simp
      have HWS := Lib.hid hws
      have HU := Lib.hid hu
      obtain ⟨A, c', rfl, hc1, hc2, hA⟩ := hu.form
      have HBF := Lib.hid hBf
      have HN : Hid (n1 ≤ 65535 ∧ n2 ≤ 4294967295) := Lib.hid (by omega)
      have S4 := S.newBlk #[.int .i64 n1, .int .i64 n2] 31
      have HBL : Hid ([bs, bigOf n1 2, bigOf n2 4].flatten.length ≤ 140737488355328) := Lib.hid (by simp [bigOf_length]; omega)
      have m1 : IntKind.u64.wrap (n1 : Int) = n1 := IntWalk.u64_in _ ⟨by omega, by omega⟩
      have m2 : IntKind.u64.wrap (n2 : Int) = n2 := IntWalk.u64_in _ ⟨by omega, by omega⟩
      have HM := Lib.hid (And.intro m1 m2)
      clear e1 e2 hx htk hwx hws hu hbs hB hBf S hr hwl hbl m1 m2
      go_upto_region 10 with fail
      generalize wr.heap.size = r7 at *
      refine wp_world S4 fun w4 S5 => ?_
      clear S4 d0 d1
      generalize hll : blk r #[.int .i64 0, .int .i64 0, .int .i64 0, .slice none 0 0] 49 :: l = l' at *
      have HLL := Lib.hid hll
      clear hll
      refine wp_act fun a0 ha0 => ?_
      have HSZ : a0.tmps.size = 40 := by rw [ha0]; rfl
      have E5 : a0.eval (.tmp 5) = .pointer (some ⟨r5, 0, none⟩) := by rw [ha0]; rfl
      have E7 : a0.eval (.tmp 7) = .pointer (some ⟨r7, 0, none⟩) := by rw [ha0]; rfl
      refine wp_region_J (by kernel_rfl) 14 (by kernel_rfl) [[], [0], [], [2], [3], [4], [], [6], [7], [8, 5], [1, 5, 9], [10, 9], [0, 1, 2, 3, 4, 5, 6, 7, 8, 9, 10, 11], [12, 11, 11, 0, 1, 2, 3, 4, 5, 6, 7, 8, 9, 10, 11]] (by kernel_rfl) (by kernel_rfl) (fun f a' W => ∃ u5 u9 u11 g, HFa f ∧ a' = acts [(0, 25, .pointer (some ⟨r5, 3, none⟩)), (1, 26, .slice A bs.length c'), (2, 27, .pointer (some ⟨r7, 0, none⟩)), (3, 28, .int .i64 n1), (4, 29, .int .u64 n1), (5, 30, u5), (6, 31, .pointer (some ⟨r7, 1, none⟩)), (7, 32, .int .i64 n2), (8, 33, .int .u64 n2), (9, 34, u9), (10, 35, .slice (some ⟨g, 0, none⟩) 3 3), (11, 36, u11), (12, 37, .pointer (some ⟨r5, 3, none⟩))] f a0 ∧ Sat G1 W (opt (f 11) (ownS 5 1 u11 B.length (B.map byteV)) :: opt (f 10) (blk g #[.slice A bs.length c', u5, u9] 47) :: opt (f 9) (ownS 5 1 u9 4 ((bigOf n2 4).map byteV)) :: opt (f 5) (ownS 5 1 u5 2 ((bigOf n1 2).map byteV)) :: blk r5 #[.int .i64 4, .int .i64 0, .int .i64 0, cond (f 13) u11 (.slice A bs.length c')] 49 :: blk r7 #[.int .i64 n1, .int .i64 n2] 31 :: l')) ?_ ?_ ?_
      · exact ⟨undef, undef, undef, 0, (by unfold HFa; decide), rfl, S5.swap.drew.opt0.opt0.opt0.opt0⟩
      · refine ⟨?_, ?_, ?_, ?_, ?_, ?_, ?_, ?_, ?_, ?_, ?_, ?_, ?_, ?_, trivial⟩
        · rintro f a' W h0 hd ⟨u5, u9, u11, g, hh, rfl, S⟩
          refine wpOp_run (v := .pointer (some ⟨r5, 3, none⟩)) rfl rfl (fun ρ hρ => ?_) ⟨u5, u9, u11, g, hh, (acts_some 0 rfl (by kernel_rfl) (by kernel_rfl)).symm, S⟩
          have e0 : ρ (.tmp 5) = .pointer (some ⟨r5, 0, none⟩) := by rw [hρ]; exact (acts_eval_tmp 5 (by kernel_rfl)).trans E5
          clear hρ
          go_simp
        · rintro f a' W h1 hd ⟨u5, u9, u11, g, hh, rfl, S⟩
          (have z10 := no_of5 (fun h => (hh.1 h).2.2) h1; have z11 := no_of5 hh.2.1 z10; have z13 := no_of5 hh.2.2 z11)
          refine wpOp_run (v := .slice A bs.length c') rfl rfl (fun ρ hρ => ?_) ⟨u5, u9, u11, g, ⟨fun h => ⟨(hh.1 h).1, (hh.1 h).2.1, rfl⟩, hh.2⟩, (acts_some 1 rfl (by kernel_rfl) (by kernel_rfl)).symm, S⟩
          have e0 : ρ (.tmp 25) = .pointer (some ⟨r5, 3, none⟩) := by rw [hρ]; exact acts_eval_hit 0 rfl hd.1 (by rw [HSZ]; rfl) (by kernel_rfl)
          clear hρ
          (have hcl : W.cell? ⟨r5, 3, none⟩ = some (.slice A bs.length c') := (by have := (S.re [4, 0, 1, 2, 3]).cell 3; rw [z13] at this; exact this))
          go_simp
        · rintro f a' W h2 hd ⟨u5, u9, u11, g, hh, rfl, S⟩
          refine wpOp_run (v := .pointer (some ⟨r7, 0, none⟩)) rfl rfl (fun ρ hρ => ?_) ⟨u5, u9, u11, g, hh, (acts_some 2 rfl (by kernel_rfl) (by kernel_rfl)).symm, S⟩
          have e0 : ρ (.tmp 7) = .pointer (some ⟨r7, 0, none⟩) := by rw [hρ]; exact (acts_eval_tmp 7 (by kernel_rfl)).trans E7
          have ec : ∀ v, ρ (.const v) = v := by rw [hρ]; exact fun _ => rfl
          clear hρ
          go_simp
        · rintro f a' W h3 hd ⟨u5, u9, u11, g, hh, rfl, S⟩
          refine wpOp_run (v := .int .i64 n1) rfl rfl (fun ρ hρ => ?_) ⟨u5, u9, u11, g, hh, (acts_some 3 rfl (by kernel_rfl) (by kernel_rfl)).symm, S⟩
          have e0 : ρ (.tmp 27) = .pointer (some ⟨r7, 0, none⟩) := by rw [hρ]; exact acts_eval_hit 2 rfl hd.1 (by rw [HSZ]; rfl) (by kernel_rfl)
          clear hρ
          (have hcl : W.cell? ⟨r7, 0, none⟩ = some (.int .i64 n1) := (S.re [5, 0, 1, 2, 3, 4]).cell 0)
          go_simp
        · rintro f a' W h4 hd ⟨u5, u9, u11, g, hh, rfl, S⟩
          refine wpOp_run (v := .int .u64 n1) rfl rfl (fun ρ hρ => ?_) ⟨u5, u9, u11, g, hh, (acts_some 4 rfl (by kernel_rfl) (by kernel_rfl)).symm, S⟩
          have e0 : ρ (.tmp 28) = .int .i64 n1 := by rw [hρ]; exact acts_eval_hit 3 rfl hd.1 (by rw [HSZ]; rfl) (by kernel_rfl)
          clear hρ
          (have hm := HM.out.1)
          go_simp
        · rintro f a' W h5 hd ⟨u5, u9, u11, g, hh, rfl, S⟩
          refine wpOp_call rfl rfl (fun ρ hρ => ?_) (octet_big_all S n1 2 (by have := HN.out; omega) (by decide)) ?_
          · skip
            have e0 : ρ (.tmp 29) = .int .u64 n1 := by rw [hρ]; exact acts_eval_hit 4 rfl hd.1 (by rw [HSZ]; rfl) (by kernel_rfl)
            have ef : ρ (.func 27) = .func (.func 27) #[] #[] := by rw [hρ]; rfl
            have ec : ∀ v, ρ (.const v) = v := by rw [hρ]; exact fun _ => rfl
            clear hρ
            go_simp
          · (rintro e W' ⟨u', rfl, S'⟩; have z10 := no_of5 (fun h => (hh.1 h).1) h5; refine ⟨_, rfl, u', u9, u11, g, ⟨fun h => absurd h (by show ¬ f 10 = true; rw [z10]; decide), hh.2⟩, acts_swap (by simp only [acts, h5, Bool.false_eq_true, if_false]) (k := 5) rfl (by kernel_rfl) (by kernel_rfl), ?_⟩; show Sat G1 W' (opt (f 11) _ :: opt (f 10) _ :: opt (f 9) _ :: opt true _ :: _); rw [z10]; have T := Sat.optI (b := true) rfl S'; have T2 := (T.re [4, 1, 2, 3, 0]).drop; have T3 := (T2.re [1, 0, 2, 3]).drop; exact (Sat.opt0 T3).re [1, 0, 2, 3])
        · rintro f a' W h6 hd ⟨u5, u9, u11, g, hh, rfl, S⟩
          refine wpOp_run (v := .pointer (some ⟨r7, 1, none⟩)) rfl rfl (fun ρ hρ => ?_) ⟨u5, u9, u11, g, hh, (acts_some 6 rfl (by kernel_rfl) (by kernel_rfl)).symm, S⟩
          have e0 : ρ (.tmp 7) = .pointer (some ⟨r7, 0, none⟩) := by rw [hρ]; exact (acts_eval_tmp 7 (by kernel_rfl)).trans E7
          have ec : ∀ v, ρ (.const v) = v := by rw [hρ]; exact fun _ => rfl
          clear hρ
          go_simp
        · rintro f a' W h7 hd ⟨u5, u9, u11, g, hh, rfl, S⟩
          refine wpOp_run (v := .int .i64 n2) rfl rfl (fun ρ hρ => ?_) ⟨u5, u9, u11, g, hh, (acts_some 7 rfl (by kernel_rfl) (by kernel_rfl)).symm, S⟩
          have e0 : ρ (.tmp 31) = .pointer (some ⟨r7, 1, none⟩) := by rw [hρ]; exact acts_eval_hit 6 rfl hd.1 (by rw [HSZ]; rfl) (by kernel_rfl)
          clear hρ
          (have hcl : W.cell? ⟨r7, 1, none⟩ = some (.int .i64 n2) := (S.re [5, 0, 1, 2, 3, 4]).cell 1)
          go_simp
        · rintro f a' W h8 hd ⟨u5, u9, u11, g, hh, rfl, S⟩
          refine wpOp_run (v := .int .u64 n2) rfl rfl (fun ρ hρ => ?_) ⟨u5, u9, u11, g, hh, (acts_some 8 rfl (by kernel_rfl) (by kernel_rfl)).symm, S⟩
          have e0 : ρ (.tmp 32) = .int .i64 n2 := by rw [hρ]; exact acts_eval_hit 7 rfl hd.1 (by rw [HSZ]; rfl) (by kernel_rfl)
          clear hρ
          (have hm := HM.out.2)
          go_simp
        · rintro f a' W h9 hd ⟨u5, u9, u11, g, hh, rfl, S⟩
          refine wpOp_call rfl rfl (fun ρ hρ => ?_) (octet_big_all S n2 4 (by have := HN.out; omega) (by decide)) ?_
          · skip
            have e0 : ρ (.tmp 33) = .int .u64 n2 := by rw [hρ]; exact acts_eval_hit 8 rfl hd.1 (by rw [HSZ]; rfl) (by kernel_rfl)
            have ef : ρ (.func 27) = .func (.func 27) #[] #[] := by rw [hρ]; rfl
            have ec : ∀ v, ρ (.const v) = v := by rw [hρ]; exact fun _ => rfl
            clear hρ
            go_simp
          · (rintro e W' ⟨u', rfl, S'⟩; have z10 := no_of5 (fun h => (hh.1 h).2.1) h9; refine ⟨_, rfl, u5, u', u11, g, ⟨fun h => absurd h (by show ¬ f 10 = true; rw [z10]; decide), hh.2⟩, acts_swap (by simp only [acts, h9, Bool.false_eq_true, if_false]) (k := 9) rfl (by kernel_rfl) (by kernel_rfl), ?_⟩; show Sat G1 W' (opt (f 11) _ :: opt (f 10) _ :: opt true _ :: _); rw [z10]; have T := Sat.optI (b := true) rfl S'; have T2 := (T.re [3, 1, 2, 0]).drop; have T3 := (T2.re [1, 0, 2]).drop; exact (Sat.opt0 T3).re [1, 0, 2])
        · rintro f a' W h10 hd ⟨u5, u9, u11, g, hh, rfl, S⟩
          (have z11 := no_of5 hh.2.1 h10; obtain ⟨A1, c1, q1, -⟩ := (Sat.optE hd.2.1 (Sat.mid [_, _, _] S)).ownForm; obtain ⟨A2, c2, q2, -⟩ := (Sat.optE hd.2.2.1 (Sat.mid [_, _] S)).ownForm)
          refine wpOp_mem (v := .slice (some ⟨W.heap.size, 0, none⟩) 3 3) (w' := W.alloc (.cells #[.slice A bs.length c', u5, u9] 47)) rfl rfl (fun ρ hρ => ?_) (⟨u5, u9, u11, W.heap.size, ⟨fun _ => ⟨hd.2.1, hd.2.2.1, hd.1⟩, fun h => absurd h (by show ¬ f 11 = true; rw [z11]; decide), hh.2.2⟩, acts_swap (by simp only [acts, h10, Bool.false_eq_true, if_false]) (k := 10) rfl (by kernel_rfl) (by kernel_rfl), (by have T := Sat.optI (b := true) rfl (S.newBlk #[.slice A bs.length c', u5, u9] 47); exact (T.re [2, 1, 0]).drop)⟩)
          have e0 : ρ (.tmp 26) = .slice A bs.length c' := by rw [hρ]; exact acts_eval_hit 1 rfl hd.1 (by rw [HSZ]; rfl) (by kernel_rfl)
          have e1 : ρ (.tmp 30) = u5 := by rw [hρ]; exact acts_eval_hit 5 rfl hd.2.1 (by rw [HSZ]; rfl) (by kernel_rfl)
          have e2 : ρ (.tmp 34) = u9 := by rw [hρ]; exact acts_eval_hit 9 rfl hd.2.2.1 (by rw [HSZ]; rfl) (by kernel_rfl)
          clear hρ
          go_simp
        · rintro f a' W h11 hd ⟨u5, u9, u11, g, hh, rfl, S⟩
          refine wpOp_call rfl rfl (fun ρ hρ => ?_) (concat_bytes S ⟨g, 0, none⟩ 3 [bs, bigOf n1 2, bigOf n2 4] (fun W S ↦ parts3 S hd.1 (hh.1 hd.1).2.1 (hh.1 hd.1).1 HU.out) HBL.out (by simp) (by decide)) ?_
          · skip
            have e0 : ρ (.tmp 35) = .slice (some ⟨g, 0, none⟩) 3 3 := by rw [hρ]; exact acts_eval_hit 10 rfl hd.1 (by rw [HSZ]; rfl) (by kernel_rfl)
            have ef : ρ (.func 26) = .func (.func 26) #[] #[] := by rw [hρ]; rfl
            clear hρ
            go_simp
          · (rintro e W' ⟨u', rfl, S'⟩; rw [HBF.out] at S'; have z13 := no_of5 hh.2.2 h11; refine ⟨_, rfl, u5, u9, u', g, ⟨hh.1, fun _ => hd.1, fun _ => rfl⟩, acts_swap (by simp only [acts, h11, Bool.false_eq_true, if_false]) (k := 11) rfl (by kernel_rfl) (by kernel_rfl), ?_⟩; show Sat G1 W' (opt true _ :: _ :: _ :: _ :: blk r5 #[_, _, _, cond (f 13) _ _] _ :: _); rw [z13]; have T := (Sat.optI (b := true) rfl S').drop2; rw [z13] at T; exact T)
        · rintro f a' W h12 hd ⟨u5, u9, u11, g, hh, rfl, S⟩
          refine wpOp_run (v := .pointer (some ⟨r5, 3, none⟩)) rfl rfl (fun ρ hρ => ?_) ⟨u5, u9, u11, g, hh, (acts_some 12 rfl (by kernel_rfl) (by kernel_rfl)).symm, S⟩
          have e0 : ρ (.tmp 5) = .pointer (some ⟨r5, 0, none⟩) := by rw [hρ]; exact (acts_eval_tmp 5 (by kernel_rfl)).trans E5
          clear hρ
          go_simp
        · rintro f a' W h13 hd ⟨u5, u9, u11, g, hh, rfl, S⟩
          have q37 : (acts [(0, 25, .pointer (some ⟨r5, 3, none⟩)), (1, 26, .slice A bs.length c'), (2, 27, .pointer (some ⟨r7, 0, none⟩)), (3, 28, .int .i64 n1), (4, 29, .int .u64 n1), (5, 30, u5), (6, 31, .pointer (some ⟨r7, 1, none⟩)), (7, 32, .int .i64 n2), (8, 33, .int .u64 n2), (9, 34, u9), (10, 35, .slice (some ⟨g, 0, none⟩) 3 3), (11, 36, u11), (12, 37, .pointer (some ⟨r5, 3, none⟩))] f a0).eval (.tmp 37) = .pointer (some ⟨r5, 3, none⟩) := acts_eval_hit 12 rfl hd.1 (by rw [HSZ]; rfl) (by kernel_rfl)
          have q36 : (acts [(0, 25, .pointer (some ⟨r5, 3, none⟩)), (1, 26, .slice A bs.length c'), (2, 27, .pointer (some ⟨r7, 0, none⟩)), (3, 28, .int .i64 n1), (4, 29, .int .u64 n1), (5, 30, u5), (6, 31, .pointer (some ⟨r7, 1, none⟩)), (7, 32, .int .i64 n2), (8, 33, .int .u64 n2), (9, 34, u9), (10, 35, .slice (some ⟨g, 0, none⟩) 3 3), (11, 36, u11), (12, 37, .pointer (some ⟨r5, 3, none⟩))] f a0).eval (.tmp 36) = u11 := acts_eval_hit 11 rfl hd.2.1 (by rw [HSZ]; rfl) (by kernel_rfl)
          (rw [h13] at S; have hS11 := Sat.optE hd.2.1 S; obtain ⟨A9, c9, rfl, -⟩ := hS11.ownSlice; refine wpOp_list rfl ?_; refine st_set rfl _ _ _ rfl _ _ _ q37 q36 rfl _ _ (S.re [4, 0, 1, 2, 3]) (by kernel_rfl) (by simp) fun W' S' => ?_; exact ⟨u5, u9, _, g, ⟨hh.1, hh.2.1, fun _ => hd.2.1⟩, (acts_none 13 (by kernel_rfl)).symm, S'.re [1, 2, 3, 4, 0]⟩)
      · rintro a' W ⟨u5, u9, u11, g, -, rfl, S6⟩
        subst ha0
        simp only [acts, if_true, Act.put, List.setIfInBounds_toArray, List.set_cons_succ, List.set_cons_zero]
        simp only [cond_true] at S6
        have S7 := opt_iff.1 S6
        obtain ⟨G2, hG2, S8, hu2⟩ := S7.ownFrz
        have S9 := (S8.re [0, 1, 2, 4, 3]).drop.drop.drop.drop
        rw [← HLL.out] at S9
        have HS9 := Lib.hid S9
        have HU2 := Lib.hid hu2
        clear S6 S7 S8 S9 S5 hu2 HSZ E5 E7
        go_wp2_with fail
        go_roundw
        case rel => exact ⟨k + 1, G2, u11, by omega, by go_num, hG1.trans hG2, by rw [HWS.out]; exact HU2.out, HS9.out⟩
        case measure => simp [intOf]; omega
    · have hkl : ps.take k = ps := List.take_of_length_le (by omega)
      rw [hkl] at hu
      have HU := Lib.hid hu
      have c0 := S.cell 0
      have c1 := S.cell 1
      have c2 := S.cell 2
      have c3 := S.cell 3
      have g0 := S.swap.cell 0
      have g1 := S.swap.cell 1
      have g2 := S.swap.cell 2
      have g3 := S.swap.cell 3
      have f0 := S.swap.frozen 0
      have f1 := S.swap.frozen 1
      have f2 := S.swap.frozen 2
      have f3 := S.swap.frozen 3
      have HS := Lib.hid ((((S.swap.setCell 0 (.int .i64 4)).setCell 1 (.int .i64 0)).setCell 2 (.int .i64 0)).setCell 3 u)
      have hlt2 : ¬ ((k : Int) < ps.length) := by omega
      obtain ⟨A, c', rfl, hc1, hc2, hA⟩ := hu.form
      clear S hu
      go_wp2_with fail
      refine bodyPost_ret (results_cell_t rfl _ _ _ _ _ _ rfl (HS.out).blk_at Try.underlying49 rfl (by kernel_rfl)) rfl ?_
      exact hK.out _ _ ⟨_, G1, hG1, rfl, HU.out, HS.out.drop.drop⟩
end
end Go.Proofs.Ytohknaoklcehaaa
