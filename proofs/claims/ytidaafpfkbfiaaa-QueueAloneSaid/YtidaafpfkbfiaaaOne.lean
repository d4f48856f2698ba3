/- The walks over the law's one: one call of both, kind by kind. -/
import Derived.Test.YtidaafpfkbfiaaaRefd
import Derived.Test.YtidaafpfkbfiaaaMiss
import Derived.Test.YtidaafpfkbfiaaaOwnL
import Derived.Deep.QuietTactic
import Derived.BigQuiet
set_option linter.unusedSimpArgs false
set_option linter.unusedVariables false
namespace Go.Proofs.Ytidaafpfkbfiaaa
open Go.RowKit

def oneL (B I : Int) (L : List It) (o : OpD) : List It :=
  if o.k = 1 then (putL B I L o.x.abs).1 else if o.k = 5 then dropL o.n L
  else match L with
    | [] => []
    | x :: L' => if o.k = 3 then (if o.n < 0 ∨ (x.2.2.length : Int) < o.n then x :: L' else (x.1, x.2.1, x.2.2.drop o.n.toNat) :: L') else if o.k = 4 then L' else x :: L'
theorem putQ_putL {Q : List (List It)} {B I : Int} {t : Nat} {x : It} (ht : t < Q.length) : putQ Q B I t x = if I ≤ ((Q.getD t []).length : Int) ∨ B < (qsz (Q.getD t []) : Int) + isz x then (Q, 33) else (Q.set t (Q.getD t [] ++ [x]), 0) := by
  unfold putQ
  rw [if_neg (by omega), qAt_nat]
  simp
section
variable {G : Gnd} {w w' : World} {l : List Asrt} {q t xn xc : Nat} {Q : List (List It)} {B I T : Int} {v : Value} {X : Option Addr} {o : OpD}
def HO28 (f : Nat → Bool) : Prop := f 18 = true → f 3 = true
theorem own_hypN {G : Gnd} {l : List Asrt} {v : Value} {N : Nat} (bs : List UInt8) (h : bs.length = N) : ∀ W, Sat G W (ownS 5 1 v N (bs.map byteV) :: l) → SlB W.cell? v bs := by subst h; exact own_hyp bs
theorem nil_hyp {G : Gnd} {l : List Asrt} : ∀ W, Sat G W l → SlB W.cell? (.slice none 0 0) [] := fun _ _ => SlB.nil _
def HO (f : Nat → Bool) : Prop := (f 9 = true → f 8 = true) ∧ (f 10 = true → f 9 = true) ∧ (f 12 = true → f 10 = true)
theorem fun_sat {A B C : Asrt} {bv : Value} {bs : List UInt8} {l : List Asrt} (h : SlB (cellR G.ro) bv bs) : ∀ W, Sat G W (A :: B :: C :: l) → SlB W.cell? bv bs := fun W SW => h.sat SW
set_option maxHeartbeats 8000000 in
set_option maxRecDepth 100000 in
theorem one_put (H : Sat G w (quA q Q B I :: l)) (hw : QWf Q B I) (ht : t < Q.length) (hv : RL (cellR G.ro) v (Q.getD t [])) (ho : o.ok G.ro) (hot : o.t = t) (hk : o.k = 1) :
    Calls Try.prog 20 #[.pointer (some ⟨q, 0, none⟩), v, .agg #[.int .i64 T, .int .i64 B, .int .i64 I, .slice X xn xc], .agg o.cells.toArray] w fun e w' => ∃ u G', G.le G' ∧ e = .returned (.tuple #[u, .bool true]) ∧ RL (cellR G'.ro) u ((putL B I (Q.getD t []) o.x.abs).1) ∧ Sat G' w' (quA q (Q.set t ((putL B I (Q.getD t []) o.x.abs).1)) B I :: l) := by
  refine calls_any fun K hK => ?_
  obtain ⟨ok, ot, on, ⟨n, hv1, bv1, h, b⟩⟩ := o
  obtain ⟨hox, hoh, hob, ⟨hot0, hot1⟩, ⟨hon0, hon1⟩⟩ := ho
  obtain ⟨A, a, D, d, e1, e2⟩ := qe_slices hox
  simp only at e1 e2 hoh hob hot hot0 hot1 hon0 hon1
  subst e1
  subst e2
  subst hot
  simp only [OpD.cells, Qe.enc, Qe.abs] at *
  have hat := hw.at_ t
  have hb1 := hw.b1
  have hi1 := hw.i1
  have hL5 : (Q.getD t []).length ≤ 5000 := by omega
  have hz5 : qsz (Q.getD t []) ≤ 281474976710656 := by omega
  have S1 := (H.newBlk #[.int .i64 T, .int .i64 B, .int .i64 I, .slice X xn xc] 41).newBlk #[.int .i64 ok, .int .i64 t, .int .i64 on, .int .i64 n, .slice A h.length a, .slice D b.length d] 46
  simp only [World.size_alloc] at S1
  have HV := Lib.hid hv
  have HOX := Lib.hid hox
  obtain ⟨va, vc, rfl, -, -, -, -⟩ := id hv
  clear H hv hox
  subst hk
  have hor := putQ_putL (B := B) (I := I) (x := (n, h, b)) ht
  have hqs := set_getD ht
  obtain ⟨r, hr⟩ : ∃ r, r = putL B I (Q.getD t []) (n, h, b) := ⟨_, rfl⟩
  have hr2 : (r.2 = 1 ∧ putQ Q B I t (n, h, b) = (Q.set t r.1, 33)) ∨ (r.2 = 0 ∧ putQ Q B I t (n, h, b) = (Q.set t r.1, 0)) := by
    rw [hor, hr]
    unfold putL
    by_cases hc : I ≤ ((Q.getD t []).length : Int) ∨ B < (qsz (Q.getD t []) : Int) + isz (n, h, b)
    · rw [if_pos hc, if_pos hc]; exact .inl ⟨rfl, by rw [hqs]⟩
    · rw [if_neg hc, if_neg hc]; exact .inr ⟨rfl, rfl⟩
  rw [← hr] at hK
  have HR := Lib.hid hr
  clear hor hqs hr
  go_enter Try.func20, Try.ntmps20
  go_upto_region 3 with fail
  generalize w.heap.size + 1 = p2 at *
  generalize w.heap.size = p1 at *
  refine wp_world S1 fun w1 S2 => ?_
  clear S1
  refine wp_act fun a0 ha0 => ?_
  have HSZ : a0.tmps.size = 243 := by rw [ha0]; rfl
  have E1 : a0.eval (.tmp 1) = .slice va (Q.getD t []).length vc := by rw [ha0]; rfl
  have E6 : a0.eval (.tmp 6) = .pointer (some ⟨p1, 0, none⟩) := by rw [ha0]; rfl
  have E7 : a0.eval (.tmp 7) = .pointer (some ⟨p2, 0, none⟩) := by rw [ha0]; rfl
  refine wp_region_J (by kernel_rfl) 14 (by kernel_rfl) [[], [], [1], [], [3], [], [5], [6], [0, 2, 4, 7, 7], [8], [9], [9], [10, 8, 0, 1, 2, 3, 4, 5, 6, 7, 8, 9, 10], [11, 12, 0, 1, 2, 3, 4, 5, 6, 7, 8, 9, 10, 11, 12]] (by kernel_rfl) (by kernel_rfl) (fun f a' W => ∃ u G', HO f ∧ G.le G' ∧ (f 8 = true → RL (cellR G'.ro) u r.1) ∧ a' = acts [(0, 34, .slice va (Q.getD t []).length vc), (1, 35, .pointer (some ⟨p1, 1, none⟩)), (2, 36, .int .i64 B), (3, 37, .pointer (some ⟨p1, 2, none⟩)), (4, 38, .int .i64 I), (5, 39, .pointer (some ⟨p2, 3, none⟩)), (6, 40, .agg #[.int .i64 n, .slice A h.length a, .slice D b.length d]), (7, 41, .agg #[.int .i64 n, .string (bstr h), .string (bstr b)]), (8, 42, .tuple #[u, .int .i64 r.2]), (9, 33, .tuple #[u, .int .i64 r.2]), (10, 43, u), (11, 44, .int .i64 r.2), (12, 10, u), (13, 11, .int .i64 r.2)] f a0 ∧ Sat G' W (blk p2 #[.int .i64 1, .int .i64 t, .int .i64 on, .int .i64 n, .slice A h.length a, .slice D b.length d] 46 :: blk p1 #[.int .i64 T, .int .i64 B, .int .i64 I, .slice X xn xc] 41 :: quA q Q B I :: l)) ?_ ?_ ?_
  · exact ⟨undef, G, (by unfold HO; decide), Gnd.le.rfl', (by intro h; cases h), rfl, S2.drew⟩
  · refine ⟨?_, ?_, ?_, ?_, ?_, ?_, ?_, ?_, ?_, ?_, ?_, ?_, ?_, ?_, trivial⟩
    · rintro f a' W h0 hd ⟨u, G', hh, hG, hu, rfl, S⟩
      refine wpOp_run (v := .slice va (Q.getD t []).length vc) rfl rfl (fun ρ hρ => ?_) ⟨u, G', hh, hG, hu, (acts_some 0 rfl (by kernel_rfl) (by kernel_rfl)).symm, S⟩
      have e0 : ρ (.tmp 1) = .slice va (Q.getD t []).length vc := by rw [hρ]; exact (acts_eval_tmp 1 (by kernel_rfl)).trans E1
      clear hρ
      go_simp
    · rintro f a' W h1 hd ⟨u, G', hh, hG, hu, rfl, S⟩
      refine wpOp_run (v := .pointer (some ⟨p1, 1, none⟩)) rfl rfl (fun ρ hρ => ?_) ⟨u, G', hh, hG, hu, (acts_some 1 rfl (by kernel_rfl) (by kernel_rfl)).symm, S⟩
      have e0 : ρ (.tmp 6) = .pointer (some ⟨p1, 0, none⟩) := by rw [hρ]; exact (acts_eval_tmp 6 (by kernel_rfl)).trans E6
      clear hρ
      go_simp
    · rintro f a' W h2 hd ⟨u, G', hh, hG, hu, rfl, S⟩
      refine wpOp_run (v := .int .i64 B) rfl rfl (fun ρ hρ => ?_) ⟨u, G', hh, hG, hu, (acts_some 2 rfl (by kernel_rfl) (by kernel_rfl)).symm, S⟩
      have e0 : ρ (.tmp 35) = .pointer (some ⟨p1, 1, none⟩) := by rw [hρ]; exact acts_eval_hit 1 rfl hd.1 (by rw [HSZ]; rfl) (by kernel_rfl)
      clear hρ
      (have hz := S.swap.cell 1)
      go_simp
    · rintro f a' W h3 hd ⟨u, G', hh, hG, hu, rfl, S⟩
      refine wpOp_run (v := .pointer (some ⟨p1, 2, none⟩)) rfl rfl (fun ρ hρ => ?_) ⟨u, G', hh, hG, hu, (acts_some 3 rfl (by kernel_rfl) (by kernel_rfl)).symm, S⟩
      have e0 : ρ (.tmp 6) = .pointer (some ⟨p1, 0, none⟩) := by rw [hρ]; exact (acts_eval_tmp 6 (by kernel_rfl)).trans E6
      clear hρ
      go_simp
    · rintro f a' W h4 hd ⟨u, G', hh, hG, hu, rfl, S⟩
      refine wpOp_run (v := .int .i64 I) rfl rfl (fun ρ hρ => ?_) ⟨u, G', hh, hG, hu, (acts_some 4 rfl (by kernel_rfl) (by kernel_rfl)).symm, S⟩
      have e0 : ρ (.tmp 37) = .pointer (some ⟨p1, 2, none⟩) := by rw [hρ]; exact acts_eval_hit 3 rfl hd.1 (by rw [HSZ]; rfl) (by kernel_rfl)
      clear hρ
      (have hz := S.swap.cell 2)
      go_simp
    · rintro f a' W h5 hd ⟨u, G', hh, hG, hu, rfl, S⟩
      refine wpOp_run (v := .pointer (some ⟨p2, 3, none⟩)) rfl rfl (fun ρ hρ => ?_) ⟨u, G', hh, hG, hu, (acts_some 5 rfl (by kernel_rfl) (by kernel_rfl)).symm, S⟩
      have e0 : ρ (.tmp 7) = .pointer (some ⟨p2, 0, none⟩) := by rw [hρ]; exact (acts_eval_tmp 7 (by kernel_rfl)).trans E7
      clear hρ
      go_simp
    · rintro f a' W h6 hd ⟨u, G', hh, hG, hu, rfl, S⟩
      refine wpOp_run (v := .agg #[.int .i64 n, .slice A h.length a, .slice D b.length d]) rfl rfl (fun ρ hρ => ?_) ⟨u, G', hh, hG, hu, (acts_some 6 rfl (by kernel_rfl) (by kernel_rfl)).symm, S⟩
      have e0 : ρ (.tmp 39) = .pointer (some ⟨p2, 3, none⟩) := by rw [hρ]; exact acts_eval_hit 5 rfl hd.1 (by rw [HSZ]; rfl) (by kernel_rfl)
      clear hρ
      (have hz3 := S.cell 3; have hz4 := S.cell 4; have hz5 := S.cell 5)
      go_simp
    · rintro f a' W h7 hd ⟨u, G', hh, hG, hu, rfl, S⟩
      refine wpOp_call rfl rfl (fun ρ hρ => ?_) (law_ref S n (.slice A h.length a) (.slice D b.length d) h b (fun_sat (HOX.out.1.mono hG)) (fun_sat (HOX.out.2.mono hG))) ?_
      · skip
        have e0 : ρ (.tmp 40) = .agg #[.int .i64 n, .slice A h.length a, .slice D b.length d] := by rw [hρ]; exact acts_eval_hit 6 rfl hd.1 (by rw [HSZ]; rfl) (by kernel_rfl)
        have ef : ρ (.func 9) = .func (.func 9) #[] #[] := by rw [hρ]; rfl
        clear hρ
        go_simp
      · (rintro x W' ⟨rfl, S'⟩; exact ⟨_, rfl, u, G', hh, hG, hu, (acts_some 7 rfl (by kernel_rfl) (by kernel_rfl)).symm, S'⟩)
    · rintro f a' W h8 hd ⟨u, G', hh, hG, hu, rfl, S⟩
      (have z9 := no_of hh.1 h8; have z10 := no_of hh.2.1 z9; have z12 := no_of hh.2.2 z10)
      refine wpOp_call rfl rfl (fun ρ hρ => ?_) (ref_put S (HV.out.mono hG) B I n h b hz5 hL5 (by omega) (by omega)) ?_
      · skip
        have e0 : ρ (.tmp 34) = .slice va (Q.getD t []).length vc := by rw [hρ]; exact acts_eval_hit 0 rfl hd.1 (by rw [HSZ]; rfl) (by kernel_rfl)
        have e1 : ρ (.tmp 36) = .int .i64 B := by rw [hρ]; exact acts_eval_hit 2 rfl hd.2.1 (by rw [HSZ]; rfl) (by kernel_rfl)
        have e2 : ρ (.tmp 38) = .int .i64 I := by rw [hρ]; exact acts_eval_hit 4 rfl hd.2.2.1 (by rw [HSZ]; rfl) (by kernel_rfl)
        have e3 : ρ (.tmp 41) = .agg #[.int .i64 n, .string (bstr h), .string (bstr b)] := by rw [hρ]; exact acts_eval_hit 7 rfl hd.2.2.2.1 (by rw [HSZ]; rfl) (by kernel_rfl)
        have ef : ρ (.func 26) = .func (.func 26) #[] #[] := by rw [hρ]; rfl
        clear hρ
        go_simp
      · (rintro x W' ⟨u2, G2, hG2, rfl, hr3, S'⟩; rw [← HR.out] at hr3 ⊢; exact ⟨_, rfl, u2, G2, ⟨fun _ => rfl, hh.2.1, hh.2.2⟩, hG.trans hG2, fun _ => hr3, acts_swap (by simp only [acts, h8, z9, z10, z12, Bool.false_eq_true, if_false]) (k := 8) rfl (by kernel_rfl) (by kernel_rfl), S'⟩)
    · rintro f a' W h9 hd ⟨u, G', hh, hG, hu, rfl, S⟩
      refine wpOp_run (v := .tuple #[u, .int .i64 r.2]) rfl rfl (fun ρ hρ => ?_) ⟨u, G', ⟨fun _ => hd.1, fun h => rfl, hh.2.2⟩, hG, hu, (acts_some 9 rfl (by kernel_rfl) (by kernel_rfl)).symm, S⟩
      have e0 : ρ (.tmp 42) = .tuple #[u, .int .i64 r.2] := by rw [hρ]; exact acts_eval_hit 8 rfl hd.1 (by rw [HSZ]; rfl) (by kernel_rfl)
      clear hρ
      skip
      go_simp
    · rintro f a' W h10 hd ⟨u, G', hh, hG, hu, rfl, S⟩
      refine wpOp_run (v := u) rfl rfl (fun ρ hρ => ?_) ⟨u, G', ⟨hh.1, fun _ => hd.1, fun h => rfl⟩, hG, hu, (acts_some 10 rfl (by kernel_rfl) (by kernel_rfl)).symm, S⟩
      have e0 : ρ (.tmp 33) = .tuple #[u, .int .i64 r.2] := by rw [hρ]; exact acts_eval_hit 9 rfl hd.1 (by rw [HSZ]; rfl) (by kernel_rfl)
      clear hρ
      skip
      go_simp
    · rintro f a' W h11 hd ⟨u, G', hh, hG, hu, rfl, S⟩
      refine wpOp_run (v := .int .i64 r.2) rfl rfl (fun ρ hρ => ?_) ⟨u, G', hh, hG, hu, (acts_some 11 rfl (by kernel_rfl) (by kernel_rfl)).symm, S⟩
      have e0 : ρ (.tmp 33) = .tuple #[u, .int .i64 r.2] := by rw [hρ]; exact acts_eval_hit 9 rfl hd.1 (by rw [HSZ]; rfl) (by kernel_rfl)
      clear hρ
      go_simp
    · rintro f a' W h12 hd ⟨u, G', hh, hG, hu, rfl, S⟩
      refine wpOp_run (v := u) rfl rfl (fun ρ hρ => ?_) ⟨u, G', ⟨hh.1, hh.2.1, fun _ => hd.1⟩, hG, hu, (acts_some 12 rfl (by kernel_rfl) (by kernel_rfl)).symm, S⟩
      have e0 : ρ (.tmp 43) = u := by rw [hρ]; exact acts_eval_hit 10 rfl hd.1 (by rw [HSZ]; rfl) (by kernel_rfl)
      clear hρ
      skip
      go_simp
    · rintro f a' W h13 hd ⟨u, G', hh, hG, hu, rfl, S⟩
      refine wpOp_run (v := .int .i64 r.2) rfl rfl (fun ρ hρ => ?_) ⟨u, G', hh, hG, hu, (acts_some 13 rfl (by kernel_rfl) (by kernel_rfl)).symm, S⟩
      have e0 : ρ (.tmp 44) = .int .i64 r.2 := by rw [hρ]; exact acts_eval_hit 11 rfl hd.1 (by rw [HSZ]; rfl) (by kernel_rfl)
      clear hρ
      go_simp
  rintro a' W ⟨u, G', -, hG, hu, rfl, S3⟩
  replace hu := hu rfl
  subst ha0
  simp only [acts, if_true, Act.put, List.setIfInBounds_toArray, List.set_cons_succ, List.set_cons_zero]
  have o1 := S3.cell 1
  have o3 := S3.cell 3
  have o4 := S3.cell 4
  have o5 := S3.cell 5
  have hput := qu_put (S3.re [2, 0, 1]) hw t n (.slice A h.length a) (.slice D b.length d) h b (fun W SW => ((HOX.out.1.mono hG).sat (Sat.drop (Sat.drop SW)))) (fun W SW => ((HOX.out.2.mono hG).sat (Sat.drop (Sat.drop SW)))) (by omega) (by omega)
  have HU := Lib.hid hu
  clear S3 S2 HSZ E1 E6 E7 hu
  rcases hr2 with ⟨hr0, hr1⟩ | ⟨hr0, hr1⟩
  · rw [hr1] at hput
    rw [hr0]
    clear hr0 hr1
    go_wp2_with fail
    (with_reducible refine hput.mono ?_)
    clear hput o1 o3 o4 o5
    rintro e w3 ⟨G3, hG3, rfl, S4⟩
    go_wp2_with fail
    exact hK.out _ _ ⟨u, G3, hG.trans hG3, rfl, HU.out.mono hG3, S4.drop2.drop2⟩
  · rw [hr1] at hput
    rw [hr0]
    clear hr0 hr1
    go_wp2_with fail
    (with_reducible refine hput.mono ?_)
    clear hput o1 o3 o4 o5
    rintro e w3 ⟨G3, hG3, rfl, S4⟩
    go_wp2_with fail
    exact hK.out _ _ ⟨u, G3, hG.trans hG3, rfl, HU.out.mono hG3, S4.drop2.drop2⟩
set_option maxHeartbeats 8000000 in
set_option maxRecDepth 100000 in
theorem one_drop (H : Sat G w (quA q Q B I :: l)) (hw : QWf Q B I) (ht : t < Q.length) (hv : RL (cellR G.ro) v (Q.getD t [])) (ho : o.ok G.ro) (hot : o.t = t) (hk : o.k = 5) :
    Calls Try.prog 20 #[.pointer (some ⟨q, 0, none⟩), v, .agg #[.int .i64 T, .int .i64 B, .int .i64 I, .slice X xn xc], .agg o.cells.toArray] w fun e w' => ∃ u G', G.le G' ∧ e = .returned (.tuple #[u, .bool true]) ∧ RL (cellR G'.ro) u (dropL o.n (Q.getD t [])) ∧ Sat G' w' (quA q (Q.set t (dropL o.n (Q.getD t []))) B I :: l) := by
  refine calls_any fun K hK => ?_
  obtain ⟨ok, ot, on, ⟨n, hv1, bv1, h, b⟩⟩ := o
  obtain ⟨hox, hoh, hob, ⟨hot0, hot1⟩, ⟨hon0, hon1⟩⟩ := ho
  obtain ⟨A, a, D, d, e1, e2⟩ := qe_slices hox
  simp only at e1 e2 hoh hob hot hot0 hot1 hon0 hon1
  subst e1
  subst e2
  subst hot
  simp only [OpD.cells, Qe.enc, Qe.abs] at *
  have hat := hw.at_ t
  have hb1 := hw.b1
  have hi1 := hw.i1
  have hL5 : (Q.getD t []).length ≤ 5000 := by omega
  have hz5 : qsz (Q.getD t []) ≤ 281474976710656 := by omega
  have S1 := (H.newBlk #[.int .i64 T, .int .i64 B, .int .i64 I, .slice X xn xc] 41).newBlk #[.int .i64 ok, .int .i64 t, .int .i64 on, .int .i64 n, .slice A h.length a, .slice D b.length d] 46
  simp only [World.size_alloc] at S1
  have HV := Lib.hid hv
  have HOX := Lib.hid hox
  obtain ⟨va, vc, rfl, -, -, -, -⟩ := id hv
  clear H hv hox
  subst hk
  obtain ⟨L, hL⟩ : ∃ L, Q.getD t [] = L := ⟨_, rfl⟩
  simp only [hL] at hK HV hL5 hz5 hat ⊢
  have HL := Lib.hid hL
  clear hL
  go_enter Try.func20, Try.ntmps20
  go_upto_region 7 with fail
  generalize w.heap.size + 1 = p2 at *
  generalize w.heap.size = p1 at *
  refine wp_world S1 fun w1 S2 => ?_
  clear S1
  have o0 := S2.cell 0
  have o1 := S2.cell 1
  have o2 := S2.cell 2
  have o3 := S2.cell 3
  have o4 := S2.cell 4
  have o5 := S2.cell 5
  have hrd := ref_drop S2 HV.out on hL5
  have HT := Lib.hid ht
  clear S2 ht
  go_wp2_with fail
  (with_reducible refine hrd.mono ?_)
  clear hrd o0 o1 o2 o3 o4 o5
  rintro e w2 ⟨u, G1, hG1, rfl, hu, S3⟩
  obtain ⟨ua, uc, rfl, -, -, -, -⟩ := id hu
  have o1 := S3.cell 1
  have o2 := S3.cell 2
  have hqd := qu_drop (S3.re [2, 0, 1]) hw t HT.out on
  simp only [HL.out] at hqd
  have HU := Lib.hid hu
  have hlt : decide (((dropL on L).length : Int) < (L.length : Int)) = decide ((dropL on L).length < L.length) := by
    by_cases hc : (dropL on L).length < L.length
    · rw [decide_eq_true hc, decide_eq_true (by omega)]
    · rw [decide_eq_false hc, decide_eq_false (by omega)]
  clear S3 hu
  generalize hdq : dropL on L = DL at *
  clear hdq
  cases hc : decide (DL.length < L.length) with
  | true =>
    rw [hc] at hqd hlt
    have hlt2 := of_decide_eq_true hc
    clear hc
    go_wp2_with fail
    (with_reducible refine hqd.mono ?_)
    clear hqd o1 o2
    rintro e w3 ⟨rfl, S4⟩
    go_wp2_with fail
    exact hK.out _ _ ⟨_, G1, hG1, rfl, HU.out, S4.drop2.drop2⟩
  | false =>
    rw [hc] at hqd hlt
    have hlt2 := of_decide_eq_false hc
    clear hc
    go_wp2_with fail
    (with_reducible refine hqd.mono ?_)
    clear hqd o1 o2
    rintro e w3 ⟨rfl, S4⟩
    go_wp2_with fail
    exact hK.out _ _ ⟨_, G1, hG1, rfl, HU.out, S4.drop2.drop2⟩
set_option maxHeartbeats 8000000 in
set_option maxRecDepth 100000 in
theorem one_empty (H : Sat G w (quA q Q B I :: l)) (hw : QWf Q B I) (ht : t < Q.length) (hl : Q.getD t [] = []) (hv : RL (cellR G.ro) v ([])) (ho : o.ok G.ro) (hot : o.t = t)  (hk1 : (o.k == 1) = false) (hk5 : (o.k == 5) = false):
    Calls Try.prog 20 #[.pointer (some ⟨q, 0, none⟩), v, .agg #[.int .i64 T, .int .i64 B, .int .i64 I, .slice X xn xc], .agg o.cells.toArray] w fun e w' => ∃ u G', G.le G' ∧ e = .returned (.tuple #[u, .bool true]) ∧ RL (cellR G'.ro) u ([]) ∧ Sat G' w' (quA q (Q) B I :: l) := by
  refine calls_any fun K hK => ?_
  obtain ⟨ok, ot, on, ⟨n, hv1, bv1, h, b⟩⟩ := o
  obtain ⟨hox, hoh, hob, ⟨hot0, hot1⟩, ⟨hon0, hon1⟩⟩ := ho
  obtain ⟨A, a, D, d, e1, e2⟩ := qe_slices hox
  simp only at e1 e2 hoh hob hot hot0 hot1 hon0 hon1 hk1 hk5
  subst e1
  subst e2
  subst hot
  simp only [OpD.cells, Qe.enc, Qe.abs] at *
  have hb1 := hw.b1
  have hi1 := hw.i1
  have hL5 : (Q.getD t []).length ≤ 5000 := by have := hw.at_ t; omega
  rw [hl] at hL5
  have S1 := (H.newBlk #[.int .i64 T, .int .i64 B, .int .i64 I, .slice X xn xc] 41).newBlk #[.int .i64 ok, .int .i64 t, .int .i64 on, .int .i64 n, .slice A h.length a, .slice D b.length d] 46
  simp only [World.size_alloc] at S1
  have HV := Lib.hid hv
  have HOX := Lib.hid hox
  have HL := Lib.hid hl
  have HT := Lib.hid ht
  obtain ⟨va, vc, ev, hv1, hv2, hv3, hv4⟩ := id hv
  have e0 : ([] : List It).length = 0 := rfl
  rw [e0] at ev
  clear hv1 hv2 hv3 hv4 e0
  subst ev
  clear H hv hox hl ht
  have hq : qAt Q t = [] := by rw [qAt_nat]; exact HL.out
  go_enter Try.func20, Try.ntmps20
  go_upto_region 10 with fail
  generalize w.heap.size + 1 = p2 at *
  generalize w.heap.size = p1 at *
  refine wp_world S1 fun w1 S2 => ?_
  clear S1
  have o1 := S2.cell 1
  have hf := qu_first_not (S2.re [2, 0, 1]) hw t hq
  clear S2
  go_wp2_with fail
  (with_reducible refine hf.mono ?_)
  clear hf o1
  rintro e w2 ⟨rfl, S3⟩
  have S4 := S3.newBlk #[.int .i64 0, .slice none 0 0, .slice none 0 0] 24
  clear S3
  go_upto_region 11 with fail
  generalize w2.heap.size = z at *
  refine wp_world S4 fun w3 S5 => ?_
  clear S4
  have o1 := (S5.re [2, 0, 1]).cell 1
  have hcn := qu_cut_none (S5.re [1, 0]) hw t 0 hq
  have hpn := qu_pop_not (S5.re [1, 0]) hw t hq
  clear S5
  go_wp2_with fail
  (with_reducible refine hcn.mono ?_)
  clear hcn
  rintro e w4 ⟨rfl, rfl⟩
  go_wp2_with fail
  (with_reducible refine hpn.mono ?_)
  clear hpn o1
  rintro e w5 ⟨rfl, S6⟩
  have S7 := S6.newBlk #[.int .i64 0, .slice none 0 0, .slice none 0 0] 24
  clear S6
  go_upto_region 13 with fail
  generalize w5.heap.size = z2 at *
  refine wp_world S7 fun w6 S8 => ?_
  clear S7
  refine wp_act fun a0 ha0 => ?_
  have HSZ : a0.tmps.size = 243 := by rw [ha0]; rfl
  have E1 : a0.eval (.tmp 1) = .slice va 0 vc := by rw [ha0]; rfl
  have E14 : a0.eval (.tmp 14) = .pointer (some ⟨z, 0, none⟩) := by rw [ha0]; rfl
  have E15 : a0.eval (.tmp 15) = .int .i64 14 := by rw [ha0]; rfl
  have E17 : a0.eval (.tmp 17) = .int .i64 14 := by rw [ha0]; rfl
  have E19 : a0.eval (.tmp 19) = .int .i64 14 := by rw [ha0]; rfl
  refine wp_region_sat (by kernel_rfl) 19 (by kernel_rfl) [[], [], [1], [2], [3], [4, 3], [3, 5], [6, 3], [7], [8, 7], [7, 9], [10, 7], [11], [12, 11, 11], [11], [13, 14, 11], [11, 15], [0, 13, 0], [16, 17, 0, 1, 2, 3, 4, 5, 6, 7, 8, 9, 10, 11, 12, 13, 14, 15, 16, 17]] (by kernel_rfl) (by kernel_rfl) [(0, 107, .slice va 0 vc), (1, 108, .int .i64 14), (2, 109, .bool true), (3, 110, .bool true), (4, 111, .int .i64 14), (5, 112, .bool true), (6, 113, .bool true), (7, 114, .bool true), (8, 115, .int .i64 14), (9, 116, .bool true), (10, 117, .bool true), (11, 118, .bool true), (12, 119, .agg #[.int .i64 0, .slice none 0 0, .slice none 0 0]), (13, 120, .agg #[.int .i64 0, .string ByteArray.empty, .string ByteArray.empty]), (14, 121, .agg #[.int .i64 0, .string ByteArray.empty, .string ByteArray.empty]), (15, 122, .bool true), (16, 123, .bool true), (17, 8, .slice va 0 vc), (18, 9, .bool true)] (fun _ => blk z2 #[.int .i64 0, .slice none 0 0, .slice none 0 0] 24 :: quA q Q B I :: blk z #[.int .i64 0, .slice none 0 0, .slice none 0 0] 24 :: blk p2 #[.int .i64 ok, .int .i64 t, .int .i64 on, .int .i64 n, .slice A h.length a, .slice D b.length d] 46 :: blk p1 #[.int .i64 T, .int .i64 B, .int .i64 I, .slice X xn xc] 41 :: l) (by kernel_rfl) S8 ?_ ?_
  · refine ⟨?_, ?_, ?_, ?_, ?_, ?_, ?_, ?_, ?_, ?_, ?_, ?_, ?_, ?_, ?_, ?_, ?_, ?_, ?_, trivial⟩
    · intro f W h0 hd S
      refine wpOp_run (v := .slice va 0 vc) rfl rfl (fun ρ hρ => ?_) ⟨(acts_some 0 rfl (by kernel_rfl) (by kernel_rfl)).symm, S⟩
      have e0 : ρ (.tmp 1) = .slice va 0 vc := by rw [hρ]; exact (acts_eval_tmp 1 (by kernel_rfl)).trans E1
      clear hρ
      go_simp
    · intro f W h1 hd S
      refine wpOp_run (v := .int .i64 14) rfl rfl (fun ρ hρ => ?_) ⟨(acts_some 1 rfl (by kernel_rfl) (by kernel_rfl)).symm, S⟩
      have e0 : ρ (.tmp 15) = .int .i64 14 := by rw [hρ]; exact (acts_eval_tmp 15 (by kernel_rfl)).trans E15
      clear hρ
      go_simp
    · intro f W h2 hd S
      refine wpOp_run (v := .bool true) rfl rfl (fun ρ hρ => ?_) ⟨(acts_some 2 rfl (by kernel_rfl) (by kernel_rfl)).symm, S⟩
      have e0 : ρ (.tmp 108) = .int .i64 14 := by rw [hρ]; exact acts_eval_hit 1 rfl hd.1 (by rw [HSZ]; rfl) (by kernel_rfl)
      have ec : ∀ v, ρ (.const v) = v := by rw [hρ]; exact fun _ => rfl
      clear hρ
      go_simp
    · intro f W h3 hd S
      refine wpOp_run (v := .bool true) rfl rfl (fun ρ hρ => ?_) ⟨(acts_some 3 rfl (by kernel_rfl) (by kernel_rfl)).symm, S⟩
      have e0 : ρ (.tmp 109) = .bool true := by rw [hρ]; exact acts_eval_hit 2 rfl hd.1 (by rw [HSZ]; rfl) (by kernel_rfl)
      clear hρ
      go_simp
    · intro f W h4 hd S
      refine wpOp_runG (v := .int .i64 14) rfl ?_ (fun ρ hρ => ?_) ⟨(acts_some 4 rfl (by kernel_rfl) (by kernel_rfl)).symm, S⟩
      · exact wanted_hit (t := 110) rfl rfl (acts_eval_hit 3 rfl hd.1 (by rw [HSZ]; rfl) (by kernel_rfl))
      · skip
        have e0 : ρ (.tmp 17) = .int .i64 14 := by rw [hρ]; exact (acts_eval_tmp 17 (by kernel_rfl)).trans E17
        clear hρ
        go_simp
    · intro f W h5 hd S
      refine wpOp_runG (v := .bool true) rfl ?_ (fun ρ hρ => ?_) ⟨(acts_some 5 rfl (by kernel_rfl) (by kernel_rfl)).symm, S⟩
      · exact wanted_hit (t := 110) rfl rfl (acts_eval_hit 3 rfl hd.2.1 (by rw [HSZ]; rfl) (by kernel_rfl))
      · skip
        have e0 : ρ (.tmp 111) = .int .i64 14 := by rw [hρ]; exact acts_eval_hit 4 rfl hd.1 (by rw [HSZ]; rfl) (by kernel_rfl)
        have ec : ∀ v, ρ (.const v) = v := by rw [hρ]; exact fun _ => rfl
        clear hρ
        go_simp
    · intro f W h6 hd S
      refine wpOp_run (v := .bool true) rfl rfl (fun ρ hρ => ?_) ⟨(acts_some 6 rfl (by kernel_rfl) (by kernel_rfl)).symm, S⟩
      have e0 : ρ (.tmp 110) = .bool true := by rw [hρ]; exact acts_eval_hit 3 rfl hd.1 (by rw [HSZ]; rfl) (by kernel_rfl)
      have e1 : ρ (.tmp 112) = .bool true := by rw [hρ]; exact acts_eval_hit 5 rfl hd.2.1 (by rw [HSZ]; rfl) (by kernel_rfl)
      have ec : ∀ v, ρ (.const v) = v := by rw [hρ]; exact fun _ => rfl
      clear hρ
      go_simp
    · intro f W h7 hd S
      refine wpOp_run (v := .bool true) rfl rfl (fun ρ hρ => ?_) ⟨(acts_some 7 rfl (by kernel_rfl) (by kernel_rfl)).symm, S⟩
      have e0 : ρ (.tmp 113) = .bool true := by rw [hρ]; exact acts_eval_hit 6 rfl hd.1 (by rw [HSZ]; rfl) (by kernel_rfl)
      clear hρ
      go_simp
    · intro f W h8 hd S
      refine wpOp_runG (v := .int .i64 14) rfl ?_ (fun ρ hρ => ?_) ⟨(acts_some 8 rfl (by kernel_rfl) (by kernel_rfl)).symm, S⟩
      · exact wanted_hit (t := 114) rfl rfl (acts_eval_hit 7 rfl hd.1 (by rw [HSZ]; rfl) (by kernel_rfl))
      · skip
        have e0 : ρ (.tmp 19) = .int .i64 14 := by rw [hρ]; exact (acts_eval_tmp 19 (by kernel_rfl)).trans E19
        clear hρ
        go_simp
    · intro f W h9 hd S
      refine wpOp_runG (v := .bool true) rfl ?_ (fun ρ hρ => ?_) ⟨(acts_some 9 rfl (by kernel_rfl) (by kernel_rfl)).symm, S⟩
      · exact wanted_hit (t := 114) rfl rfl (acts_eval_hit 7 rfl hd.2.1 (by rw [HSZ]; rfl) (by kernel_rfl))
      · skip
        have e0 : ρ (.tmp 115) = .int .i64 14 := by rw [hρ]; exact acts_eval_hit 8 rfl hd.1 (by rw [HSZ]; rfl) (by kernel_rfl)
        have ec : ∀ v, ρ (.const v) = v := by rw [hρ]; exact fun _ => rfl
        clear hρ
        go_simp
    · intro f W h10 hd S
      refine wpOp_run (v := .bool true) rfl rfl (fun ρ hρ => ?_) ⟨(acts_some 10 rfl (by kernel_rfl) (by kernel_rfl)).symm, S⟩
      have e0 : ρ (.tmp 114) = .bool true := by rw [hρ]; exact acts_eval_hit 7 rfl hd.1 (by rw [HSZ]; rfl) (by kernel_rfl)
      have e1 : ρ (.tmp 116) = .bool true := by rw [hρ]; exact acts_eval_hit 9 rfl hd.2.1 (by rw [HSZ]; rfl) (by kernel_rfl)
      have ec : ∀ v, ρ (.const v) = v := by rw [hρ]; exact fun _ => rfl
      clear hρ
      go_simp
    · intro f W h11 hd S
      refine wpOp_run (v := .bool true) rfl rfl (fun ρ hρ => ?_) ⟨(acts_some 11 rfl (by kernel_rfl) (by kernel_rfl)).symm, S⟩
      have e0 : ρ (.tmp 117) = .bool true := by rw [hρ]; exact acts_eval_hit 10 rfl hd.1 (by rw [HSZ]; rfl) (by kernel_rfl)
      clear hρ
      go_simp
    · intro f W h12 hd S
      refine wpOp_runG (v := .agg #[.int .i64 0, .slice none 0 0, .slice none 0 0]) rfl ?_ (fun ρ hρ => ?_) ⟨(acts_some 12 rfl (by kernel_rfl) (by kernel_rfl)).symm, S⟩
      · exact wanted_hit (t := 118) rfl rfl (acts_eval_hit 11 rfl hd.1 (by rw [HSZ]; rfl) (by kernel_rfl))
      · skip
        have e0 : ρ (.tmp 14) = .pointer (some ⟨z, 0, none⟩) := by rw [hρ]; exact (acts_eval_tmp 14 (by kernel_rfl)).trans E14
        clear hρ
        (have hz0 := S.pull2.cell 0; have hz1 := S.pull2.cell 1; have hz2 := S.pull2.cell 2)
        go_simp
    · intro f W h13 hd S
      refine wpOp_callG rfl (wanted_hit (t := 118) rfl rfl (acts_eval_hit 11 rfl hd.2.1 (by rw [HSZ]; rfl) (by kernel_rfl))) (fun ρ hρ => ?_) (law_ref S 0 (.slice none 0 0) (.slice none 0 0) [] [] nil_hyp nil_hyp) ?_
      · skip
        have e0 : ρ (.tmp 119) = .agg #[.int .i64 0, .slice none 0 0, .slice none 0 0] := by rw [hρ]; exact acts_eval_hit 12 rfl hd.1 (by rw [HSZ]; rfl) (by kernel_rfl)
        have ef : ρ (.func 9) = .func (.func 9) #[] #[] := by rw [hρ]; rfl
        clear hρ
        go_simp
      · (rintro x W' ⟨rfl, S'⟩; exact ⟨_, rfl, (acts_some 13 rfl (by kernel_rfl) (by kernel_rfl)).symm, S'⟩)
    · intro f W h14 hd S
      refine wpOp_runG (v := .agg #[.int .i64 0, .string ByteArray.empty, .string ByteArray.empty]) rfl ?_ (fun ρ hρ => ?_) ⟨(acts_some 14 rfl (by kernel_rfl) (by kernel_rfl)).symm, S⟩
      · exact wanted_hit (t := 118) rfl rfl (acts_eval_hit 11 rfl hd.1 (by rw [HSZ]; rfl) (by kernel_rfl))
      · skip
        clear hρ
        skip
        go_simp
        exact rfl
    · intro f W h15 hd S
      refine wpOp_runG (v := .bool true) rfl ?_ (fun ρ hρ => ?_) ⟨(acts_some 15 rfl (by kernel_rfl) (by kernel_rfl)).symm, S⟩
      · exact wanted_hit (t := 118) rfl rfl (acts_eval_hit 11 rfl hd.2.2.1 (by rw [HSZ]; rfl) (by kernel_rfl))
      · skip
        have e0 : ρ (.tmp 120) = .agg #[.int .i64 0, .string ByteArray.empty, .string ByteArray.empty] := by rw [hρ]; exact acts_eval_hit 13 rfl hd.1 (by rw [HSZ]; rfl) (by kernel_rfl)
        have e1 : ρ (.tmp 121) = .agg #[.int .i64 0, .string ByteArray.empty, .string ByteArray.empty] := by rw [hρ]; exact acts_eval_hit 14 rfl hd.2.1 (by rw [HSZ]; rfl) (by kernel_rfl)
        clear hρ
        go_simp
    · intro f W h16 hd S
      refine wpOp_run (v := .bool true) rfl rfl (fun ρ hρ => ?_) ⟨(acts_some 16 rfl (by kernel_rfl) (by kernel_rfl)).symm, S⟩
      have e0 : ρ (.tmp 118) = .bool true := by rw [hρ]; exact acts_eval_hit 11 rfl hd.1 (by rw [HSZ]; rfl) (by kernel_rfl)
      have e1 : ρ (.tmp 122) = .bool true := by rw [hρ]; exact acts_eval_hit 15 rfl hd.2.1 (by rw [HSZ]; rfl) (by kernel_rfl)
      have ec : ∀ v, ρ (.const v) = v := by rw [hρ]; exact fun _ => rfl
      clear hρ
      go_simp
    · intro f W h17 hd S
      refine wpOp_run (v := .slice va 0 vc) rfl rfl (fun ρ hρ => ?_) ⟨(acts_some 17 rfl (by kernel_rfl) (by kernel_rfl)).symm, S⟩
      have e0 : ρ (.tmp 107) = .slice va 0 vc := by rw [hρ]; exact acts_eval_hit 0 rfl hd.1 (by rw [HSZ]; rfl) (by kernel_rfl)
      clear hρ
      go_simp
    · intro f W h18 hd S
      refine wpOp_run (v := .bool true) rfl rfl (fun ρ hρ => ?_) ⟨(acts_some 18 rfl (by kernel_rfl) (by kernel_rfl)).symm, S⟩
      have e0 : ρ (.tmp 123) = .bool true := by rw [hρ]; exact acts_eval_hit 16 rfl hd.1 (by rw [HSZ]; rfl) (by kernel_rfl)
      clear hρ
      go_simp
  intro W S9
  subst ha0
  simp only [acts, if_true, Act.put, List.setIfInBounds_toArray, List.set_cons_succ, List.set_cons_zero]
  have HS := Lib.hid (S9.drop.drop2.drop2.drop2)
  clear S9 S8 HSZ E1 E14 E15 E17 E19
  go_wp2_with fail
  exact hK.out _ _ ⟨_, G, Gnd.le.rfl', rfl, HV.out, HS.out⟩
set_option maxHeartbeats 8000000 in
set_option maxRecDepth 100000 in
theorem one_first {x : It} {L : List It} (H : Sat G w (quA q Q B I :: l)) (hw : QWf Q B I) (ht : t < Q.length) (hl : Q.getD t [] = x :: L) (hv : RL (cellR G.ro) v (x :: L)) (ho : o.ok G.ro) (hot : o.t = t)  (hk1 : (o.k == 1) = false) (hk5 : (o.k == 5) = false) (hk2 : (o.k == 2) = true):
    Calls Try.prog 20 #[.pointer (some ⟨q, 0, none⟩), v, .agg #[.int .i64 T, .int .i64 B, .int .i64 I, .slice X xn xc], .agg o.cells.toArray] w fun e w' => ∃ u G', G.le G' ∧ e = .returned (.tuple #[u, .bool true]) ∧ RL (cellR G'.ro) u (x :: L) ∧ Sat G' w' (quA q (Q) B I :: l) := by
  refine calls_any fun K hK => ?_
  obtain ⟨ok, ot, on, ⟨n, hv1, bv1, h, b⟩⟩ := o
  obtain ⟨hox, hoh, hob, ⟨hot0, hot1⟩, ⟨hon0, hon1⟩⟩ := ho
  obtain ⟨A, a, D, d, e1, e2⟩ := qe_slices hox
  simp only at e1 e2 hoh hob hot hot0 hot1 hon0 hon1 hk1 hk5 hk2
  subst e1
  subst e2
  subst hot
  simp only [OpD.cells, Qe.enc, Qe.abs] at *
  have hb1 := hw.b1
  have hi1 := hw.i1
  have hL5 : (Q.getD t []).length ≤ 5000 := by have := hw.at_ t; omega
  rw [hl] at hL5
  have S1 := (H.newBlk #[.int .i64 T, .int .i64 B, .int .i64 I, .slice X xn xc] 41).newBlk #[.int .i64 ok, .int .i64 t, .int .i64 on, .int .i64 n, .slice A h.length a, .slice D b.length d] 46
  simp only [World.size_alloc] at S1
  have HV := Lib.hid hv
  have HOX := Lib.hid hox
  have HL := Lib.hid hl
  have HT := Lib.hid ht
  obtain ⟨va, vc, ev, hv1, hv2, hv3, hv4⟩ := id hv
  obtain ⟨xn', xh, xb⟩ := x
  obtain ⟨cg, co, rfl, hv5⟩ := hv4 0 _ rfl
  have hz0 : qsz (Q.getD t []) ≤ 281474976710656 := by have := hw.at_ t; omega
  rw [hl, qsz_cons] at hz0
  simp only [isz] at hz0
  obtain ⟨m, hm⟩ : ∃ m, m = ((xn', xh, xb) :: L).length := ⟨_, rfl⟩
  rw [← hm] at ev hv1 hL5
  have hm0 : 0 < m := by rw [hm]; simp
  have hm1 : ((m : Int) == 0) = false := beq_eq_false_iff_ne.2 (by omega)
  have hvc1 : ¬vc = 1 ∨ m = 1 := by omega
  have HM := Lib.hid hm
  have HC0 := Lib.hid (hv5 0 _ rfl)
  have HC1 := Lib.hid (hv5 1 _ rfl)
  have HC2 := Lib.hid (hv5 2 _ rfl)
  simp only [Nat.zero_mul, Nat.add_zero] at HC0 HC1 HC2
  clear hv2 hv3 hv4 hv5 hm
  subst ev
  clear H hv hox hl ht
  go_enter Try.func20, Try.ntmps20
  go_upto_region 16 with fail
  generalize w.heap.size + 1 = p2 at *
  generalize w.heap.size = p1 at *
  refine wp_world S1 fun w1 S2 => ?_
  clear S1
  have o1 := S2.cell 1
  have hf := qu_first (S2.re [2, 0, 1]) hw t _ L HL.out
  clear S2
  go_wp2_with fail
  (with_reducible refine hf.mono ?_)
  clear hf o1
  rintro e w2 ⟨u1, u2, rfl, S3⟩
  obtain ⟨U1, c1, rfl, -, -, -⟩ := S3.ownForm
  obtain ⟨U2, c2, rfl, -, -, -⟩ := S3.swap.ownForm
  have S4 := S3.newBlk #[.int .i64 xn', .slice U1 xh.length c1, .slice U2 xb.length c2] 24
  clear S3
  go_upto_region 17 with fail
  generalize w2.heap.size = z at *
  refine wp_world S4 fun w3 S5 => ?_
  have S6 : Sat G w3 (anyB (.slice U2 xb.length c2) xb.length :: blk z #[.int .i64 xn', .slice U1 xh.length c1, .slice U2 xb.length c2] 24 :: ownS 5 1 (.slice U1 xh.length c1) xh.length (xh.map byteV) :: quA q Q B I :: blk p2 #[.int .i64 ok, .int .i64 t, .int .i64 on, .int .i64 n, .slice A h.length a, .slice D b.length d] 46 :: blk p1 #[.int .i64 T, .int .i64 B, .int .i64 I, .slice X xn xc] 41 :: l) := any_of (S5.re [2, 0, 1])
  clear S4 S5
  have y1 := S6.swap.cell 2
  go_wp2_with fail
  go_loopw [138] (fun i wr => ∃ k : Nat, k ≤ xb.length ∧ i = .int .i64 k ∧ Sat G wr (anyB (.slice U2 xb.length c2) xb.length :: blk z #[.int .i64 xn', .slice U1 xh.length c1, .slice U2 xb.length c2] 24 :: ownS 5 1 (.slice U1 xh.length c1) xh.length (xh.map byteV) :: quA q Q B I :: blk p2 #[.int .i64 ok, .int .i64 t, .int .i64 on, .int .i64 n, .slice A h.length a, .slice D b.length d] 46 :: blk p1 #[.int .i64 T, .int .i64 B, .int .i64 I, .slice X xn xc] 41 :: l)) (fun i _ => xb.length - (intOf i).toNat)
  case atStart => exact ⟨0, Nat.zero_le _, rfl, S6⟩
  case round =>
    obtain ⟨k, hk, rfl, S⟩ := hrel
    clear S6 y1
    by_cases hlt : k < xb.length
    · obtain ⟨g, cap, c, e0, hg1, hg2, hg3, hg4, hg5⟩ := any_cell S k hlt
      cases e0
      have hg6 := Nat.le_trans hg2 (show maxLen ≤ 9223372036854775807 by decide)
      have hc0 : wr.cell? ⟨g, k, none⟩ = some (.int .u8 c.toNat) := hg3
      have y1 := S.swap.cell 2
      have S2 := hg5 (c + 1)
      rw [← byte_up] at S2
      have HS2 := Lib.hid S2
      clear hg2 hg3 hg5 S S2
      go_wp2_with fail
      go_roundw
      case rel => exact ⟨k + 1, by omega, by go_num, HS2.out⟩
      case measure => simp [intOf]; omega
    · obtain rfl : k = xb.length := by omega
      have o1 := (S.re [4, 0, 1, 2, 3]).cell 1
      have hf := qu_first (S.re [3, 0, 1, 2]) hw t _ L HL.out
      clear S
      go_wp2_with fail
      (with_reducible refine hf.mono ?_)
      clear hf o1
      rintro e w4 ⟨u3, u4, rfl, S3⟩
      obtain ⟨U3, c3, rfl, -, -, -⟩ := S3.ownForm
      obtain ⟨U4, c4, rfl, -, -, -⟩ := S3.swap.ownForm
      have S4 := S3.newBlk #[.int .i64 xn', .slice U3 xh.length c3, .slice U4 xb.length c4] 24
      clear S3
      go_upto_region 23 with fail
      generalize w4.heap.size = zz at *
      refine wp_world (S4.re [1, 2, 0]) fun w5 S5 => ?_
      clear S4
      refine wp_act fun a0 ha0 => ?_
      have HSZ : a0.tmps.size = 243 := by rw [ha0]; rfl
      have E1 : a0.eval (.tmp 1) = .slice (some ⟨cg, co, none⟩) m vc := by rw [ha0]; rfl
      have E21 : a0.eval (.tmp 21) = .int .i64 0 := by rw [ha0]; rfl
      have E23 : a0.eval (.tmp 23) = .pointer (some ⟨zz, 0, none⟩) := by rw [ha0]; rfl
      have E24 : a0.eval (.tmp 24) = .int .i64 0 := by rw [ha0]; rfl
      refine wp_region_sat (by kernel_rfl) 17 (by kernel_rfl) [[], [], [1], [2], [3], [4, 3], [3, 5], [6, 3], [7], [8, 7, 7], [7], [10, 7], [11, 7], [9, 12, 7], [7, 13], [0, 9, 0], [14, 15, 0, 1, 2, 3, 4, 5, 6, 7, 8, 9, 10, 11, 12, 13, 14, 15]] (by kernel_rfl) (by kernel_rfl) [(0, 156, .slice (some ⟨cg, co, none⟩) m vc), (1, 157, .int .i64 0), (2, 158, .bool true), (3, 159, .bool true), (4, 160, .int .i64 0), (5, 161, .bool true), (6, 162, .bool true), (7, 163, .bool true), (8, 164, .agg #[.int .i64 xn', .slice U3 xh.length c3, .slice U4 xb.length c4]), (9, 165, .agg #[.int .i64 xn', .string (bstr xh), .string (bstr xb)]), (10, 166, .slice (some ⟨cg, co, none⟩) m vc), (11, 167, .pointer (some ⟨cg, co, none⟩)), (12, 168, .agg #[.int .i64 xn', .string (bstr xh), .string (bstr xb)]), (13, 169, .bool true), (14, 170, .bool true), (15, 8, .slice (some ⟨cg, co, none⟩) m vc), (16, 9, .bool true)] (fun _ => ownS 5 1 (.slice U3 xh.length c3) xh.length (xh.map byteV) :: ownS 5 1 (.slice U4 xb.length c4) xb.length (xb.map byteV) :: blk zz #[.int .i64 xn', .slice U3 xh.length c3, .slice U4 xb.length c4] 24 :: quA q Q B I :: anyB (.slice U2 xb.length c2) xb.length :: blk z #[.int .i64 xn', .slice U1 xh.length c1, .slice U2 xb.length c2] 24 :: ownS 5 1 (.slice U1 xh.length c1) xh.length (xh.map byteV) :: blk p2 #[.int .i64 ok, .int .i64 t, .int .i64 on, .int .i64 n, .slice A h.length a, .slice D b.length d] 46 :: blk p1 #[.int .i64 T, .int .i64 B, .int .i64 I, .slice X xn xc] 41 :: l) (by kernel_rfl) S5 ?_ ?_
      · refine ⟨?_, ?_, ?_, ?_, ?_, ?_, ?_, ?_, ?_, ?_, ?_, ?_, ?_, ?_, ?_, ?_, ?_, trivial⟩
        · intro f W h0 hd S
          refine wpOp_run (v := .slice (some ⟨cg, co, none⟩) m vc) rfl rfl (fun ρ hρ => ?_) ⟨(acts_some 0 rfl (by kernel_rfl) (by kernel_rfl)).symm, S⟩
          have e0 : ρ (.tmp 1) = .slice (some ⟨cg, co, none⟩) m vc := by rw [hρ]; exact (acts_eval_tmp 1 (by kernel_rfl)).trans E1
          clear hρ
          go_simp
        · intro f W h1 hd S
          refine wpOp_run (v := .int .i64 0) rfl rfl (fun ρ hρ => ?_) ⟨(acts_some 1 rfl (by kernel_rfl) (by kernel_rfl)).symm, S⟩
          have e0 : ρ (.tmp 21) = .int .i64 0 := by rw [hρ]; exact (acts_eval_tmp 21 (by kernel_rfl)).trans E21
          clear hρ
          go_simp
        · intro f W h2 hd S
          refine wpOp_run (v := .bool true) rfl rfl (fun ρ hρ => ?_) ⟨(acts_some 2 rfl (by kernel_rfl) (by kernel_rfl)).symm, S⟩
          have e0 : ρ (.tmp 157) = .int .i64 0 := by rw [hρ]; exact acts_eval_hit 1 rfl hd.1 (by rw [HSZ]; rfl) (by kernel_rfl)
          have ec : ∀ v, ρ (.const v) = v := by rw [hρ]; exact fun _ => rfl
          clear hρ
          go_simp
        · intro f W h3 hd S
          refine wpOp_run (v := .bool true) rfl rfl (fun ρ hρ => ?_) ⟨(acts_some 3 rfl (by kernel_rfl) (by kernel_rfl)).symm, S⟩
          have e0 : ρ (.tmp 158) = .bool true := by rw [hρ]; exact acts_eval_hit 2 rfl hd.1 (by rw [HSZ]; rfl) (by kernel_rfl)
          clear hρ
          go_simp
        · intro f W h4 hd S
          refine wpOp_runG (v := .int .i64 0) rfl ?_ (fun ρ hρ => ?_) ⟨(acts_some 4 rfl (by kernel_rfl) (by kernel_rfl)).symm, S⟩
          · exact wanted_hit (t := 159) rfl rfl (acts_eval_hit 3 rfl hd.1 (by rw [HSZ]; rfl) (by kernel_rfl))
          · skip
            have e0 : ρ (.tmp 24) = .int .i64 0 := by rw [hρ]; exact (acts_eval_tmp 24 (by kernel_rfl)).trans E24
            clear hρ
            go_simp
        · intro f W h5 hd S
          refine wpOp_runG (v := .bool true) rfl ?_ (fun ρ hρ => ?_) ⟨(acts_some 5 rfl (by kernel_rfl) (by kernel_rfl)).symm, S⟩
          · exact wanted_hit (t := 159) rfl rfl (acts_eval_hit 3 rfl hd.2.1 (by rw [HSZ]; rfl) (by kernel_rfl))
          · skip
            have e0 : ρ (.tmp 160) = .int .i64 0 := by rw [hρ]; exact acts_eval_hit 4 rfl hd.1 (by rw [HSZ]; rfl) (by kernel_rfl)
            have ec : ∀ v, ρ (.const v) = v := by rw [hρ]; exact fun _ => rfl
            clear hρ
            go_simp
        · intro f W h6 hd S
          refine wpOp_run (v := .bool true) rfl rfl (fun ρ hρ => ?_) ⟨(acts_some 6 rfl (by kernel_rfl) (by kernel_rfl)).symm, S⟩
          have e0 : ρ (.tmp 159) = .bool true := by rw [hρ]; exact acts_eval_hit 3 rfl hd.1 (by rw [HSZ]; rfl) (by kernel_rfl)
          have e1 : ρ (.tmp 161) = .bool true := by rw [hρ]; exact acts_eval_hit 5 rfl hd.2.1 (by rw [HSZ]; rfl) (by kernel_rfl)
          have ec : ∀ v, ρ (.const v) = v := by rw [hρ]; exact fun _ => rfl
          clear hρ
          go_simp
        · intro f W h7 hd S
          refine wpOp_run (v := .bool true) rfl rfl (fun ρ hρ => ?_) ⟨(acts_some 7 rfl (by kernel_rfl) (by kernel_rfl)).symm, S⟩
          have e0 : ρ (.tmp 162) = .bool true := by rw [hρ]; exact acts_eval_hit 6 rfl hd.1 (by rw [HSZ]; rfl) (by kernel_rfl)
          clear hρ
          go_simp
        · intro f W h8 hd S
          refine wpOp_runG (v := .agg #[.int .i64 xn', .slice U3 xh.length c3, .slice U4 xb.length c4]) rfl ?_ (fun ρ hρ => ?_) ⟨(acts_some 8 rfl (by kernel_rfl) (by kernel_rfl)).symm, S⟩
          · exact wanted_hit (t := 163) rfl rfl (acts_eval_hit 7 rfl hd.1 (by rw [HSZ]; rfl) (by kernel_rfl))
          · skip
            have e0 : ρ (.tmp 23) = .pointer (some ⟨zz, 0, none⟩) := by rw [hρ]; exact (acts_eval_tmp 23 (by kernel_rfl)).trans E23
            clear hρ
            (have hz0 := S.pull2.cell 0; have hz1 := S.pull2.cell 1; have hz2 := S.pull2.cell 2)
            go_simp
        · intro f W h9 hd S
          refine wpOp_callG rfl (wanted_hit (t := 163) rfl rfl (acts_eval_hit 7 rfl hd.2.1 (by rw [HSZ]; rfl) (by kernel_rfl))) (fun ρ hρ => ?_) (law_ref S xn' (.slice U3 xh.length c3) (.slice U4 xb.length c4) xh xb (own_hyp xh) (own_hyp2 xb)) ?_
          · skip
            have e0 : ρ (.tmp 164) = .agg #[.int .i64 xn', .slice U3 xh.length c3, .slice U4 xb.length c4] := by rw [hρ]; exact acts_eval_hit 8 rfl hd.1 (by rw [HSZ]; rfl) (by kernel_rfl)
            have ef : ρ (.func 9) = .func (.func 9) #[] #[] := by rw [hρ]; rfl
            clear hρ
            go_simp
          · (rintro x W' ⟨rfl, S'⟩; exact ⟨_, rfl, (acts_some 9 rfl (by kernel_rfl) (by kernel_rfl)).symm, S'⟩)
        · intro f W h10 hd S
          refine wpOp_runG (v := .slice (some ⟨cg, co, none⟩) m vc) rfl ?_ (fun ρ hρ => ?_) ⟨(acts_some 10 rfl (by kernel_rfl) (by kernel_rfl)).symm, S⟩
          · exact wanted_hit (t := 163) rfl rfl (acts_eval_hit 7 rfl hd.1 (by rw [HSZ]; rfl) (by kernel_rfl))
          · skip
            have e0 : ρ (.tmp 1) = .slice (some ⟨cg, co, none⟩) m vc := by rw [hρ]; exact (acts_eval_tmp 1 (by kernel_rfl)).trans E1
            clear hρ
            go_simp
        · intro f W h11 hd S
          refine wpOp_runG (v := .pointer (some ⟨cg, co, none⟩)) rfl ?_ (fun ρ hρ => ?_) ⟨(acts_some 11 rfl (by kernel_rfl) (by kernel_rfl)).symm, S⟩
          · exact wanted_hit (t := 163) rfl rfl (acts_eval_hit 7 rfl hd.2.1 (by rw [HSZ]; rfl) (by kernel_rfl))
          · skip
            have e0 : ρ (.tmp 166) = .slice (some ⟨cg, co, none⟩) m vc := by rw [hρ]; exact acts_eval_hit 10 rfl hd.1 (by rw [HSZ]; rfl) (by kernel_rfl)
            have ec : ∀ v, ρ (.const v) = v := by rw [hρ]; exact fun _ => rfl
            clear hρ
            go_simp
        · intro f W h12 hd S
          refine wpOp_runG (v := .agg #[.int .i64 xn', .string (bstr xh), .string (bstr xb)]) rfl ?_ (fun ρ hρ => ?_) ⟨(acts_some 12 rfl (by kernel_rfl) (by kernel_rfl)).symm, S⟩
          · exact wanted_hit (t := 163) rfl rfl (acts_eval_hit 7 rfl hd.2.1 (by rw [HSZ]; rfl) (by kernel_rfl))
          · skip
            have e0 : ρ (.tmp 167) = .pointer (some ⟨cg, co, none⟩) := by rw [hρ]; exact acts_eval_hit 11 rfl hd.1 (by rw [HSZ]; rfl) (by kernel_rfl)
            clear hρ
            (have hz0 := S.cellR HC0.out; have hz1 := S.cellR HC1.out; have hz2 := S.cellR HC2.out)
            go_simp
        · intro f W h13 hd S
          refine wpOp_runG (v := .bool true) rfl ?_ (fun ρ hρ => ?_) ⟨(acts_some 13 rfl (by kernel_rfl) (by kernel_rfl)).symm, S⟩
          · exact wanted_hit (t := 163) rfl rfl (acts_eval_hit 7 rfl hd.2.2.1 (by rw [HSZ]; rfl) (by kernel_rfl))
          · skip
            have e0 : ρ (.tmp 165) = .agg #[.int .i64 xn', .string (bstr xh), .string (bstr xb)] := by rw [hρ]; exact acts_eval_hit 9 rfl hd.1 (by rw [HSZ]; rfl) (by kernel_rfl)
            have e1 : ρ (.tmp 168) = .agg #[.int .i64 xn', .string (bstr xh), .string (bstr xb)] := by rw [hρ]; exact acts_eval_hit 12 rfl hd.2.1 (by rw [HSZ]; rfl) (by kernel_rfl)
            clear hρ
            go_simp
        · intro f W h14 hd S
          refine wpOp_run (v := .bool true) rfl rfl (fun ρ hρ => ?_) ⟨(acts_some 14 rfl (by kernel_rfl) (by kernel_rfl)).symm, S⟩
          have e0 : ρ (.tmp 163) = .bool true := by rw [hρ]; exact acts_eval_hit 7 rfl hd.1 (by rw [HSZ]; rfl) (by kernel_rfl)
          have e1 : ρ (.tmp 169) = .bool true := by rw [hρ]; exact acts_eval_hit 13 rfl hd.2.1 (by rw [HSZ]; rfl) (by kernel_rfl)
          have ec : ∀ v, ρ (.const v) = v := by rw [hρ]; exact fun _ => rfl
          clear hρ
          go_simp
        · intro f W h15 hd S
          refine wpOp_run (v := .slice (some ⟨cg, co, none⟩) m vc) rfl rfl (fun ρ hρ => ?_) ⟨(acts_some 15 rfl (by kernel_rfl) (by kernel_rfl)).symm, S⟩
          have e0 : ρ (.tmp 156) = .slice (some ⟨cg, co, none⟩) m vc := by rw [hρ]; exact acts_eval_hit 0 rfl hd.1 (by rw [HSZ]; rfl) (by kernel_rfl)
          clear hρ
          go_simp
        · intro f W h16 hd S
          refine wpOp_run (v := .bool true) rfl rfl (fun ρ hρ => ?_) ⟨(acts_some 16 rfl (by kernel_rfl) (by kernel_rfl)).symm, S⟩
          have e0 : ρ (.tmp 170) = .bool true := by rw [hρ]; exact acts_eval_hit 14 rfl hd.1 (by rw [HSZ]; rfl) (by kernel_rfl)
          clear hρ
          go_simp
      intro W S9
      subst ha0
      simp only [acts, if_true, Act.put, List.setIfInBounds_toArray, List.set_cons_succ, List.set_cons_zero]
      have HS := Lib.hid (S9.drop.drop.drop.drop2.drop2.drop2.drop2.drop2)
      clear S9 S5 HSZ E1 E21 E23 E24
      go_wp2_with fail
      exact hK.out _ _ ⟨_, G, Gnd.le.rfl', rfl, HV.out, HS.out⟩
set_option maxHeartbeats 8000000 in
set_option maxRecDepth 100000 in
theorem one_cut_not {x : It} {L : List It} (H : Sat G w (quA q Q B I :: l)) (hw : QWf Q B I) (ht : t < Q.length) (hl : Q.getD t [] = x :: L) (hv : RL (cellR G.ro) v (x :: L)) (ho : o.ok G.ro) (hot : o.t = t) (hn : o.n < 0 ∨ (x.2.2.length : Int) < o.n) (hk1 : (o.k == 1) = false) (hk5 : (o.k == 5) = false) (hk2 : (o.k == 2) = false) (hk3 : (o.k == 3) = true):
    Calls Try.prog 20 #[.pointer (some ⟨q, 0, none⟩), v, .agg #[.int .i64 T, .int .i64 B, .int .i64 I, .slice X xn xc], .agg o.cells.toArray] w fun e w' => ∃ u G', G.le G' ∧ e = .returned (.tuple #[u, .bool true]) ∧ RL (cellR G'.ro) u (x :: L) ∧ Sat G' w' (quA q (Q) B I :: l) := by
  refine calls_any fun K hK => ?_
  obtain ⟨ok, ot, on, ⟨n, hv1, bv1, h, b⟩⟩ := o
  obtain ⟨hox, hoh, hob, ⟨hot0, hot1⟩, ⟨hon0, hon1⟩⟩ := ho
  obtain ⟨A, a, D, d, e1, e2⟩ := qe_slices hox
  simp only at e1 e2 hoh hob hot hot0 hot1 hon0 hon1 hk1 hk5 hk2 hk3 hn
  subst e1
  subst e2
  subst hot
  simp only [OpD.cells, Qe.enc, Qe.abs] at *
  have hb1 := hw.b1
  have hi1 := hw.i1
  have hL5 : (Q.getD t []).length ≤ 5000 := by have := hw.at_ t; omega
  rw [hl] at hL5
  have S1 := (H.newBlk #[.int .i64 T, .int .i64 B, .int .i64 I, .slice X xn xc] 41).newBlk #[.int .i64 ok, .int .i64 t, .int .i64 on, .int .i64 n, .slice A h.length a, .slice D b.length d] 46
  simp only [World.size_alloc] at S1
  have HV := Lib.hid hv
  have HOX := Lib.hid hox
  have HL := Lib.hid hl
  have HT := Lib.hid ht
  obtain ⟨va, vc, ev, hv1, hv2, hv3, hv4⟩ := id hv
  obtain ⟨xn', xh, xb⟩ := x
  obtain ⟨cg, co, rfl, hv5⟩ := hv4 0 _ rfl
  have hz0 : qsz (Q.getD t []) ≤ 281474976710656 := by have := hw.at_ t; omega
  rw [hl, qsz_cons] at hz0
  simp only [isz] at hz0
  obtain ⟨m, hm⟩ : ∃ m, m = ((xn', xh, xb) :: L).length := ⟨_, rfl⟩
  rw [← hm] at ev hv1 hL5
  have hm0 : 0 < m := by rw [hm]; simp
  have hm1 : ((m : Int) == 0) = false := beq_eq_false_iff_ne.2 (by omega)
  have hvc1 : ¬vc = 1 ∨ m = 1 := by omega
  have HM := Lib.hid hm
  have HC0 := Lib.hid (hv5 0 _ rfl)
  have HC1 := Lib.hid (hv5 1 _ rfl)
  have HC2 := Lib.hid (hv5 2 _ rfl)
  simp only [Nat.zero_mul, Nat.add_zero] at HC0 HC1 HC2
  clear hv2 hv3 hv4 hv5 hm
  subst ev
  clear H hv hox hl ht
  go_enter Try.func20, Try.ntmps20
  go_upto_region 25 with fail
  generalize w.heap.size + 1 = p2 at *
  generalize w.heap.size = p1 at *
  refine wp_world S1 fun w1 S2 => ?_
  clear S1
  have o0 := S2.cell 0
  have o1 := S2.cell 1
  have o2 := S2.cell 2
  have o3 := S2.cell 3
  have o4 := S2.cell 4
  have o5 := S2.cell 5
  have hf := qu_cut_not (S2.re [2, 0, 1]) hw t on _ L HL.out hn
  have hz2 := S2.cellR HC2.out
  have hbz := bstr_size xb
  have HS := Lib.hid S2
  clear S2
  go_wp2_with fail
  (with_reducible refine hf.mono ?_)
  clear hf
  rintro e w2 ⟨rfl, rfl⟩
  by_cases h0 : on < 0
  · have hd0 : decide (on < 0) = true := decide_eq_true h0
    go_upto_region 26 with fail
    go_quiet (fail)
    go_wp2_with fail
    exact hK.out _ _ ⟨_, G, Gnd.le.rfl', rfl, HV.out, (HS.out.drewQ _).drop.drop⟩
  · have hd0 : decide (on < 0) = false := decide_eq_false h0
    have hd1 : decide (on > (xb.length : Int)) = true := decide_eq_true (by omega)
    go_upto_region 26 with fail
    go_quiet (fail)
    go_wp2_with fail
    exact hK.out _ _ ⟨_, G, Gnd.le.rfl', rfl, HV.out, (HS.out.drewQ _).drop.drop⟩
set_option maxHeartbeats 8000000 in
set_option maxRecDepth 100000 in
theorem one_cut {x : It} {L : List It} (H : Sat G w (quA q Q B I :: l)) (hw : QWf Q B I) (ht : t < Q.length) (hl : Q.getD t [] = x :: L) (hv : RL (cellR G.ro) v (x :: L)) (ho : o.ok G.ro) (hot : o.t = t) (hn : 0 ≤ o.n ∧ o.n ≤ (x.2.2.length : Int)) (hk1 : (o.k == 1) = false) (hk5 : (o.k == 5) = false) (hk2 : (o.k == 2) = false) (hk3 : (o.k == 3) = true):
    Calls Try.prog 20 #[.pointer (some ⟨q, 0, none⟩), v, .agg #[.int .i64 T, .int .i64 B, .int .i64 I, .slice X xn xc], .agg o.cells.toArray] w fun e w' => ∃ u G', G.le G' ∧ e = .returned (.tuple #[u, .bool true]) ∧ RL (cellR G'.ro) u ((x.1, x.2.1, x.2.2.drop o.n.toNat) :: L) ∧ Sat G' w' (quA q (Q.set t ((x.1, x.2.1, x.2.2.drop o.n.toNat) :: L)) B I :: l) := by
  refine calls_any fun K hK => ?_
  obtain ⟨ok, ot, on, ⟨n, hv1, bv1, h, b⟩⟩ := o
  obtain ⟨hox, hoh, hob, ⟨hot0, hot1⟩, ⟨hon0, hon1⟩⟩ := ho
  obtain ⟨A, a, D, d, e1, e2⟩ := qe_slices hox
  simp only at e1 e2 hoh hob hot hot0 hot1 hon0 hon1 hk1 hk5 hk2 hk3 hn
  subst e1
  subst e2
  subst hot
  simp only [OpD.cells, Qe.enc, Qe.abs] at *
  have hb1 := hw.b1
  have hi1 := hw.i1
  have hL5 : (Q.getD t []).length ≤ 5000 := by have := hw.at_ t; omega
  rw [hl] at hL5
  have S1 := (H.newBlk #[.int .i64 T, .int .i64 B, .int .i64 I, .slice X xn xc] 41).newBlk #[.int .i64 ok, .int .i64 t, .int .i64 on, .int .i64 n, .slice A h.length a, .slice D b.length d] 46
  simp only [World.size_alloc] at S1
  have HV := Lib.hid hv
  have HOX := Lib.hid hox
  have HL := Lib.hid hl
  have HT := Lib.hid ht
  obtain ⟨va, vc, ev, hv1, hv2, hv3, hv4⟩ := id hv
  obtain ⟨xn', xh, xb⟩ := x
  obtain ⟨cg, co, rfl, hv5⟩ := hv4 0 _ rfl
  have hz0 : qsz (Q.getD t []) ≤ 281474976710656 := by have := hw.at_ t; omega
  rw [hl, qsz_cons] at hz0
  simp only [isz] at hz0
  obtain ⟨m, hm⟩ : ∃ m, m = ((xn', xh, xb) :: L).length := ⟨_, rfl⟩
  rw [← hm] at ev hv1 hL5
  have hm0 : 0 < m := by rw [hm]; simp
  have hm1 : ((m : Int) == 0) = false := beq_eq_false_iff_ne.2 (by omega)
  have hvc1 : ¬vc = 1 ∨ m = 1 := by omega
  have HM := Lib.hid hm
  have HC0 := Lib.hid (hv5 0 _ rfl)
  have HC1 := Lib.hid (hv5 1 _ rfl)
  have HC2 := Lib.hid (hv5 2 _ rfl)
  simp only [Nat.zero_mul, Nat.add_zero] at HC0 HC1 HC2
  clear hv2 hv3 hv4 hv5 hm
  subst ev
  clear H hv hox hl ht
  obtain ⟨N, rfl⟩ : ∃ N : Nat, on = N := ⟨on.toNat, by omega⟩
  rw [Int.toNat_natCast] at hK
  go_enter Try.func20, Try.ntmps20
  go_upto_region 25 with fail
  generalize w.heap.size + 1 = p2 at *
  generalize w.heap.size = p1 at *
  refine wp_world S1 fun w1 S2 => ?_
  clear S1
  have o0 := S2.cell 0
  have o1 := S2.cell 1
  have o2 := S2.cell 2
  have o3 := S2.cell 3
  have o4 := S2.cell 4
  have o5 := S2.cell 5
  have hf := qu_cut (S2.re [2, 0, 1]) hw t N _ L HL.out (by omega)
  have HS2 := Lib.hid S2
  clear S2
  go_wp2_with fail
  (with_reducible refine hf.mono ?_)
  clear hf o0 o1 o2 o3 o4 o5
  rintro e w2 ⟨u, rfl, S3⟩
  obtain ⟨bs, hbs⟩ : ∃ bs, bs = xb.take N := ⟨_, rfl⟩
  simp only [← hbs] at S3
  have HN : Hid (bs.length = N) := Lib.hid (by rw [hbs, List.length_take]; omega)
  have HBS := Lib.hid hbs
  clear hbs
  obtain ⟨U, c, rfl, -, -, -⟩ := S3.ownForm
  have o2 := (S3.re [2, 0, 1]).cell 2
  have hz2 := S3.cellR HC2.out
  have hbz := bstr_size xb
  have hd0 : decide ((N : Int) < 0) = false := decide_eq_false (by omega)
  have hd1 : decide ((N : Int) > (xb.length : Int)) = false := decide_eq_false (by omega)
  have HS := Lib.hid S3
  clear S3
  go_upto_region 26 with fail
  go_quiet (fail)
  go_upto_region 28 with fail
  refine wp_world (HS.out.drewQ _) fun w3 S4 => ?_
  clear o2 hz2 HS
  refine wp_act fun a0 ha0 => ?_
  have HSZ : a0.tmps.size = 243 := by rw [ha0]; rfl
  have E1 : a0.eval (.tmp 1) = .slice (some ⟨cg, co, none⟩) m vc := by rw [ha0]; rfl
  have E7 : a0.eval (.tmp 7) = .pointer (some ⟨p2, 0, none⟩) := by rw [ha0]; rfl
  have E25 : a0.eval (.tmp 25) = .slice U N c := by rw [ha0]; rfl
  have E26 : a0.eval (.tmp 26) = .int .i64 0 := by rw [ha0]; rfl
  refine wp_region_J (by kernel_rfl) 20 (by kernel_rfl) [[], [], [1], [0, 2], [], [4], [5, 3], [6], [7, 6], [6], [9, 6], [10, 6], [11, 6], [6], [13, 6], [12, 14, 6], [8, 15, 6], [6, 16], [3, 6, 0, 1, 2, 3], [17, 18, 0, 1, 2, 3, 4, 5, 6, 7, 8, 9, 10, 11, 12, 13, 14, 15, 16, 17, 18]] (by kernel_rfl) (by kernel_rfl) (fun f a' W => ∃ u G', HO28 f ∧ G.le G' ∧ (f 3 = true → RL (cellR G'.ro) u ((xn', xh, xb.drop N) :: L)) ∧ a' = acts [(0, 203, .slice (some ⟨cg, co, none⟩) m vc), (1, 204, .pointer (some ⟨p2, 2, none⟩)), (2, 205, .int .i64 N), (3, 206, u), (4, 207, .int .i64 0), (5, 208, .bool true), (6, 209, .bool true), (7, 210, .slice U N c), (8, 211, .string (bstr bs)), (9, 212, .slice (some ⟨cg, co, none⟩) m vc), (10, 213, .pointer (some ⟨cg, co, none⟩)), (11, 214, .pointer (some ⟨cg, co + 2, none⟩)), (12, 215, .string (bstr xb)), (13, 216, .pointer (some ⟨p2, 2, none⟩)), (14, 217, .int .i64 N), (15, 218, .string (bstr bs)), (16, 219, .bool true), (17, 220, .bool true), (18, 8, u), (19, 9, .bool true)] f a0 ∧ Sat G' W (ownS 5 1 (.slice U N c) N (bs.map byteV) :: quA q (cutQ Q t (xn', xh, xb) L N) B I :: blk p2 #[.int .i64 ok, .int .i64 t, .int .i64 N, .int .i64 n, .slice A h.length a, .slice D b.length d] 46 :: blk p1 #[.int .i64 T, .int .i64 B, .int .i64 I, .slice X xn xc] 41 :: l)) ?_ ?_ ?_
  · exact ⟨undef, G, (by intro h; cases h), Gnd.le.rfl', (by intro h; cases h), rfl, S4.drew⟩
  · refine ⟨?_, ?_, ?_, ?_, ?_, ?_, ?_, ?_, ?_, ?_, ?_, ?_, ?_, ?_, ?_, ?_, ?_, ?_, ?_, ?_, trivial⟩
    · rintro f a' W h0 hd ⟨u, G', hh, hG, hu, rfl, S⟩
      refine wpOp_run (v := .slice (some ⟨cg, co, none⟩) m vc) rfl rfl (fun ρ hρ => ?_) ⟨u, G', hh, hG, hu, (acts_some 0 rfl (by kernel_rfl) (by kernel_rfl)).symm, S⟩
      have e0 : ρ (.tmp 1) = .slice (some ⟨cg, co, none⟩) m vc := by rw [hρ]; exact (acts_eval_tmp 1 (by kernel_rfl)).trans E1
      clear hρ
      go_simp
    · rintro f a' W h1 hd ⟨u, G', hh, hG, hu, rfl, S⟩
      refine wpOp_run (v := .pointer (some ⟨p2, 2, none⟩)) rfl rfl (fun ρ hρ => ?_) ⟨u, G', hh, hG, hu, (acts_some 1 rfl (by kernel_rfl) (by kernel_rfl)).symm, S⟩
      have e0 : ρ (.tmp 7) = .pointer (some ⟨p2, 0, none⟩) := by rw [hρ]; exact (acts_eval_tmp 7 (by kernel_rfl)).trans E7
      clear hρ
      go_simp
    · rintro f a' W h2 hd ⟨u, G', hh, hG, hu, rfl, S⟩
      refine wpOp_run (v := .int .i64 N) rfl rfl (fun ρ hρ => ?_) ⟨u, G', hh, hG, hu, (acts_some 2 rfl (by kernel_rfl) (by kernel_rfl)).symm, S⟩
      have e0 : ρ (.tmp 204) = .pointer (some ⟨p2, 2, none⟩) := by rw [hρ]; exact acts_eval_hit 1 rfl hd.1 (by rw [HSZ]; rfl) (by kernel_rfl)
      clear hρ
      (have hz0 := S.pull2.cell 2)
      go_simp
    · rintro f a' W h3 hd ⟨u, G', hh, hG, hu, rfl, S⟩
      (have z18 := no_of hh h3)
      refine wpOp_call rfl rfl (fun ρ hρ => ?_) (ref_cut S (HV.out.mono hG) N (show N ≤ xb.length by omega) (by have := HM.out; simp only [List.length_cons] at this; omega)) ?_
      · skip
        have e0 : ρ (.tmp 203) = .slice (some ⟨cg, co, none⟩) m vc := by rw [hρ]; exact acts_eval_hit 0 rfl hd.1 (by rw [HSZ]; rfl) (by kernel_rfl)
        have e1 : ρ (.tmp 205) = .int .i64 N := by rw [hρ]; exact acts_eval_hit 2 rfl hd.2.1 (by rw [HSZ]; rfl) (by kernel_rfl)
        have ef : ρ (.func 28) = .func (.func 28) #[] #[] := by rw [hρ]; rfl
        clear hρ
        go_simp
      · (rintro x W' ⟨u2, G2, hG2, rfl, hr3, S'⟩; exact ⟨_, rfl, u2, G2, fun _ => rfl, hG.trans hG2, fun _ => hr3, acts_swap (by simp only [acts, h3, z18, Bool.false_eq_true, if_false]) (k := 3) rfl (by kernel_rfl) (by kernel_rfl), S'⟩)
    · rintro f a' W h4 hd ⟨u, G', hh, hG, hu, rfl, S⟩
      refine wpOp_run (v := .int .i64 0) rfl rfl (fun ρ hρ => ?_) ⟨u, G', hh, hG, hu, (acts_some 4 rfl (by kernel_rfl) (by kernel_rfl)).symm, S⟩
      have e0 : ρ (.tmp 26) = .int .i64 0 := by rw [hρ]; exact (acts_eval_tmp 26 (by kernel_rfl)).trans E26
      clear hρ
      go_simp
    · rintro f a' W h5 hd ⟨u, G', hh, hG, hu, rfl, S⟩
      refine wpOp_run (v := .bool true) rfl rfl (fun ρ hρ => ?_) ⟨u, G', hh, hG, hu, (acts_some 5 rfl (by kernel_rfl) (by kernel_rfl)).symm, S⟩
      have e0 : ρ (.tmp 207) = .int .i64 0 := by rw [hρ]; exact acts_eval_hit 4 rfl hd.1 (by rw [HSZ]; rfl) (by kernel_rfl)
      have ec : ∀ v, ρ (.const v) = v := by rw [hρ]; exact fun _ => rfl
      clear hρ
      go_simp
    · rintro f a' W h6 hd ⟨u, G', hh, hG, hu, rfl, S⟩
      refine wpOp_run (v := .bool true) rfl rfl (fun ρ hρ => ?_) ⟨u, G', hh, hG, hu, (acts_some 6 rfl (by kernel_rfl) (by kernel_rfl)).symm, S⟩
      have e0 : ρ (.tmp 208) = .bool true := by rw [hρ]; exact acts_eval_hit 5 rfl hd.1 (by rw [HSZ]; rfl) (by kernel_rfl)
      clear hρ
      go_simp
    · rintro f a' W h7 hd ⟨u, G', hh, hG, hu, rfl, S⟩
      refine wpOp_runG (v := .slice U N c) rfl ?_ (fun ρ hρ => ?_) ⟨u, G', hh, hG, hu, (acts_some 7 rfl (by kernel_rfl) (by kernel_rfl)).symm, S⟩
      · exact wanted_hit (t := 209) rfl rfl (acts_eval_hit 6 rfl hd.1 (by rw [HSZ]; rfl) (by kernel_rfl))
      · skip
        have e0 : ρ (.tmp 25) = .slice U N c := by rw [hρ]; exact (acts_eval_tmp 25 (by kernel_rfl)).trans E25
        clear hρ
        go_simp
    · rintro f a' W h8 hd ⟨u, G', hh, hG, hu, rfl, S⟩
      refine wpOp_runG (v := .string (bstr bs)) rfl ?_ (fun ρ hρ => ?_) ⟨u, G', hh, hG, hu, (acts_some 8 rfl (by kernel_rfl) (by kernel_rfl)).symm, S⟩
      · exact wanted_hit (t := 209) rfl rfl (acts_eval_hit 6 rfl hd.2.1 (by rw [HSZ]; rfl) (by kernel_rfl))
      · skip
        have e0 : ρ (.tmp 210) = .slice U N c := by rw [hρ]; exact acts_eval_hit 7 rfl hd.1 (by rw [HSZ]; rfl) (by kernel_rfl)
        clear hρ
        (have hcv := conv_bytes _ bs _ (own_hypN bs HN.out _ S).1)
        go_simp
    · rintro f a' W h9 hd ⟨u, G', hh, hG, hu, rfl, S⟩
      refine wpOp_runG (v := .slice (some ⟨cg, co, none⟩) m vc) rfl ?_ (fun ρ hρ => ?_) ⟨u, G', hh, hG, hu, (acts_some 9 rfl (by kernel_rfl) (by kernel_rfl)).symm, S⟩
      · exact wanted_hit (t := 209) rfl rfl (acts_eval_hit 6 rfl hd.1 (by rw [HSZ]; rfl) (by kernel_rfl))
      · skip
        have e0 : ρ (.tmp 1) = .slice (some ⟨cg, co, none⟩) m vc := by rw [hρ]; exact (acts_eval_tmp 1 (by kernel_rfl)).trans E1
        clear hρ
        go_simp
    · rintro f a' W h10 hd ⟨u, G', hh, hG, hu, rfl, S⟩
      refine wpOp_runG (v := .pointer (some ⟨cg, co, none⟩)) rfl ?_ (fun ρ hρ => ?_) ⟨u, G', hh, hG, hu, (acts_some 10 rfl (by kernel_rfl) (by kernel_rfl)).symm, S⟩
      · exact wanted_hit (t := 209) rfl rfl (acts_eval_hit 6 rfl hd.2.1 (by rw [HSZ]; rfl) (by kernel_rfl))
      · skip
        have e0 : ρ (.tmp 212) = .slice (some ⟨cg, co, none⟩) m vc := by rw [hρ]; exact acts_eval_hit 9 rfl hd.1 (by rw [HSZ]; rfl) (by kernel_rfl)
        have ec : ∀ v, ρ (.const v) = v := by rw [hρ]; exact fun _ => rfl
        clear hρ
        go_simp
    · rintro f a' W h11 hd ⟨u, G', hh, hG, hu, rfl, S⟩
      refine wpOp_runG (v := .pointer (some ⟨cg, co + 2, none⟩)) rfl ?_ (fun ρ hρ => ?_) ⟨u, G', hh, hG, hu, (acts_some 11 rfl (by kernel_rfl) (by kernel_rfl)).symm, S⟩
      · exact wanted_hit (t := 209) rfl rfl (acts_eval_hit 6 rfl hd.2.1 (by rw [HSZ]; rfl) (by kernel_rfl))
      · skip
        have e0 : ρ (.tmp 213) = .pointer (some ⟨cg, co, none⟩) := by rw [hρ]; exact acts_eval_hit 10 rfl hd.1 (by rw [HSZ]; rfl) (by kernel_rfl)
        clear hρ
        go_simp
    · rintro f a' W h12 hd ⟨u, G', hh, hG, hu, rfl, S⟩
      refine wpOp_runG (v := .string (bstr xb)) rfl ?_ (fun ρ hρ => ?_) ⟨u, G', hh, hG, hu, (acts_some 12 rfl (by kernel_rfl) (by kernel_rfl)).symm, S⟩
      · exact wanted_hit (t := 209) rfl rfl (acts_eval_hit 6 rfl hd.2.1 (by rw [HSZ]; rfl) (by kernel_rfl))
      · skip
        have e0 : ρ (.tmp 214) = .pointer (some ⟨cg, co + 2, none⟩) := by rw [hρ]; exact acts_eval_hit 11 rfl hd.1 (by rw [HSZ]; rfl) (by kernel_rfl)
        clear hρ
        (have hz2 := S.cellR (cellR_mono hG.ro HC2.out))
        go_simp
    · rintro f a' W h13 hd ⟨u, G', hh, hG, hu, rfl, S⟩
      refine wpOp_runG (v := .pointer (some ⟨p2, 2, none⟩)) rfl ?_ (fun ρ hρ => ?_) ⟨u, G', hh, hG, hu, (acts_some 13 rfl (by kernel_rfl) (by kernel_rfl)).symm, S⟩
      · exact wanted_hit (t := 209) rfl rfl (acts_eval_hit 6 rfl hd.1 (by rw [HSZ]; rfl) (by kernel_rfl))
      · skip
        have e0 : ρ (.tmp 7) = .pointer (some ⟨p2, 0, none⟩) := by rw [hρ]; exact (acts_eval_tmp 7 (by kernel_rfl)).trans E7
        clear hρ
        go_simp
    · rintro f a' W h14 hd ⟨u, G', hh, hG, hu, rfl, S⟩
      refine wpOp_runG (v := .int .i64 N) rfl ?_ (fun ρ hρ => ?_) ⟨u, G', hh, hG, hu, (acts_some 14 rfl (by kernel_rfl) (by kernel_rfl)).symm, S⟩
      · exact wanted_hit (t := 209) rfl rfl (acts_eval_hit 6 rfl hd.2.1 (by rw [HSZ]; rfl) (by kernel_rfl))
      · skip
        have e0 : ρ (.tmp 216) = .pointer (some ⟨p2, 2, none⟩) := by rw [hρ]; exact acts_eval_hit 13 rfl hd.1 (by rw [HSZ]; rfl) (by kernel_rfl)
        clear hρ
        (have hz0 := S.pull2.cell 2)
        go_simp
    · rintro f a' W h15 hd ⟨u, G', hh, hG, hu, rfl, S⟩
      refine wpOp_runG (v := .string (bstr bs)) rfl ?_ (fun ρ hρ => ?_) ⟨u, G', hh, hG, hu, (acts_some 15 rfl (by kernel_rfl) (by kernel_rfl)).symm, S⟩
      · exact wanted_hit (t := 209) rfl rfl (acts_eval_hit 6 rfl hd.2.2.1 (by rw [HSZ]; rfl) (by kernel_rfl))
      · skip
        have e0 : ρ (.tmp 215) = .string (bstr xb) := by rw [hρ]; exact acts_eval_hit 12 rfl hd.1 (by rw [HSZ]; rfl) (by kernel_rfl)
        have e1 : ρ (.tmp 217) = .int .i64 N := by rw [hρ]; exact acts_eval_hit 14 rfl hd.2.1 (by rw [HSZ]; rfl) (by kernel_rfl)
        clear hρ
        (have hdr := bstr_take xb N; rw [← HBS.out] at hdr; have hlt : (N : Int) ≤ (xb.length : Int) := (by omega))
        go_simp
    · rintro f a' W h16 hd ⟨u, G', hh, hG, hu, rfl, S⟩
      refine wpOp_runG (v := .bool true) rfl ?_ (fun ρ hρ => ?_) ⟨u, G', hh, hG, hu, (acts_some 16 rfl (by kernel_rfl) (by kernel_rfl)).symm, S⟩
      · exact wanted_hit (t := 209) rfl rfl (acts_eval_hit 6 rfl hd.2.2.1 (by rw [HSZ]; rfl) (by kernel_rfl))
      · skip
        have e0 : ρ (.tmp 211) = .string (bstr bs) := by rw [hρ]; exact acts_eval_hit 8 rfl hd.1 (by rw [HSZ]; rfl) (by kernel_rfl)
        have e1 : ρ (.tmp 218) = .string (bstr bs) := by rw [hρ]; exact acts_eval_hit 15 rfl hd.2.1 (by rw [HSZ]; rfl) (by kernel_rfl)
        clear hρ
        go_simp
    · rintro f a' W h17 hd ⟨u, G', hh, hG, hu, rfl, S⟩
      refine wpOp_run (v := .bool true) rfl rfl (fun ρ hρ => ?_) ⟨u, G', hh, hG, hu, (acts_some 17 rfl (by kernel_rfl) (by kernel_rfl)).symm, S⟩
      have e0 : ρ (.tmp 209) = .bool true := by rw [hρ]; exact acts_eval_hit 6 rfl hd.1 (by rw [HSZ]; rfl) (by kernel_rfl)
      have e1 : ρ (.tmp 219) = .bool true := by rw [hρ]; exact acts_eval_hit 16 rfl hd.2.1 (by rw [HSZ]; rfl) (by kernel_rfl)
      have ec : ∀ v, ρ (.const v) = v := by rw [hρ]; exact fun _ => rfl
      clear hρ
      go_simp
    · rintro f a' W h18 hd ⟨u, G', hh, hG, hu, rfl, S⟩
      refine wpOp_run (v := u) rfl rfl (fun ρ hρ => ?_) ⟨u, G', fun _ => hd.1, hG, hu, (acts_some 18 rfl (by kernel_rfl) (by kernel_rfl)).symm, S⟩
      have e0 : ρ (.tmp 206) = u := by rw [hρ]; exact acts_eval_hit 3 rfl hd.1 (by rw [HSZ]; rfl) (by kernel_rfl)
      clear hρ
      skip
      go_simp
    · rintro f a' W h19 hd ⟨u, G', hh, hG, hu, rfl, S⟩
      refine wpOp_run (v := .bool true) rfl rfl (fun ρ hρ => ?_) ⟨u, G', hh, hG, hu, (acts_some 19 rfl (by kernel_rfl) (by kernel_rfl)).symm, S⟩
      have e0 : ρ (.tmp 220) = .bool true := by rw [hρ]; exact acts_eval_hit 17 rfl hd.1 (by rw [HSZ]; rfl) (by kernel_rfl)
      clear hρ
      go_simp
  rintro a' W ⟨u, G', -, hG, hu, rfl, S5⟩
  replace hu := hu rfl
  subst ha0
  simp only [acts, if_true, Act.put, List.setIfInBounds_toArray, List.set_cons_succ, List.set_cons_zero]
  have HS := Lib.hid (S5.drop.drop2.drop2)
  have HU := Lib.hid hu
  clear S5 S4 HSZ E1 E7 E25 E26 hu
  go_wp2_with fail
  exact hK.out _ _ ⟨_, G', hG, rfl, HU.out, HS.out⟩
set_option maxHeartbeats 8000000 in
set_option maxRecDepth 100000 in
theorem one_pop {x : It} {L : List It} (H : Sat G w (quA q Q B I :: l)) (hw : QWf Q B I) (ht : t < Q.length) (hl : Q.getD t [] = x :: L) (hv : RL (cellR G.ro) v (x :: L)) (ho : o.ok G.ro) (hot : o.t = t)  (hk1 : (o.k == 1) = false) (hk5 : (o.k == 5) = false) (hk2 : (o.k == 2) = false) (hk3 : (o.k == 3) = false) (hk4 : (o.k == 4) = true):
    Calls Try.prog 20 #[.pointer (some ⟨q, 0, none⟩), v, .agg #[.int .i64 T, .int .i64 B, .int .i64 I, .slice X xn xc], .agg o.cells.toArray] w fun e w' => ∃ u G', G.le G' ∧ e = .returned (.tuple #[u, .bool true]) ∧ RL (cellR G'.ro) u (L) ∧ Sat G' w' (quA q (Q.set t L) B I :: l) := by
  refine calls_any fun K hK => ?_
  obtain ⟨ok, ot, on, ⟨n, hv1, bv1, h, b⟩⟩ := o
  obtain ⟨hox, hoh, hob, ⟨hot0, hot1⟩, ⟨hon0, hon1⟩⟩ := ho
  obtain ⟨A, a, D, d, e1, e2⟩ := qe_slices hox
  simp only at e1 e2 hoh hob hot hot0 hot1 hon0 hon1 hk1 hk5 hk2 hk3 hk4
  subst e1
  subst e2
  subst hot
  simp only [OpD.cells, Qe.enc, Qe.abs] at *
  have hb1 := hw.b1
  have hi1 := hw.i1
  have hL5 : (Q.getD t []).length ≤ 5000 := by have := hw.at_ t; omega
  rw [hl] at hL5
  have S1 := (H.newBlk #[.int .i64 T, .int .i64 B, .int .i64 I, .slice X xn xc] 41).newBlk #[.int .i64 ok, .int .i64 t, .int .i64 on, .int .i64 n, .slice A h.length a, .slice D b.length d] 46
  simp only [World.size_alloc] at S1
  have HV := Lib.hid hv
  have HOX := Lib.hid hox
  have HL := Lib.hid hl
  have HT := Lib.hid ht
  obtain ⟨va, vc, ev, hv1, hv2, hv3, hv4⟩ := id hv
  obtain ⟨xn', xh, xb⟩ := x
  obtain ⟨cg, co, rfl, hv5⟩ := hv4 0 _ rfl
  have hz0 : qsz (Q.getD t []) ≤ 281474976710656 := by have := hw.at_ t; omega
  rw [hl, qsz_cons] at hz0
  simp only [isz] at hz0
  obtain ⟨m, hm⟩ : ∃ m, m = ((xn', xh, xb) :: L).length := ⟨_, rfl⟩
  rw [← hm] at ev hv1 hL5
  have hm0 : 0 < m := by rw [hm]; simp
  have hm1 : ((m : Int) == 0) = false := beq_eq_false_iff_ne.2 (by omega)
  have hvc1 : ¬vc = 1 ∨ m = 1 := by omega
  have HM := Lib.hid hm
  have HC0 := Lib.hid (hv5 0 _ rfl)
  have HC1 := Lib.hid (hv5 1 _ rfl)
  have HC2 := Lib.hid (hv5 2 _ rfl)
  simp only [Nat.zero_mul, Nat.add_zero] at HC0 HC1 HC2
  clear hv2 hv3 hv4 hv5 hm
  subst ev
  clear H hv hox hl ht
  obtain ⟨vt, hvt⟩ : ∃ vt, vt = Value.slice (if vc = 1 then some ⟨cg, co, none⟩ else some ⟨cg, co + 3, none⟩) (m - 1) (vc - 1) := ⟨_, rfl⟩
  have htl := HV.out.tail
  change RL _ (.slice (if vc = 1 then some ⟨cg, co, none⟩ else some ⟨cg, co + 3, none⟩) _ _) _ at htl
  rw [← hvt] at htl
  have HTL := Lib.hid htl
  have HVT := Lib.hid hvt
  clear htl hvt
  go_enter Try.func20, Try.ntmps20
  go_upto_region 30 with fail
  generalize w.heap.size + 1 = p2 at *
  generalize w.heap.size = p1 at *
  refine wp_world S1 fun w1 S2 => ?_
  clear S1
  have o1 := S2.cell 1
  have hf := qu_pop (S2.re [2, 0, 1]) hw t _ L HL.out
  clear S2
  go_wp2_with fail
  (with_reducible refine hf.mono ?_)
  clear hf o1
  rintro e w2 ⟨u1, u2, rfl, S3⟩
  obtain ⟨U3, c3, rfl, -, -, -⟩ := S3.ownForm
  obtain ⟨U4, c4, rfl, -, -, -⟩ := S3.swap.ownForm
  have S4 := S3.newBlk #[.int .i64 xn', .slice U3 xh.length c3, .slice U4 xb.length c4] 24
  clear S3
  go_upto_region 31 with fail
  generalize w2.heap.size = zz at *
  refine wp_world (S4.re [1, 2, 0]) fun w5 S5 => ?_
  clear S4
  refine wp_act fun a0 ha0 => ?_
  have HSZ : a0.tmps.size = 243 := by rw [ha0]; rfl
  have E1 : a0.eval (.tmp 1) = .slice (some ⟨cg, co, none⟩) m vc := by rw [ha0]; rfl
  have E27 : a0.eval (.tmp 27) = .pointer (some ⟨zz, 0, none⟩) := by rw [ha0]; rfl
  have E28 : a0.eval (.tmp 28) = .int .i64 0 := by rw [ha0]; rfl
  refine wp_region_sat (by kernel_rfl) 14 (by kernel_rfl) [[], [0], [], [2], [3], [4], [5, 4, 4], [4], [7, 4], [8, 4], [6, 9, 4], [4, 10], [1, 6, 0, 1], [11, 12, 0, 1, 2, 3, 4, 5, 6, 7, 8, 9, 10, 11, 12]] (by kernel_rfl) (by kernel_rfl) [(0, 230, .slice (some ⟨cg, co, none⟩) m vc), (1, 231, vt), (2, 232, .int .i64 0), (3, 233, .bool true), (4, 234, .bool true), (5, 235, .agg #[.int .i64 xn', .slice U3 xh.length c3, .slice U4 xb.length c4]), (6, 236, .agg #[.int .i64 xn', .string (bstr xh), .string (bstr xb)]), (7, 237, .slice (some ⟨cg, co, none⟩) m vc), (8, 238, .pointer (some ⟨cg, co, none⟩)), (9, 239, .agg #[.int .i64 xn', .string (bstr xh), .string (bstr xb)]), (10, 240, .bool true), (11, 241, .bool true), (12, 8, vt), (13, 9, .bool true)] (fun _ => ownS 5 1 (.slice U3 xh.length c3) xh.length (xh.map byteV) :: ownS 5 1 (.slice U4 xb.length c4) xb.length (xb.map byteV) :: blk zz #[.int .i64 xn', .slice U3 xh.length c3, .slice U4 xb.length c4] 24 :: quA q (Q.set t L) B I :: blk p2 #[.int .i64 ok, .int .i64 t, .int .i64 on, .int .i64 n, .slice A h.length a, .slice D b.length d] 46 :: blk p1 #[.int .i64 T, .int .i64 B, .int .i64 I, .slice X xn xc] 41 :: l) (by kernel_rfl) S5 ?_ ?_
  · refine ⟨?_, ?_, ?_, ?_, ?_, ?_, ?_, ?_, ?_, ?_, ?_, ?_, ?_, ?_, trivial⟩
    · intro f W h0 hd S
      refine wpOp_run (v := .slice (some ⟨cg, co, none⟩) m vc) rfl rfl (fun ρ hρ => ?_) ⟨(acts_some 0 rfl (by kernel_rfl) (by kernel_rfl)).symm, S⟩
      have e0 : ρ (.tmp 1) = .slice (some ⟨cg, co, none⟩) m vc := by rw [hρ]; exact (acts_eval_tmp 1 (by kernel_rfl)).trans E1
      clear hρ
      go_simp
    · intro f W h1 hd S
      refine wpOp_run (v := vt) rfl rfl (fun ρ hρ => ?_) ⟨(acts_some 1 rfl (by kernel_rfl) (by kernel_rfl)).symm, S⟩
      have e0 : ρ (.tmp 230) = .slice (some ⟨cg, co, none⟩) m vc := by rw [hρ]; exact acts_eval_hit 0 rfl hd.1 (by rw [HSZ]; rfl) (by kernel_rfl)
      have ec : ∀ v, ρ (.const v) = v := by rw [hρ]; exact fun _ => rfl
      clear hρ
      (rw [HVT.out]; have q1 : ¬((m : Int) < 1) := (by omega); have q2 : (m : Int).toNat = m := (by omega); have q3 : ¬(vc < 1) := (by omega))
      go_simp
    · intro f W h2 hd S
      refine wpOp_run (v := .int .i64 0) rfl rfl (fun ρ hρ => ?_) ⟨(acts_some 2 rfl (by kernel_rfl) (by kernel_rfl)).symm, S⟩
      have e0 : ρ (.tmp 28) = .int .i64 0 := by rw [hρ]; exact (acts_eval_tmp 28 (by kernel_rfl)).trans E28
      clear hρ
      go_simp
    · intro f W h3 hd S
      refine wpOp_run (v := .bool true) rfl rfl (fun ρ hρ => ?_) ⟨(acts_some 3 rfl (by kernel_rfl) (by kernel_rfl)).symm, S⟩
      have e0 : ρ (.tmp 232) = .int .i64 0 := by rw [hρ]; exact acts_eval_hit 2 rfl hd.1 (by rw [HSZ]; rfl) (by kernel_rfl)
      have ec : ∀ v, ρ (.const v) = v := by rw [hρ]; exact fun _ => rfl
      clear hρ
      go_simp
    · intro f W h4 hd S
      refine wpOp_run (v := .bool true) rfl rfl (fun ρ hρ => ?_) ⟨(acts_some 4 rfl (by kernel_rfl) (by kernel_rfl)).symm, S⟩
      have e0 : ρ (.tmp 233) = .bool true := by rw [hρ]; exact acts_eval_hit 3 rfl hd.1 (by rw [HSZ]; rfl) (by kernel_rfl)
      clear hρ
      go_simp
    · intro f W h5 hd S
      refine wpOp_runG (v := .agg #[.int .i64 xn', .slice U3 xh.length c3, .slice U4 xb.length c4]) rfl ?_ (fun ρ hρ => ?_) ⟨(acts_some 5 rfl (by kernel_rfl) (by kernel_rfl)).symm, S⟩
      · exact wanted_hit (t := 234) rfl rfl (acts_eval_hit 4 rfl hd.1 (by rw [HSZ]; rfl) (by kernel_rfl))
      · skip
        have e0 : ρ (.tmp 27) = .pointer (some ⟨zz, 0, none⟩) := by rw [hρ]; exact (acts_eval_tmp 27 (by kernel_rfl)).trans E27
        clear hρ
        (have hz0 := S.pull2.cell 0; have hz1 := S.pull2.cell 1; have hz2 := S.pull2.cell 2)
        go_simp
    · intro f W h6 hd S
      refine wpOp_callG rfl (wanted_hit (t := 234) rfl rfl (acts_eval_hit 4 rfl hd.2.1 (by rw [HSZ]; rfl) (by kernel_rfl))) (fun ρ hρ => ?_) (law_ref S xn' (.slice U3 xh.length c3) (.slice U4 xb.length c4) xh xb (own_hyp xh) (own_hyp2 xb)) ?_
      · skip
        have e0 : ρ (.tmp 235) = .agg #[.int .i64 xn', .slice U3 xh.length c3, .slice U4 xb.length c4] := by rw [hρ]; exact acts_eval_hit 5 rfl hd.1 (by rw [HSZ]; rfl) (by kernel_rfl)
        have ef : ρ (.func 9) = .func (.func 9) #[] #[] := by rw [hρ]; rfl
        clear hρ
        go_simp
      · (rintro x W' ⟨rfl, S'⟩; exact ⟨_, rfl, (acts_some 6 rfl (by kernel_rfl) (by kernel_rfl)).symm, S'⟩)
    · intro f W h7 hd S
      refine wpOp_runG (v := .slice (some ⟨cg, co, none⟩) m vc) rfl ?_ (fun ρ hρ => ?_) ⟨(acts_some 7 rfl (by kernel_rfl) (by kernel_rfl)).symm, S⟩
      · exact wanted_hit (t := 234) rfl rfl (acts_eval_hit 4 rfl hd.1 (by rw [HSZ]; rfl) (by kernel_rfl))
      · skip
        have e0 : ρ (.tmp 1) = .slice (some ⟨cg, co, none⟩) m vc := by rw [hρ]; exact (acts_eval_tmp 1 (by kernel_rfl)).trans E1
        clear hρ
        go_simp
    · intro f W h8 hd S
      refine wpOp_runG (v := .pointer (some ⟨cg, co, none⟩)) rfl ?_ (fun ρ hρ => ?_) ⟨(acts_some 8 rfl (by kernel_rfl) (by kernel_rfl)).symm, S⟩
      · exact wanted_hit (t := 234) rfl rfl (acts_eval_hit 4 rfl hd.2.1 (by rw [HSZ]; rfl) (by kernel_rfl))
      · skip
        have e0 : ρ (.tmp 237) = .slice (some ⟨cg, co, none⟩) m vc := by rw [hρ]; exact acts_eval_hit 7 rfl hd.1 (by rw [HSZ]; rfl) (by kernel_rfl)
        have ec : ∀ v, ρ (.const v) = v := by rw [hρ]; exact fun _ => rfl
        clear hρ
        go_simp
    · intro f W h9 hd S
      refine wpOp_runG (v := .agg #[.int .i64 xn', .string (bstr xh), .string (bstr xb)]) rfl ?_ (fun ρ hρ => ?_) ⟨(acts_some 9 rfl (by kernel_rfl) (by kernel_rfl)).symm, S⟩
      · exact wanted_hit (t := 234) rfl rfl (acts_eval_hit 4 rfl hd.2.1 (by rw [HSZ]; rfl) (by kernel_rfl))
      · skip
        have e0 : ρ (.tmp 238) = .pointer (some ⟨cg, co, none⟩) := by rw [hρ]; exact acts_eval_hit 8 rfl hd.1 (by rw [HSZ]; rfl) (by kernel_rfl)
        clear hρ
        (have hz0 := S.cellR HC0.out; have hz1 := S.cellR HC1.out; have hz2 := S.cellR HC2.out)
        go_simp
    · intro f W h10 hd S
      refine wpOp_runG (v := .bool true) rfl ?_ (fun ρ hρ => ?_) ⟨(acts_some 10 rfl (by kernel_rfl) (by kernel_rfl)).symm, S⟩
      · exact wanted_hit (t := 234) rfl rfl (acts_eval_hit 4 rfl hd.2.2.1 (by rw [HSZ]; rfl) (by kernel_rfl))
      · skip
        have e0 : ρ (.tmp 236) = .agg #[.int .i64 xn', .string (bstr xh), .string (bstr xb)] := by rw [hρ]; exact acts_eval_hit 6 rfl hd.1 (by rw [HSZ]; rfl) (by kernel_rfl)
        have e1 : ρ (.tmp 239) = .agg #[.int .i64 xn', .string (bstr xh), .string (bstr xb)] := by rw [hρ]; exact acts_eval_hit 9 rfl hd.2.1 (by rw [HSZ]; rfl) (by kernel_rfl)
        clear hρ
        go_simp
    · intro f W h11 hd S
      refine wpOp_run (v := .bool true) rfl rfl (fun ρ hρ => ?_) ⟨(acts_some 11 rfl (by kernel_rfl) (by kernel_rfl)).symm, S⟩
      have e0 : ρ (.tmp 234) = .bool true := by rw [hρ]; exact acts_eval_hit 4 rfl hd.1 (by rw [HSZ]; rfl) (by kernel_rfl)
      have e1 : ρ (.tmp 240) = .bool true := by rw [hρ]; exact acts_eval_hit 10 rfl hd.2.1 (by rw [HSZ]; rfl) (by kernel_rfl)
      have ec : ∀ v, ρ (.const v) = v := by rw [hρ]; exact fun _ => rfl
      clear hρ
      go_simp
    · intro f W h12 hd S
      refine wpOp_run (v := vt) rfl rfl (fun ρ hρ => ?_) ⟨(acts_some 12 rfl (by kernel_rfl) (by kernel_rfl)).symm, S⟩
      have e0 : ρ (.tmp 231) = vt := by rw [hρ]; exact acts_eval_hit 1 rfl hd.1 (by rw [HSZ]; rfl) (by kernel_rfl)
      clear hρ
      go_simp
    · intro f W h13 hd S
      refine wpOp_run (v := .bool true) rfl rfl (fun ρ hρ => ?_) ⟨(acts_some 13 rfl (by kernel_rfl) (by kernel_rfl)).symm, S⟩
      have e0 : ρ (.tmp 241) = .bool true := by rw [hρ]; exact acts_eval_hit 11 rfl hd.1 (by rw [HSZ]; rfl) (by kernel_rfl)
      clear hρ
      go_simp
  intro W S9
  subst ha0
  simp only [acts, if_true, Act.put, List.setIfInBounds_toArray, List.set_cons_succ, List.set_cons_zero]
  have HS := Lib.hid (S9.drop.drop.drop.drop2.drop2)
  clear S9 S5 HSZ E1 E27 E28
  go_wp2_with fail
  exact hK.out _ _ ⟨_, G, Gnd.le.rfl', rfl, HTL.out, HS.out⟩
set_option maxHeartbeats 8000000 in
set_option maxRecDepth 100000 in
theorem one_else {x : It} {L : List It} (H : Sat G w (quA q Q B I :: l)) (hw : QWf Q B I) (ht : t < Q.length) (hl : Q.getD t [] = x :: L) (hv : RL (cellR G.ro) v (x :: L)) (ho : o.ok G.ro) (hot : o.t = t)  (hk1 : (o.k == 1) = false) (hk5 : (o.k == 5) = false) (hk2 : (o.k == 2) = false) (hk3 : (o.k == 3) = false) (hk4 : (o.k == 4) = false):
    Calls Try.prog 20 #[.pointer (some ⟨q, 0, none⟩), v, .agg #[.int .i64 T, .int .i64 B, .int .i64 I, .slice X xn xc], .agg o.cells.toArray] w fun e w' => ∃ u G', G.le G' ∧ e = .returned (.tuple #[u, .bool true]) ∧ RL (cellR G'.ro) u (x :: L) ∧ Sat G' w' (quA q (Q) B I :: l) := by
  refine calls_any fun K hK => ?_
  obtain ⟨ok, ot, on, ⟨n, hv1, bv1, h, b⟩⟩ := o
  obtain ⟨hox, hoh, hob, ⟨hot0, hot1⟩, ⟨hon0, hon1⟩⟩ := ho
  obtain ⟨A, a, D, d, e1, e2⟩ := qe_slices hox
  simp only at e1 e2 hoh hob hot hot0 hot1 hon0 hon1 hk1 hk5 hk2 hk3 hk4
  subst e1
  subst e2
  subst hot
  simp only [OpD.cells, Qe.enc, Qe.abs] at *
  have hb1 := hw.b1
  have hi1 := hw.i1
  have hL5 : (Q.getD t []).length ≤ 5000 := by have := hw.at_ t; omega
  rw [hl] at hL5
  have S1 := (H.newBlk #[.int .i64 T, .int .i64 B, .int .i64 I, .slice X xn xc] 41).newBlk #[.int .i64 ok, .int .i64 t, .int .i64 on, .int .i64 n, .slice A h.length a, .slice D b.length d] 46
  simp only [World.size_alloc] at S1
  have HV := Lib.hid hv
  have HOX := Lib.hid hox
  have HL := Lib.hid hl
  have HT := Lib.hid ht
  obtain ⟨va, vc, ev, hv1, hv2, hv3, hv4⟩ := id hv
  obtain ⟨xn', xh, xb⟩ := x
  obtain ⟨cg, co, rfl, hv5⟩ := hv4 0 _ rfl
  have hz0 : qsz (Q.getD t []) ≤ 281474976710656 := by have := hw.at_ t; omega
  rw [hl, qsz_cons] at hz0
  simp only [isz] at hz0
  obtain ⟨m, hm⟩ : ∃ m, m = ((xn', xh, xb) :: L).length := ⟨_, rfl⟩
  rw [← hm] at ev hv1 hL5
  have hm0 : 0 < m := by rw [hm]; simp
  have hm1 : ((m : Int) == 0) = false := beq_eq_false_iff_ne.2 (by omega)
  have hvc1 : ¬vc = 1 ∨ m = 1 := by omega
  have HM := Lib.hid hm
  have HC0 := Lib.hid (hv5 0 _ rfl)
  have HC1 := Lib.hid (hv5 1 _ rfl)
  have HC2 := Lib.hid (hv5 2 _ rfl)
  simp only [Nat.zero_mul, Nat.add_zero] at HC0 HC1 HC2
  clear hv2 hv3 hv4 hv5 hm
  subst ev
  clear H hv hox hl ht
  go_enter Try.func20, Try.ntmps20
  go_upto_region 32 with fail
  generalize w.heap.size + 1 = p2 at *
  generalize w.heap.size = p1 at *
  refine wp_world S1 fun w1 S2 => ?_
  clear S1
  have HS := Lib.hid S2.drop.drop
  clear S2
  go_wp2_with fail
  exact hK.out _ _ ⟨_, G, Gnd.le.rfl', rfl, HV.out, HS.out⟩

theorem oneL_le {B I : Int} {L : List It} {o : OpD} (hb : (qsz L : Int) ≤ B) (hi : (L.length : Int) ≤ I) : (qsz (oneL B I L o) : Int) ≤ B ∧ ((oneL B I L o).length : Int) ≤ I := by
  unfold oneL
  by_cases h1 : o.k = 1
  · rw [if_pos h1]
    unfold putL
    by_cases hc : I ≤ (L.length : Int) ∨ B < (qsz L : Int) + isz o.x.abs
    · rw [if_pos hc]; exact ⟨hb, hi⟩
    · rw [if_neg hc]
      refine ⟨?_, ?_⟩
      · rw [qsz_append, qsz_cons, qsz_nil]; omega
      · rw [List.length_append]; simp; omega
  rw [if_neg h1]
  by_cases h5 : o.k = 5
  · rw [if_pos h5]; have := dropL_le o.n L; omega
  rw [if_neg h5]
  cases L with
  | nil => exact ⟨hb, hi⟩
  | cons x L' =>
    simp only []
    by_cases h3 : o.k = 3
    · rw [if_pos h3]
      by_cases hn : o.n < 0 ∨ (x.2.2.length : Int) < o.n
      · rw [if_pos hn]; exact ⟨hb, hi⟩
      · rw [if_neg hn]
        rw [qsz_cons] at hb ⊢
        simp only [isz, List.length_drop, List.length_cons] at hb hi ⊢
        omega
    rw [if_neg h3]
    by_cases h4 : o.k = 4
    · rw [if_pos h4]; rw [qsz_cons] at hb; simp only [List.length_cons] at hi; omega
    · rw [if_neg h4]; exact ⟨hb, hi⟩
theorem oneL_wf (hw : QWf Q B I) : QWf (Q.set t (oneL B I (Q.getD t []) o)) B I :=
  hw.set _ _ (oneL_le (hw.at_ t).1 (hw.at_ t).2).1 (oneL_le (hw.at_ t).1 (hw.at_ t).2).2
theorem law_one (H : Sat G w (quA q Q B I :: l)) (hw : QWf Q B I) (ht : t < Q.length) (hv : RL (cellR G.ro) v (Q.getD t [])) (ho : o.ok G.ro) (hot : o.t = t) :
    Calls Try.prog 20 #[.pointer (some ⟨q, 0, none⟩), v, .agg #[.int .i64 T, .int .i64 B, .int .i64 I, .slice X xn xc], .agg o.cells.toArray] w fun e w' => ∃ u G', G.le G' ∧ e = .returned (.tuple #[u, .bool true]) ∧ RL (cellR G'.ro) u (oneL B I (Q.getD t []) o) ∧ Sat G' w' (quA q (Q.set t (oneL B I (Q.getD t []) o)) B I :: l) := by
  have fb : ∀ {a b : Int}, a ≠ b → (a == b) = false := fun h => beq_eq_false_iff_ne.2 h
  have tb : ∀ {a b : Int}, a = b → (a == b) = true := fun h => beq_iff_eq.2 h
  by_cases h1 : o.k = 1
  · rw [show oneL B I (Q.getD t []) o = (putL B I (Q.getD t []) o.x.abs).1 by unfold oneL; rw [if_pos h1]]
    exact one_put H hw ht hv ho hot h1
  by_cases h5 : o.k = 5
  · rw [show oneL B I (Q.getD t []) o = dropL o.n (Q.getD t []) by unfold oneL; rw [if_neg h1, if_pos h5]]
    exact one_drop H hw ht hv ho hot h5
  have hs := set_getD ht
  cases hl : Q.getD t [] with
  | nil =>
    rw [hl] at hv hs
    rw [show oneL B I [] o = [] by unfold oneL; rw [if_neg h1, if_neg h5], hs]
    exact one_empty H hw ht hl hv ho hot (fb h1) (fb h5)
  | cons x L =>
    rw [hl] at hv hs
    have hu : oneL B I (x :: L) o = if o.k = 3 then (if o.n < 0 ∨ (x.2.2.length : Int) < o.n then x :: L else (x.1, x.2.1, x.2.2.drop o.n.toNat) :: L) else if o.k = 4 then L else x :: L := by
      unfold oneL; rw [if_neg h1, if_neg h5]
    rw [hu]
    by_cases h3 : o.k = 3
    · rw [if_pos h3]
      by_cases hn : o.n < 0 ∨ (x.2.2.length : Int) < o.n
      · rw [if_pos hn, hs]
        exact one_cut_not H hw ht hl hv ho hot hn (fb h1) (fb h5) (fb (by omega)) (tb h3)
      · rw [if_neg hn]
        exact one_cut H hw ht hl hv ho hot (by omega) (fb h1) (fb h5) (fb (by omega)) (tb h3)
    rw [if_neg h3]
    by_cases h4 : o.k = 4
    · rw [if_pos h4]
      exact one_pop H hw ht hl hv ho hot (fb h1) (fb h5) (fb (by omega)) (fb h3) (tb h4)
    rw [if_neg h4, hs]
    by_cases h2 : o.k = 2
    · exact one_first H hw ht hl hv ho hot (fb h1) (fb h5) (tb h2)
    · exact one_else H hw ht hl hv ho hot (fb h1) (fb h5) (fb h2) (fb h3) (fb h4)
end
end Go.Proofs.Ytidaafpfkbfiaaa
