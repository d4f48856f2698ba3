/- The walks over First and Pop. -/
import Derived.Test.YtidaafpfkbfiaaaPop
set_option linter.unusedSimpArgs false
set_option linter.unusedVariables false
namespace Go.Proofs.Ytidaafpfkbfiaaa
open Go.RowKit

section
variable {G : Gnd} {w w' : World} {l : List Asrt} {q : Nat} {Q : List (List It)} {B I : Int}
theorem qu_shut2 {U1 U2 : Asrt} {M : List Ln} {g cap m : Nat} {cur : Array Value} {v : Value} {F : List Qe} {L' : List It} {t N : Nat} (S : Sat G w (U1 :: U2 :: blk g cur 62 :: blk q #[.slice (some ⟨g, 0, none⟩) m cap, .int .i64 B, .int .i64 I] 57 :: ownS 24 3 v N (encs Qe.enc F) :: ((M.take t).map lnA ++ ((M.drop (t + 1)).map lnA ++ l))))
    (hm : m = M.length) (hN : N = F.length) (hM : M.map Ln.L = Q) (ht : t < M.length) (hL : Lay lenc 2 cap cur (M.set t ⟨v, L'⟩)) (hc : cap ≤ maxLen) (hF : F.map Qe.abs = L') (hFo : ∀ e ∈ F, e.ok G.ro) : Sat G w (quA q (Q.set t L') B I :: U1 :: U2 :: l) := by
  have S2 : Sat G w (U1 :: (([U2, blk g cur 62, blk q #[.slice (some ⟨g, 0, none⟩) m cap, .int .i64 B, .int .i64 I] 57, ownS 24 3 v N (encs Qe.enc F)] ++ ((M.take t).map lnA ++ (M.drop (t + 1)).map lnA)) ++ l)) := by simpa using S
  have S3 := S2.dim
  have S4 : Sat G w (U2 :: (([blk g cur 62, blk q #[.slice (some ⟨g, 0, none⟩) m cap, .int .i64 B, .int .i64 I] 57, ownS 24 3 v N (encs Qe.enc F)] ++ ((M.take t).map lnA ++ (M.drop (t + 1)).map lnA)) ++ U1 :: l)) := by simpa using S3
  have S5 := S4.dim
  exact Sat.re (qu_shut (l := U2 :: U1 :: l) (by simpa using S5) hm hN hM ht hL hc hF hFo) [0, 2, 1]
theorem it_bytes {x : It} {Q : List (List It)} {B I : Int} (hw : QWf Q B I) {t : Nat} (hx : x ∈ Q.getD t []) : isz x ≤ qsz (Q.getD t []) := by
  have key : ∀ L : List It, x ∈ L → isz x ≤ qsz L := by
    intro L
    induction L with
    | nil => intro h; cases h
    | cons y L ih =>
      intro h
      rw [qsz_cons]
      cases h with
      | head => omega
      | tail _ h => have := ih h; omega
  exact key _ hx
theorem qu_first_not (H : Sat G w (quA q Q B I :: l)) (hw : QWf Q B I) (t : Int) (h : qAt Q t = []) : Calls Try.prog 11 #[.pointer (some ⟨q, 0, none⟩), .int .i64 t] w fun e w' => e = .returned (.tuple #[.agg #[.int .i64 0, .slice none 0 0, .slice none 0 0], .int .i64 14]) ∧ Sat G w' (quA q Q B I :: l) := by
  refine calls_any fun K hK => ?_
  have S1 := H.newBlk #[.int .i64 0, .slice none 0 0, .slice none 0 0] 24
  have hl := qu_len S1.swap hw t
  rw [h] at hl
  have HS := Lib.hid S1
  clear H S1
  go_enter Try.func11, Try.ntmps11
  go_wp2_with fail
  (with_reducible refine hl.mono ?_)
  rintro e w1 ⟨rfl, rfl⟩
  go_wp2_with fail
  refine bodyPost_ret (results_cell_t rfl _ _ _ _ _ _ rfl (HS.out).blk_at Try.underlying24 rfl (by kernel_rfl)) rfl ?_
  exact hK.out _ _ ⟨rfl, HS.out.drop⟩
theorem qu_pop_not (H : Sat G w (quA q Q B I :: l)) (hw : QWf Q B I) (t : Int) (h : qAt Q t = []) : Calls Try.prog 13 #[.pointer (some ⟨q, 0, none⟩), .int .i64 t] w fun e w' => e = .returned (.tuple #[.agg #[.int .i64 0, .slice none 0 0, .slice none 0 0], .int .i64 14]) ∧ Sat G w' (quA q Q B I :: l) := by
  refine calls_any fun K hK => ?_
  have S1 := H.newBlk #[.int .i64 0, .slice none 0 0, .slice none 0 0] 24
  have hl := qu_len S1.swap hw t
  rw [h] at hl
  have HS := Lib.hid S1
  clear H S1
  go_enter Try.func13, Try.ntmps13
  go_wp2_with fail
  (with_reducible refine hl.mono ?_)
  rintro e w1 ⟨rfl, rfl⟩
  go_wp2_with fail
  refine bodyPost_ret (results_cell_t rfl _ _ _ _ _ _ rfl (HS.out).blk_at Try.underlying24 rfl (by kernel_rfl)) rfl ?_
  exact hK.out _ _ ⟨rfl, HS.out.drop⟩
set_option maxHeartbeats 4000000 in
set_option maxRecDepth 100000 in
theorem qu_first (H : Sat G w (quA q Q B I :: l)) (hw : QWf Q B I) (t : Nat) (x : It) (L : List It) (h : Q.getD t [] = x :: L) : Calls Try.prog 11 #[.pointer (some ⟨q, 0, none⟩), .int .i64 t] w fun e w' => ∃ u1 u2, e = .returned (.tuple #[.agg #[.int .i64 x.1, u1, u2], .int .i64 0]) ∧ Sat G w' (ownS 5 1 u1 x.2.1.length (x.2.1.map byteV) :: ownS 5 1 u2 x.2.2.length (x.2.2.map byteV) :: quA q Q B I :: l) := by
  refine calls_any fun K hK => ?_
  have ht : t < Q.length := by
    rcases Nat.lt_or_ge t Q.length with h' | h'
    · exact h'
    · rw [List.getD_eq_getElem?_getD, List.getElem?_eq_none h'] at h; cases h
  have hsb := it_bytes hw (t := t) (x := x) (by rw [h]; exact .head _)
  have hat := hw.at_ t
  have hb1 := hw.b1
  have hm64 := hw.m1
  unfold isz at hsb
  have S1 := H.newBlk #[.int .i64 0, .slice none 0 0, .slice none 0 0] 24
  have hl := qu_len S1.swap hw t
  rw [qAt_nat, h] at hl
  obtain ⟨M, g, cap, cur, ⟨xv, xL⟩, hM, hml, hL, hcap, hx, hxL, S⟩ := qu_open S1.swap t ht
  simp only at hxL
  obtain ⟨F, hF, hFo, S2⟩ := ln_iff.1 S
  simp only at hF S2
  subst hxL
  cases F with
  | nil => rw [h] at hF; cases hF
  | cons y F =>
    have hy : y.abs = x := by rw [h] at hF; simp at hF; exact hF.1
    obtain ⟨A, a, D, d, e1, e2⟩ := qe_slices (hFo y (.head _))
    have hyo := hFo y (.head _)
    obtain ⟨xn, hv, bv, hd, b⟩ := y
    simp only at e1 e2 hyo
    subst e1
    subst e2
    obtain ⟨gi, cpi, ci, rfl, hcpi, Li, S0⟩ := S2.layOpen qe_len (by simp)
    have hcp3 : cpi ≤ 9223372036854775807 := hcpi
    have hcp0 := Li.len
    subst hy
    simp only [Qe.abs] at hK hsb
    have q0 : (w.alloc (.cells #[.int .i64 0, .slice none 0 0, .slice none 0 0] 24)).cell? ⟨q, 0, none⟩ = some (.slice (some ⟨g, 0, none⟩) M.length cap) := S.pull2.cell 0
    obtain ⟨k0', -, -⟩ := lay_two hL hx
    simp only at k0'
    have k0 : (w.alloc (.cells #[.int .i64 0, .slice none 0 0, .slice none 0 0] 24)).cell? ⟨g, t * 2, none⟩ = some (.slice (some ⟨gi, 0, none⟩) (F.length + 1) cpi) := (S.swap.cell (t * 2)).trans k0'
    have d0 := (S0.cell _).trans (Li.get (i := 0) rfl (j := 0) (by decide))
    have d1 := (S0.cell _).trans (Li.get (i := 0) rfl (j := 1) (by decide))
    have d2 := (S0.cell _).trans (Li.get (i := 0) rfl (j := 2) (by decide))
    simp only [Qe.enc, List.getElem?_cons_zero, List.getElem?_cons_succ, Nat.zero_mul, Nat.zero_add] at d0 d1 d2
    have hso : isz (xn, hd, b) = hd.length + b.length := rfl
    have how := it_own S2 xn (.slice A hd.length a) (.slice D b.length d) hd b (fun W SW => hyo.1.sat SW) (fun W SW => hyo.2.sat SW) (by omega) (by omega)
    have HX := Lib.hid hx
    have HF := Lib.hid hF
    have HFO := Lib.hid hFo
    have HL := Lib.hid hL
    have hml2 : t < M.length := by omega
    clear S S0 S1 S2 H Li hL hF hFo hx k0' hyo hsb hat h
    go_enter Try.func11, Try.ntmps11
    go_wp2_with fail
    (with_reducible refine hl.mono ?_)
    clear hl
    rintro e w1 ⟨rfl, rfl⟩
    go_wp2_with fail
    (with_reducible refine how.mono ?_)
    clear how q0 k0 d0 d1 d2
    rintro e w2 ⟨u1, u2, rfl, S5⟩
    generalize w.heap.size = r at *
    obtain ⟨A1, c1, rfl, -, -, -⟩ := S5.ownForm
    obtain ⟨A2, c2, rfl, -, -, -⟩ := S5.swap.ownForm
    have T := qu_shut2 (S5.re [0, 1, 3, 4, 2]) rfl rfl hM hml2 (by rw [set_same HX.out]; exact HL.out) hcap HF.out HFO.out
    rw [set_getD ht] at T
    have T1 := T.pull3
    have r0 := T1.cell 0
    have r1 := T1.cell 1
    have r2 := T1.cell 2
    have f0 := T1.frozen 0
    have f1 := T1.frozen 1
    have f2 := T1.frozen 2
    have T2 := ((T1.setCell 0 (.int .i64 xn)).setCell 1 (.slice A1 hd.length c1)).setCell 2 (.slice A2 b.length c2)
    change Sat _ _ (blk r #[.int .i64 xn, .slice A1 hd.length c1, .slice A2 b.length c2] _ :: _) at T2
    have HT2 := Lib.hid T2
    clear S5 T T1 T2
    go_wp2_with fail
    refine bodyPost_ret (results_cell_t rfl _ _ _ _ _ _ rfl (HT2.out).blk_at Try.underlying24 rfl (by kernel_rfl)) rfl ?_
    exact hK.out _ _ ⟨_, _, rfl, HT2.out.drop.push2⟩
set_option maxHeartbeats 4000000 in
set_option maxRecDepth 100000 in
theorem qu_pop (H : Sat G w (quA q Q B I :: l)) (hw : QWf Q B I) (t : Nat) (x : It) (L : List It) (h : Q.getD t [] = x :: L) : Calls Try.prog 13 #[.pointer (some ⟨q, 0, none⟩), .int .i64 t] w fun e w' => ∃ u1 u2, e = .returned (.tuple #[.agg #[.int .i64 x.1, u1, u2], .int .i64 0]) ∧ Sat G w' (ownS 5 1 u1 x.2.1.length (x.2.1.map byteV) :: ownS 5 1 u2 x.2.2.length (x.2.2.map byteV) :: quA q (Q.set t L) B I :: l) := by
  refine calls_any fun K hK => ?_
  have ht : t < Q.length := by
    rcases Nat.lt_or_ge t Q.length with h' | h'
    · exact h'
    · rw [List.getD_eq_getElem?_getD, List.getElem?_eq_none h'] at h; cases h
  have hsb := it_bytes hw (t := t) (x := x) (by rw [h]; exact .head _)
  have hat := hw.at_ t
  have hb1 := hw.b1
  have hm64 := hw.m1
  unfold isz at hsb
  have S1 := H.newBlk #[.int .i64 0, .slice none 0 0, .slice none 0 0] 24
  have hl := qu_len S1.swap hw t
  rw [qAt_nat, h] at hl
  obtain ⟨M, g, cap, cur, ⟨xv, xL⟩, hM, hml, hL, hcap, hx, hxL, S⟩ := qu_open S1.swap t ht
  simp only at hxL
  obtain ⟨F, hF, hFo, S2⟩ := ln_iff.1 S
  simp only at hF S2
  subst hxL
  cases F with
  | nil => rw [h] at hF; cases hF
  | cons y F =>
    have hy : y.abs = x := by rw [h] at hF; simp at hF; exact hF.1
    obtain ⟨A, a, D, d, e1, e2⟩ := qe_slices (hFo y (.head _))
    have hyo := hFo y (.head _)
    obtain ⟨xn, hv, bv, hd, b⟩ := y
    simp only at e1 e2 hyo
    subst e1
    subst e2
    obtain ⟨gi, cpi, ci, rfl, hcpi, Li, S0⟩ := S2.layOpen qe_len (by simp)
    have hcp3 : cpi ≤ 9223372036854775807 := hcpi
    have hcp0 := Li.len
    subst hy
    simp only [Qe.abs] at hK hsb
    have q0 : (w.alloc (.cells #[.int .i64 0, .slice none 0 0, .slice none 0 0] 24)).cell? ⟨q, 0, none⟩ = some (.slice (some ⟨g, 0, none⟩) M.length cap) := S.pull2.cell 0
    obtain ⟨k0', -, -⟩ := lay_two hL hx
    simp only at k0'
    have k0 : (w.alloc (.cells #[.int .i64 0, .slice none 0 0, .slice none 0 0] 24)).cell? ⟨g, t * 2, none⟩ = some (.slice (some ⟨gi, 0, none⟩) (F.length + 1) cpi) := (S.swap.cell (t * 2)).trans k0'
    have d0 := (S0.cell _).trans (Li.get (i := 0) rfl (j := 0) (by decide))
    have d1 := (S0.cell _).trans (Li.get (i := 0) rfl (j := 1) (by decide))
    have d2 := (S0.cell _).trans (Li.get (i := 0) rfl (j := 2) (by decide))
    simp only [Qe.enc, List.getElem?_cons_zero, List.getElem?_cons_succ, Nat.zero_mul, Nat.zero_add] at d0 d1 d2
    have hso : isz (xn, hd, b) = hd.length + b.length := rfl
    have hof := qu_of q0 t (by omega) (by omega)
    have hlt : t < M.length := by omega
    have hgn := ln_gone (i := 0) (z := qsz (Q.getD t [])) S2 k0' (lay_two hL hx).2.1 hFo (by have := hF; rw [h] at this; have h2 := congrArg List.length this; simp at h2; have h3 := hat.2; have h4 := hw.i1; rw [h] at h3; simp at h3 ⊢; omega) rfl (by show hd.length + b.length ≤ _; omega) (by omega)
    rw [show ((0 : Nat) : Int) = 0 from rfl, show isz (Qe.abs ⟨xn, .slice A hd.length a, .slice D b.length d, hd, b⟩) = hd.length + b.length from rfl] at hgn
    have hown := fun {W : World} {l' : List Asrt} (S : Sat G W l') => it_own S xn (.slice A hd.length a) (.slice D b.length d) hd b (fun W SW => hyo.1.sat SW) (fun W SW => hyo.2.sat SW) (by omega) (by omega)
    have hLF : F.map Qe.abs = L := by rw [h] at hF; simp at hF; exact hF
    have HLF := Lib.hid hLF
    have HLP := Lib.hid fun (v : Value) (z : Int) (hz : z = (qsz L : Nat)) => lay_put hL hlt ⟨v, L⟩ z hz
    have HQZ : Hid (qsz (Q.getD t []) = hd.length + b.length + qsz L) := Lib.hid (by rw [h, qsz_cons]; rfl)
    have HFO2 : Hid (∀ e ∈ F, e.ok G.ro) := Lib.hid fun e he => hFo e (.tail _ he)
    have hml2 : t < M.length := by omega
    clear S S0 S1 S2 H Li hL hF hFo hx k0' hyo hsb hat h hLF
    go_enter Try.func13, Try.ntmps13
    go_wp2_with fail
    (with_reducible refine hl.mono ?_)
    clear hl
    rintro e w1 ⟨rfl, rfl⟩
    go_wp2_with fail
    (with_reducible refine hof.mono ?_)
    clear hof
    rintro e w1 ⟨rfl, rfl⟩
    go_wp2_with fail
    (with_reducible refine hgn.mono ?_)
    clear hgn q0 k0 d0 d1 d2
    rintro e w2 ⟨v', rfl, S4⟩
    simp only [Qe.enc]
    have how := hown S4
    clear S4 hown
    go_wp2_with fail
    (with_reducible refine how.mono ?_)
    clear how
    rintro e w3 ⟨u1, u2, rfl, S5⟩
    generalize w.heap.size = r at *
    obtain ⟨A1, c1, rfl, -, -, -⟩ := S5.ownForm
    obtain ⟨A2, c2, rfl, -, -, -⟩ := S5.swap.ownForm
    have T := qu_shut2 (F := F) (S5.re [0, 1, 3, 4, 2]) rfl (by simp) hM hml2 (HLP.out _ _ (by have := HQZ.out; omega)) hcap HLF.out HFO2.out
    have T1 := T.pull3
    have r0 := T1.cell 0
    have r1 := T1.cell 1
    have r2 := T1.cell 2
    have f0 := T1.frozen 0
    have f1 := T1.frozen 1
    have f2 := T1.frozen 2
    have T2 := ((T1.setCell 0 (.int .i64 xn)).setCell 1 (.slice A1 hd.length c1)).setCell 2 (.slice A2 b.length c2)
    change Sat _ _ (blk r #[.int .i64 xn, .slice A1 hd.length c1, .slice A2 b.length c2] _ :: _) at T2
    have HT2 := Lib.hid T2
    clear S5 T T1 T2
    go_wp2_with fail
    refine bodyPost_ret (results_cell_t rfl _ _ _ _ _ _ rfl (HT2.out).blk_at Try.underlying24 rfl (by kernel_rfl)) rfl ?_
    exact hK.out _ _ ⟨_, _, rfl, HT2.out.drop.push2⟩
end
end Go.Proofs.Ytidaafpfkbfiaaa
