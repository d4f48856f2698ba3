/- The walk over Cut. -/
import Derived.Test.YtidaafpfkbfiaaaFirst
set_option linter.unusedSimpArgs false
set_option linter.unusedVariables false
namespace Go.Proofs.Ytidaafpfkbfiaaa
open Go.RowKit

section
variable {G : Gnd} {w w' : World} {l : List Asrt} {q : Nat} {Q : List (List It)} {B I : Int}
theorem qu_cut_none (H : Sat G w (quA q Q B I :: l)) (hw : QWf Q B I) (t n : Int) (h : qAt Q t = []) : Calls Try.prog 21 #[.pointer (some ⟨q, 0, none⟩), .int .i64 t, .int .i64 n] w fun e w' => e = .returned (.tuple #[.slice none 0 0, .int .i64 14]) ∧ w = w' := by
  refine calls_any fun K hK => ?_
  have hl := qu_len H hw t
  rw [h] at hl
  clear H
  go_enter Try.func21, Try.ntmps21
  go_wp2_with fail
  (with_reducible refine hl.mono ?_)
  rintro e w1 ⟨rfl, rfl⟩
  go_wp2_with fail
  exact hK.out _ _ ⟨rfl, rfl⟩
theorem set_self' {cs : Array Value} {i : Nat} {v : Value} (h : cs[i]? = some v) : cs.setIfInBounds i v = cs := by
  apply Array.ext_getElem?
  intro j
  rw [Array.getElem?_setIfInBounds]
  split
  · rename_i e
    subst e
    split
    · exact h.symm
    · rw [Array.getElem?_eq_none (by omega)] at h; cases h
  · rfl
def cutQ (Q : List (List It)) (t : Nat) (x : It) (L : List It) (n : Nat) : List (List It) := Q.set t ((x.1, x.2.1, x.2.2.drop n) :: L)
theorem qu_cut_not (H : Sat G w (quA q Q B I :: l)) (hw : QWf Q B I) (t : Nat) (n : Int) (x : It) (L : List It) (h : Q.getD t [] = x :: L) (hn : n < 0 ∨ (x.2.2.length : Int) < n) : Calls Try.prog 21 #[.pointer (some ⟨q, 0, none⟩), .int .i64 t, .int .i64 n] w fun e w' => e = .returned (.tuple #[.slice none 0 0, .int .i64 11]) ∧ w = w' := by
  refine calls_any fun K hK => ?_
  have ht : t < Q.length := by
    rcases Nat.lt_or_ge t Q.length with h' | h'
    · exact h'
    · rw [List.getD_eq_getElem?_getD, List.getElem?_eq_none h'] at h; cases h
  have hsb := it_bytes hw (t := t) (x := x) (by rw [h]; exact .head _)
  have hat := hw.at_ t
  have hb1 := hw.b1
  have hm64 := hw.m1
  unfold isz at hsb
  have hl := qu_len H hw t
  rw [qAt_nat, h] at hl
  obtain ⟨M, g, cap, cur, ⟨xv, xL⟩, hM, hml, hL, hcap, hx, hxL, S⟩ := qu_open H t ht
  simp only at hxL
  obtain ⟨F, hF, hFo, S2⟩ := ln_iff.1 S
  simp only at hF S2
  subst hxL
  cases F with
  | nil => rw [h] at hF; cases hF
  | cons y F =>
    have hy : y.abs = x := by rw [h] at hF; simp at hF; exact hF.1
    obtain ⟨A, a, D, d, e1, e2⟩ := qe_slices (hFo y (.head _))
    have hyo := hFo y (.head _)
    obtain ⟨xn, hv, bv, hd, b⟩ := y
    simp only at e1 e2 hyo
    subst e1
    subst e2
    obtain ⟨gi, cpi, ci, rfl, hcpi, Li, S0⟩ := S2.layOpen qe_len (by simp)
    have hcp3 : cpi ≤ 9223372036854775807 := hcpi
    have hcp0 := Li.len
    subst hy
    simp only [Qe.abs] at hK hsb hn
    have q0 : w.cell? ⟨q, 0, none⟩ = some (.slice (some ⟨g, 0, none⟩) M.length cap) := S.pull2.cell 0
    have hk0 := lay_two hL hx
    simp only at hk0
    obtain ⟨k0', k1', ksz⟩ := hk0
    have k0 : w.cell? ⟨g, t * 2, none⟩ = some (.slice (some ⟨gi, 0, none⟩) (F.length + 1) cpi) := (S.swap.cell (t * 2)).trans k0'
    have d2 := (S0.cell _).trans (Li.get (i := 0) rfl (j := 2) (by decide))
    simp only [Qe.enc, List.getElem?_cons_zero, List.getElem?_cons_succ, Nat.zero_mul, Nat.zero_add] at d2
    have hof := qu_of q0 t (by omega) (by omega)
    have hlt : t < M.length := by omega
    clear S S0 S2 H Li hL hF hFo hx k0' k1' hyo
    by_cases hn0 : n < 0
    · clear hn
      go_enter Try.func21, Try.ntmps21
      go_wp2_with fail
      (with_reducible refine hl.mono ?_)
      clear hl
      rintro e w1 ⟨rfl, rfl⟩
      go_wp2_with fail
      (with_reducible refine hof.mono ?_)
      clear hof
      rintro e w1 ⟨rfl, rfl⟩
      go_wp2_with fail
      exact hK.out _ _ ⟨rfl, rfl⟩
    · have hn1 : (b.length : Int) < n := by omega
      go_enter Try.func21, Try.ntmps21
      go_wp2_with fail
      (with_reducible refine hl.mono ?_)
      clear hl
      rintro e w1 ⟨rfl, rfl⟩
      go_wp2_with fail
      (with_reducible refine hof.mono ?_)
      clear hof
      rintro e w1 ⟨rfl, rfl⟩
      go_wp2_with fail
      exact hK.out _ _ ⟨rfl, rfl⟩
set_option maxHeartbeats 4000000 in
set_option maxRecDepth 100000 in
theorem qu_cut (H : Sat G w (quA q Q B I :: l)) (hw : QWf Q B I) (t n : Nat) (x : It) (L : List It) (h : Q.getD t [] = x :: L) (hn : n ≤ x.2.2.length) : Calls Try.prog 21 #[.pointer (some ⟨q, 0, none⟩), .int .i64 t, .int .i64 n] w fun e w' => ∃ u, e = .returned (.tuple #[u, .int .i64 0]) ∧ Sat G w' (ownS 5 1 u n ((x.2.2.take n).map byteV) :: quA q (Q.set t ((x.1, x.2.1, x.2.2.drop n) :: L)) B I :: l) := by
  refine calls_any fun K hK => ?_
  have ht : t < Q.length := by
    rcases Nat.lt_or_ge t Q.length with h' | h'
    · exact h'
    · rw [List.getD_eq_getElem?_getD, List.getElem?_eq_none h'] at h; cases h
  have hsb := it_bytes hw (t := t) (x := x) (by rw [h]; exact .head _)
  have hat := hw.at_ t
  have hb1 := hw.b1
  have hm64 := hw.m1
  unfold isz at hsb
  have hl := qu_len H hw t
  rw [qAt_nat, h] at hl
  obtain ⟨M, g, cap, cur, ⟨xv, xL⟩, hM, hml, hL, hcap, hx, hxL, S⟩ := qu_open H t ht
  simp only at hxL
  obtain ⟨F, hF, hFo, S2⟩ := ln_iff.1 S
  simp only at hF S2
  subst hxL
  cases F with
  | nil => rw [h] at hF; cases hF
  | cons y F =>
    have hy : y.abs = x := by rw [h] at hF; simp at hF; exact hF.1
    obtain ⟨A, a, D, d, e1, e2⟩ := qe_slices (hFo y (.head _))
    have hyo := hFo y (.head _)
    obtain ⟨xn, hv, bv, hd, b⟩ := y
    simp only at e1 e2 hyo
    subst e1
    subst e2
    obtain ⟨gi, cpi, ci, rfl, hcpi, Li, S0⟩ := S2.layOpen qe_len (by simp)
    have hcp3 : cpi ≤ 9223372036854775807 := hcpi
    have hcp0 := Li.len
    subst hy
    simp only [Qe.abs] at hK hsb hn
    have q0 : w.cell? ⟨q, 0, none⟩ = some (.slice (some ⟨g, 0, none⟩) M.length cap) := S.pull2.cell 0
    have hk0 := lay_two hL hx
    simp only at hk0
    obtain ⟨k0', k1', ksz⟩ := hk0
    have k0 : w.cell? ⟨g, t * 2, none⟩ = some (.slice (some ⟨gi, 0, none⟩) (F.length + 1) cpi) := (S.swap.cell (t * 2)).trans k0'
    have d2 := (S0.cell _).trans (Li.get (i := 0) rfl (j := 2) (by decide))
    simp only [Qe.enc, List.getElem?_cons_zero, List.getElem?_cons_succ, Nat.zero_mul, Nat.zero_add] at d2
    have hof := qu_of q0 t (by omega) (by omega)
    have hlt : t < M.length := by omega
    have hFa : F.map Qe.abs = L := by rw [h] at hF; simp at hF; exact hF
    have hqz : qsz (Q.getD t []) = hd.length + b.length + qsz L := by rw [h, qsz_cons]; rfl
    have hdf := hyo.2.form
    obtain ⟨D', d', e0, hd1, hd2, hd3⟩ := hdf
    cases e0
    have hd4 : d ≤ 9223372036854775807 := hd2
    change b.length ≤ d at hd1
    change d ≤ maxLen at hd2
    change D = none → d = 0 at hd3
    have hto : SlB (cellR G.ro) (.slice D n d) (b.take n) := hyo.2.to n hn d (by omega) (Nat.le_refl _)
    have hfr : SlB (cellR G.ro) (.slice (fromA D d n) (b.length - n) (d - n)) (b.drop n) := hyo.2.from n hn
    have hcl := bytes_clone S0 (.slice D n d) (b.take n) (by have := (hto.sat S0).1; rw [List.length_take, Nat.min_eq_left hn] at this ⊢; exact this) (by rw [List.length_take]; omega)
    rw [List.length_take, Nat.min_eq_left hn] at hcl
    have LI2 := Lib.hid fun (v : Value) => Li.set (i := 0) (by simp) (⟨xn, .slice A hd.length a, v, hd, b.drop n⟩ : Qe)
    simp only [List.set_cons_zero] at LI2
    have g0 : ci[0]? = some (.int .i64 xn) := Li.get (i := 0) rfl (j := 0) (by decide)
    have g1 : ci[1]? = some (.slice A hd.length a) := Li.get (i := 0) rfl (j := 1) (by decide)
    have LI3 := Lib.hid fun (v : Value) => (show setMid ci 0 [.int .i64 xn, .slice A hd.length a, v] = ci.setIfInBounds 2 v by simp only [setMid]; rw [set_self' g0, set_self' g1])
    have hg2 : ci[2]? = some (.slice D b.length d) := Li.get (i := 0) rfl (j := 2) (by decide)
    have HG2 := Lib.hid hg2
    clear g0 g1 hg2
    have HLP := Lib.hid fun (z : Int) (hz : z = (qsz ((xn, hd, b.drop n) :: L) : Nat)) => lay_put hL hlt ⟨.slice (some ⟨gi, 0, none⟩) (F.length + 1) cpi, (xn, hd, b.drop n) :: L⟩ z hz
    have hzd : qsz ((xn, hd, b.drop n) :: L) = qsz (Q.getD t []) - n := by rw [hqz, qsz_cons]; simp only [isz, List.length_drop]; omega
    have hzn : n ≤ qsz (Q.getD t []) := by omega
    have HZD := Lib.hid hzd
    have hzz : qsz (Q.getD t []) ≤ 1048576 := by omega
    have HC0 := Lib.hid (show cur[t * 2]? = some (.slice (some ⟨gi, 0, none⟩) (F.length + 1) cpi) from k0')
    have HC1 := Lib.hid k1'
    have HFR := Lib.hid hfr
    have HYO := Lib.hid hyo
    have HFA := Lib.hid hFa
    have HFO := Lib.hid hFo
    have hszi : 3 ≤ ci.size := by have := Li.room (i := 0) (by simp); omega
    have HCP := Lib.hid hcpi
    have HCAP := Lib.hid hcap
    clear S S0 S2 H Li hL hF hFo hx k0' k1' hyo hfr hto hzd hqz hFa hat h hsb hd2
    generalize qsz (Q.getD t []) = z at *
    obtain ⟨bl, hbl⟩ : ∃ bl, bl = b.length := ⟨_, rfl⟩
    rw [← hbl] at d2 hn hd1 HFR HG2
    clear hbl
    have hn2 : (n : Int) ≤ bl := by omega
    have hwz : IntKind.i64.wrap ((z : Int) - n) = ((z - n : Nat) : Int) := by rw [IntWalk.i64_in _ (by omega)]; omega
    cases D with
    | none =>
      obtain rfl := hd3 rfl
      obtain rfl : bl = 0 := by omega
      obtain rfl : n = 0 := by omega
      go_enter Try.func21, Try.ntmps21
      go_wp2_with fail
      (with_reducible refine hl.mono ?_)
      clear hl
      rintro e w1 ⟨rfl, rfl⟩
      go_wp2_with fail
      (with_reducible refine hof.mono ?_)
      clear hof
      rintro e w1 ⟨rfl, rfl⟩
      go_wp2_with fail
      (with_reducible refine hcl.mono ?_)
      clear hcl k0 d2 q0
      rintro e w2 ⟨u, rfl, S5⟩
      obtain ⟨A1, c1, rfl, -, -, -⟩ := S5.ownForm
      have g2 := (S5.swap.cell 2).trans HG2.out
      have f2 := S5.swap.frozen 2
      have S6 := S5.swap.setCell 2 (.slice none 0 0)
      clear S5
      go_upto_region 9 with fail
      refine wp_world S6 fun w3 S7 => ?_
      clear S6 g2 f2
      have k1 := (S7.pull2.cell (t * 2 + 1)).trans HC1.out
      have f1 := S7.pull2.frozen (t * 2 + 1)
      have S8 := S7.pull2.setCell (t * 2 + 1) (.int .i64 ((z - 0 : Nat) : Int))
      clear S7
      have HS8 := Lib.hid S8
      clear S8
      go_wp2_with fail
      refine hK.out _ _ ⟨_, rfl, ?_⟩
      have T := HS8.out.re [1, 0, 2]
      have LL := LI2.out (.slice none 0 0)
      change Lay Qe.enc 3 cpi (setMid ci (0 * 3) [.int .i64 xn, .slice A hd.length a, .slice none 0 0]) _ at LL
      rw [Nat.zero_mul, LI3.out] at LL
      have T2 := T.layClose LL HCP.out (F.length + 1) (by simp)
      have T3 := qu_shut2 (L' := (xn, hd, b.drop 0) :: L) (F := ⟨xn, .slice A hd.length a, .slice none 0 0, hd, b.drop 0⟩ :: F) ((Sat.pur_iff.2 ⟨trivial, T2.re [2, 1, 3, 0]⟩ : Sat G _ (pur True :: _)).swap) rfl (by simp) hM hlt (by have h1 := HLP.out ((z - 0 : Nat) : Int) (by rw [HZD.out]); rw [set_self' HC0.out] at h1; exact h1) HCAP.out (by rw [List.map_cons, HFA.out]; rfl) (fun e he => by
        rcases List.mem_cons.1 he with rfl | he
        · exact ⟨HYO.out.1, by have h2 := HFR.out; exact h2⟩
        · exact HFO.out e (.tail _ he))
      exact (T3.re [1, 0, 2]).pull2.drop
    | some ad =>
      clear hd3
      by_cases hdn : d = n
      · subst hdn
        obtain rfl : bl = d := by omega
        go_enter Try.func21, Try.ntmps21
        go_wp2_with fail
        (with_reducible refine hl.mono ?_)
        clear hl
        rintro e w1 ⟨rfl, rfl⟩
        go_wp2_with fail
        (with_reducible refine hof.mono ?_)
        clear hof
        rintro e w1 ⟨rfl, rfl⟩
        go_wp2_with fail
        (with_reducible refine hcl.mono ?_)
        clear hcl k0 d2 q0
        rintro e w2 ⟨u, rfl, S5⟩
        obtain ⟨A1, c1, rfl, -, -, -⟩ := S5.ownForm
        have g2 := (S5.swap.cell 2).trans HG2.out
        have f2 := S5.swap.frozen 2
        have S6 := S5.swap.setCell 2 (.slice (some ad) 0 0)
        clear S5
        go_upto_region 9 with fail
        refine wp_world S6 fun w3 S7 => ?_
        clear S6 g2 f2
        have k1 := (S7.pull2.cell (t * 2 + 1)).trans HC1.out
        have f1 := S7.pull2.frozen (t * 2 + 1)
        have S8 := S7.pull2.setCell (t * 2 + 1) (.int .i64 ((z - bl : Nat) : Int))
        clear S7
        have HS8 := Lib.hid S8
        clear S8
        go_wp2_with fail
        refine hK.out _ _ ⟨_, rfl, ?_⟩
        have T := HS8.out.re [1, 0, 2]
        have LL := LI2.out (.slice (some ad) 0 0)
        change Lay Qe.enc 3 cpi (setMid ci (0 * 3) [.int .i64 xn, .slice A hd.length a, .slice (some ad) 0 0]) _ at LL
        rw [Nat.zero_mul, LI3.out] at LL
        have T2 := T.layClose LL HCP.out (F.length + 1) (by simp)
        have T3 := qu_shut2 (L' := (xn, hd, b.drop bl) :: L) (F := ⟨xn, .slice A hd.length a, .slice (some ad) 0 0, hd, b.drop bl⟩ :: F) ((Sat.pur_iff.2 ⟨trivial, T2.re [2, 1, 3, 0]⟩ : Sat G _ (pur True :: _)).swap) rfl (by simp) hM hlt (by have h1 := HLP.out ((z - bl : Nat) : Int) (by rw [HZD.out]); rw [set_self' HC0.out] at h1; exact h1) HCAP.out (by rw [List.map_cons, HFA.out]; rfl) (fun e he => by
          rcases List.mem_cons.1 he with rfl | he
          · exact ⟨HYO.out.1, by have h2 := HFR.out; rw [show fromA (some ad) bl bl = some ad from if_pos rfl, Nat.sub_self] at h2; exact h2⟩
          · exact HFO.out e (.tail _ he))
        exact (T3.re [1, 0, 2]).pull2.drop
      · go_enter Try.func21, Try.ntmps21
        go_wp2_with fail
        (with_reducible refine hl.mono ?_)
        clear hl
        rintro e w1 ⟨rfl, rfl⟩
        go_wp2_with fail
        (with_reducible refine hof.mono ?_)
        clear hof
        rintro e w1 ⟨rfl, rfl⟩
        go_wp2_with fail
        (with_reducible refine hcl.mono ?_)
        clear hcl k0 d2 q0
        rintro e w2 ⟨u, rfl, S5⟩
        obtain ⟨A1, c1, rfl, -, -, -⟩ := S5.ownForm
        have g2 := (S5.swap.cell 2).trans HG2.out
        have f2 := S5.swap.frozen 2
        have S6 := S5.swap.setCell 2 (.slice (some (ad.add n)) (bl - n) (d - n))
        clear S5
        go_upto_region 9 with fail
        refine wp_world S6 fun w3 S7 => ?_
        clear S6 g2 f2
        have k1 := (S7.pull2.cell (t * 2 + 1)).trans HC1.out
        have f1 := S7.pull2.frozen (t * 2 + 1)
        have S8 := S7.pull2.setCell (t * 2 + 1) (.int .i64 ((z - n : Nat) : Int))
        clear S7
        have HS8 := Lib.hid S8
        clear S8
        go_wp2_with fail
        refine hK.out _ _ ⟨_, rfl, ?_⟩
        have T := HS8.out.re [1, 0, 2]
        have LL := LI2.out (.slice (some (ad.add n)) (bl - n) (d - n))
        change Lay Qe.enc 3 cpi (setMid ci (0 * 3) [.int .i64 xn, .slice A hd.length a, .slice (some (ad.add n)) (bl - n) (d - n)]) _ at LL
        rw [Nat.zero_mul, LI3.out] at LL
        have T2 := T.layClose LL HCP.out (F.length + 1) (by simp)
        have T3 := qu_shut2 (L' := (xn, hd, b.drop n) :: L) (F := ⟨xn, .slice A hd.length a, .slice (some (ad.add n)) (bl - n) (d - n), hd, b.drop n⟩ :: F) ((Sat.pur_iff.2 ⟨trivial, T2.re [2, 1, 3, 0]⟩ : Sat G _ (pur True :: _)).swap) rfl (by simp) hM hlt (by have h1 := HLP.out ((z - n : Nat) : Int) (by rw [HZD.out]); rw [set_self' HC0.out] at h1; exact h1) HCAP.out (by rw [List.map_cons, HFA.out]; rfl) (fun e he => by
          rcases List.mem_cons.1 he with rfl | he
          · exact ⟨HYO.out.1, by have h2 := HFR.out; rw [show fromA (some ad) d n = some (ad.add n) from by (unfold fromA; rw [if_neg hdn]; rfl)] at h2; exact h2⟩
          · exact HFO.out e (.tail _ he))
        exact (T3.re [1, 0, 2]).pull2.drop
end
end Go.Proofs.Ytidaafpfkbfiaaa
