/- The walk over Put. -/
import Derived.Test.YtidaafpfkbfiaaaNew
import Derived.Test.YtidaafpfkbfiaaaMiss
set_option linter.unusedSimpArgs false
set_option linter.unusedVariables false
namespace Go.Proofs.Ytidaafpfkbfiaaa
open Go.RowKit

def putQ (Q : List (List It)) (B I t : Int) (x : It) : List (List It) × Int :=
  if t < 0 ∨ (Q.length : Int) ≤ t then (Q, 11)
  else if I ≤ (qAt Q t).length ∨ B < (qsz (qAt Q t) : Int) + isz x then (Q, 33)
  else (Q.set t.toNat (qAt Q t ++ [x]), 0)
theorem putQ_wf {Q : List (List It)} {B I t : Int} {x : It} (h : QWf Q B I) : QWf (putQ Q B I t x).1 B I := by
  unfold putQ
  by_cases h1 : t < 0 ∨ (Q.length : Int) ≤ t
  · rw [if_pos h1]; exact h
  rw [if_neg h1]
  by_cases h2 : I ≤ (qAt Q t).length ∨ B < (qsz (qAt Q t) : Int) + isz x
  · rw [if_pos h2]; exact h
  rw [if_neg h2]
  refine h.set _ _ ?_ ?_
  · rw [qsz_append, qsz_cons, qsz_nil]; omega
  · rw [List.length_append]; simp; omega
theorem info_it : (Try.prog.info? 24).map (fun i => (i.zero, i.size, i.bytes)) = some (some (.agg #[.int .i64 0, .slice none 0 0, .slice none 0 0]), 3, 56) := by kernel_rfl
theorem lay_two {M : List Ln} {cap t : Nat} {cur : Array Value} {x : Ln} (hL : Lay lenc 2 cap cur M) (hx : M[t]? = some x) : cur[t * 2]? = some x.v ∧ cur[t * 2 + 1]? = some (.int .i64 (qsz x.L)) ∧ t * 2 + 1 < cur.size := by
  have h0 := hL.get hx (j := 0) (by decide)
  have h1 := hL.get hx (j := 1) (by decide)
  have h2 := hL.room (i := t) (List.getElem?_eq_some_iff.1 hx).1
  exact ⟨by simpa [lenc] using h0, by simpa [lenc] using h1, by omega⟩
theorem lay_put {M : List Ln} {cap t : Nat} {cur : Array Value} (hL : Lay lenc 2 cap cur M) (ht : t < M.length) (x : Ln) (z : Int) (hz : z = (qsz x.L : Nat)) : Lay lenc 2 cap ((cur.setIfInBounds (t * 2) x.v).setIfInBounds (t * 2 + 1) (.int .i64 z)) (M.set t x) := by
  subst hz
  exact hL.set ht x
section
variable {G : Gnd} {w w' : World} {l : List Asrt} {q : Nat} {Q : List (List It)} {B I : Int}
theorem restA_gone {M : List Ln} {t : Nat} (S : Sat G w (restA M t l)) : Sat G w l := Sat.dropL _ (Sat.dropL _ S)
theorem qu_shut {M : List Ln} {g cap m : Nat} {cur : Array Value} {v : Value} {F : List Qe} {L' : List It} {t N : Nat} (S : Sat G w (blk g cur 62 :: blk q #[.slice (some ⟨g, 0, none⟩) m cap, .int .i64 B, .int .i64 I] 57 :: ownS 24 3 v N (encs Qe.enc F) :: ((M.take t).map lnA ++ ((M.drop (t + 1)).map lnA ++ l))))
    (hm : m = M.length) (hN : N = F.length) (hM : M.map Ln.L = Q) (ht : t < M.length) (hL : Lay lenc 2 cap cur (M.set t ⟨v, L'⟩)) (hc : cap ≤ maxLen) (hF : F.map Qe.abs = L') (hFo : ∀ e ∈ F, e.ok G.ro) : Sat G w (quA q (Q.set t L') B I :: l) := by
  subst hN
  exact qu_close (x := ⟨v, L'⟩) (ln_iff.2 ⟨F, hF, hFo, S.pull2⟩) hm hM ht hL hc
theorem set_same {α : Type} {M : List α} {t : Nat} {x : α} (h : M[t]? = some x) : M.set t x = M := by
  have ht := (List.getElem?_eq_some_iff.1 h).1
  have he := (List.getElem?_eq_some_iff.1 h).2
  apply List.ext_getElem?
  intro k
  by_cases hk : k = t
  · subst hk; rw [List.getElem?_set_self ht, h]
  · rw [List.getElem?_set_ne (by omega)]
theorem set_getD {Q : List (List It)} {t : Nat} (h : t < Q.length) : Q.set t (Q.getD t []) = Q := set_same (by rw [List.getD_eq_getElem?_getD, List.getElem?_eq_getElem h]; rfl)
def HN6 (f : Nat → Bool) : Prop := (f 7 = true → f 6 = true) ∧ (f 8 = true → f 7 = true) ∧ (f 8 = true → f 4 = true) ∧ (f 11 = true → f 8 = true)
def HN7 (f : Nat → Bool) : Prop := f 9 = true → f 3 = true
set_option maxHeartbeats 8000000 in
set_option maxRecDepth 100000 in
theorem qu_put (H : Sat G w (quA q Q B I :: l)) (hw : QWf Q B I) (t : Int) (n : Int) (hv bv : Value) (h b : List UInt8) (hh : ∀ W, Sat G W l → SlB W.cell? hv h) (hb : ∀ W, Sat G W l → SlB W.cell? bv b) (h1 : h.length ≤ 140737488355328) (h2 : b.length ≤ 140737488355328) :
    Calls Try.prog 10 #[.pointer (some ⟨q, 0, none⟩), .int .i64 t, .agg #[.int .i64 n, hv, bv]] w fun e w' => ∃ G', G.le G' ∧ e = .returned (.int .i64 (putQ Q B I t (n, h, b)).2) ∧ Sat G' w' (quA q (putQ Q B I t (n, h, b)).1 B I :: l) := by
  refine calls_any fun K hK => ?_
  have HH := Lib.hid hh
  have HB := Lib.hid hb
  obtain ⟨A, c, rfl, -, -, -⟩ := (hh w H.drop).form
  obtain ⟨D, d, rfl, -, -, -⟩ := (hb w H.drop).form
  clear hh hb
  have S1 := H.newBlk #[.int .i64 n, .slice A h.length c, .slice D b.length d] 24
  unfold putQ at hK
  by_cases ht : t < 0 ∨ (Q.length : Int) ≤ t
  · rw [if_pos ht] at hK
    obtain ⟨X, cap, hc⟩ := qu_lines S1.swap
    have ho := qu_of_not (v := .bool true) hc t ht
    have HS := Lib.hid S1.drop
    clear H S1 hc ht
    go_enter Try.func10, Try.ntmps10
    go_wp2_with fail
    (with_reducible refine ho.mono ?_)
    rintro e w1 ⟨rfl, rfl⟩
    go_wp2_with fail
    exact hK.out _ _ ⟨G, Gnd.le.rfl', rfl, HS.out⟩
  rw [if_neg ht] at hK
  obtain ⟨t, rfl⟩ : ∃ j : Nat, t = j := ⟨t.toNat, by omega⟩
  rw [qAt_nat] at hK
  have hat := hw.at_ t
  obtain ⟨M, g, cap, cur, x, hM, hl, hL, hcap, hx, hxL, S⟩ := qu_open S1.swap t (by omega)
  have hc : (w.alloc (.cells #[.int .i64 n, .slice A h.length c, .slice D b.length d] 24)).cell? ⟨q, 0, none⟩ = some (.slice (some ⟨g, 0, none⟩) M.length cap) := S.pull2.cell 0
  have ho := qu_of hc t (by omega) (by rw [hl]; exact hw.m1)
  obtain ⟨F, hF, hFo, S2⟩ := ln_iff.1 S
  obtain ⟨xv, xL⟩ := x
  simp only at hF hxL S2
  subst hxL
  obtain ⟨X, cx, hxv, hcx1, hcx2, -⟩ := S2.ownSlice
  subst hxv
  obtain ⟨e0, e1, e2⟩ := lay_two hL hx
  simp only at e0 e1
  have hfl : F.length = (Q.getD t []).length := by rw [← hF, List.length_map]
  have hb0 := hw.b0
  have hb1 := hw.b1
  have hi1 := hw.i1
  have hml : M.length ≤ 64 := by rw [hl]; exact hw.m1
  have HML := Lib.hid hl
  have hit : isz (n, h, b) = h.length + b.length := rfl
  have HC0 := Lib.hid e0
  have HC1 := Lib.hid e1
  have hP : Sat G (w.alloc (.cells #[.int .i64 n, .slice A h.length c, .slice D b.length d] 24)) (blk w.heap.size #[.int .i64 n, .slice A h.length c, .slice D b.length d] 24 :: blk g cur 62 :: blk q #[.slice (some ⟨g, 0, none⟩) M.length cap, .int .i64 B, .int .i64 I] 57 :: (ownS 24 3 (.slice X F.length cx) F.length (encs Qe.enc F) :: ((M.take t).map lnA ++ ((M.drop (t + 1)).map lnA ++ l)))) := by
    have S3 : Sat G (w.alloc (.cells #[.int .i64 n, .slice A h.length c, .slice D b.length d] 24)) (([ownS 24 3 (.slice X F.length cx) F.length (encs Qe.enc F), blk g cur 62, blk q #[.slice (some ⟨g, 0, none⟩) M.length cap, .int .i64 B, .int .i64 I] 57] ++ ((M.take t).map lnA ++ (M.drop (t + 1)).map lnA)) ++ blk w.heap.size #[.int .i64 n, .slice A h.length c, .slice D b.length d] 24 :: l) := by simpa [restA] using S2
    have S4 := S3.mid.re [0, 2, 3, 1]
    simpa using S4
  clear S1 S S2 H e0 e1 hc hcx1
  rw [hit, ← hfl] at hK
  obtain ⟨sx, hsx⟩ : ∃ sx, sx = h.length + b.length := ⟨_, rfl⟩
  rw [← hsx] at hK
  have HSX : Hid (h.length + b.length = sx) := Lib.hid hsx.symm
  have HXS := Lib.hid hF
  clear hit
  have HFL := Lib.hid hfl
  rw [← hfl] at hat
  obtain ⟨N, hN⟩ : ∃ N, N = F.length := ⟨_, rfl⟩
  obtain ⟨z, hz⟩ : ∃ z, z = qsz (Q.getD t []) := ⟨_, rfl⟩
  rw [← hN] at hP HC0 hat hK
  rw [← hz] at HC1 hK hat
  obtain ⟨m, hm⟩ : ∃ m, m = M.length := ⟨_, rfl⟩
  rw [← hm] at hP hml
  have HM2 := Lib.hid hm
  have HN0 := Lib.hid hN
  have HZ := Lib.hid hz
  clear hN hz hm hfl hl hF
  obtain ⟨l2, hl2⟩ : ∃ l2, l2 = ownS 24 3 (.slice X N cx) N (encs Qe.enc F) :: ((M.take t).map lnA ++ ((M.drop (t + 1)).map lnA ++ l)) := ⟨_, rfl⟩
  rw [← hl2] at hP
  have HL2 := Lib.hid hl2
  clear hl2
  have hsx1 : sx ≤ 281474976710656 := by omega
  clear hsx
  obtain ⟨ha1, ha2⟩ := hat
  have hwz : IntKind.i64.wrap ((z : Int) + sx) = (z : Int) + sx := IntWalk.i64_in _ (by omega)
  by_cases hq1 : I ≤ (N : Int)
  · rw [if_pos (Or.inl hq1)] at hK
    have hd1 : decide ((N : Int) ≥ I) = true := decide_eq_true hq1
    go_enter Try.func10, Try.ntmps10
    go_wp2_with fail
    (with_reducible refine ho.mono ?_)
    rintro e w1 ⟨rfl, rfl⟩
    go_upto_region 4 with fail
    generalize w.heap.size = p at *
    refine wp_world hP fun w2 S5 => ?_
    clear hP ho
    refine wp_act fun a0 ha0 => ?_
    have HSZ : a0.tmps.size = 59 := by rw [ha0]; rfl
    have E0 : a0.eval (.tmp 0) = .pointer (some ⟨q, 0, none⟩) := by rw [ha0]; rfl
    have E5 : a0.eval (.tmp 5) = .pointer (some ⟨p, 0, none⟩) := by rw [ha0]; rfl
    have E7 : a0.eval (.tmp 7) = .pointer (some ⟨g, t * 2, none⟩) := by rw [ha0]; rfl
    refine wp_region_sat (by kernel_rfl) 25 (by kernel_rfl) [[], [0], [1], [2], [3], [], [5], [6], [7], [4, 8], [9], [10], [11, 10], [12, 10], [13, 10], [10], [15, 10, 10], [14, 16, 10], [10], [18, 10], [19, 10], [20, 10], [17, 21, 10], [10, 22], [23, 16]] (by kernel_rfl) (by kernel_rfl) [(0, 15, .pointer (some ⟨g, t * 2, none⟩)), (1, 16, .pointer (some ⟨g, t * 2, none⟩)), (2, 17, .pointer (some ⟨g, t * 2, none⟩)), (3, 18, .slice X N cx), (4, 19, .int .i64 N), (5, 20, .pointer (some ⟨q, 0, none⟩)), (6, 21, .pointer (some ⟨q, 0, none⟩)), (7, 22, .pointer (some ⟨q, 2, none⟩)), (8, 23, .int .i64 I), (9, 24, .bool true), (10, 25, .bool true), (11, 26, undef), (12, 27, undef), (13, 28, undef), (14, 29, undef), (15, 30, undef), (16, 31, undef), (17, 32, undef), (18, 33, undef), (19, 34, undef), (20, 35, undef), (21, 36, undef), (22, 37, undef), (23, 38, .bool true), (24, 14, .bool true)] (fun _ => blk p #[.int .i64 n, .slice A h.length c, .slice D b.length d] 24 :: blk g cur 62 :: blk q #[.slice (some ⟨g, 0, none⟩) m cap, .int .i64 B, .int .i64 I] 57 :: l2) (by kernel_rfl) S5 ?_ ?_
    · refine ⟨?_, ?_, ?_, ?_, ?_, ?_, ?_, ?_, ?_, ?_, ?_, ?_, ?_, ?_, ?_, ?_, ?_, ?_, ?_, ?_, ?_, ?_, ?_, ?_, ?_, trivial⟩
      · intro f W h0 hd S
        refine wpOp_run (v := .pointer (some ⟨g, t * 2, none⟩)) rfl rfl (fun ρ hρ => ?_) ⟨(acts_some 0 rfl (by kernel_rfl) (by kernel_rfl)).symm, S⟩
        have e0 : ρ (.tmp 7) = .pointer (some ⟨g, t * 2, none⟩) := by rw [hρ]; exact (acts_eval_tmp 7 (by kernel_rfl)).trans E7
        clear hρ
        go_simp
      · intro f W h1 hd S
        refine wpOp_run (v := .pointer (some ⟨g, t * 2, none⟩)) rfl rfl (fun ρ hρ => ?_) ⟨(acts_some 1 rfl (by kernel_rfl) (by kernel_rfl)).symm, S⟩
        have e0 : ρ (.tmp 15) = .pointer (some ⟨g, t * 2, none⟩) := by rw [hρ]; exact acts_eval_hit 0 rfl hd.1 (by rw [HSZ]; rfl) (by kernel_rfl)
        clear hρ
        go_simp
      · intro f W h2 hd S
        refine wpOp_run (v := .pointer (some ⟨g, t * 2, none⟩)) rfl rfl (fun ρ hρ => ?_) ⟨(acts_some 2 rfl (by kernel_rfl) (by kernel_rfl)).symm, S⟩
        have e0 : ρ (.tmp 16) = .pointer (some ⟨g, t * 2, none⟩) := by rw [hρ]; exact acts_eval_hit 1 rfl hd.1 (by rw [HSZ]; rfl) (by kernel_rfl)
        clear hρ
        go_simp
      · intro f W h3 hd S
        refine wpOp_run (v := .slice X N cx) rfl rfl (fun ρ hρ => ?_) ⟨(acts_some 3 rfl (by kernel_rfl) (by kernel_rfl)).symm, S⟩
        have e0 : ρ (.tmp 17) = .pointer (some ⟨g, t * 2, none⟩) := by rw [hρ]; exact acts_eval_hit 2 rfl hd.1 (by rw [HSZ]; rfl) (by kernel_rfl)
        clear hρ
        (have hcl : W.cell? ⟨g, t * 2, none⟩ = some (.slice X N cx) := (S.swap.cell (t * 2)).trans HC0.out)
        go_simp
      · intro f W h4 hd S
        refine wpOp_run (v := .int .i64 N) rfl rfl (fun ρ hρ => ?_) ⟨(acts_some 4 rfl (by kernel_rfl) (by kernel_rfl)).symm, S⟩
        have e0 : ρ (.tmp 18) = .slice X N cx := by rw [hρ]; exact acts_eval_hit 3 rfl hd.1 (by rw [HSZ]; rfl) (by kernel_rfl)
        clear hρ
        go_simp
      · intro f W h5 hd S
        refine wpOp_run (v := .pointer (some ⟨q, 0, none⟩)) rfl rfl (fun ρ hρ => ?_) ⟨(acts_some 5 rfl (by kernel_rfl) (by kernel_rfl)).symm, S⟩
        have e0 : ρ (.tmp 0) = .pointer (some ⟨q, 0, none⟩) := by rw [hρ]; exact (acts_eval_tmp 0 (by kernel_rfl)).trans E0
        clear hρ
        go_simp
      · intro f W h6 hd S
        refine wpOp_run (v := .pointer (some ⟨q, 0, none⟩)) rfl rfl (fun ρ hρ => ?_) ⟨(acts_some 6 rfl (by kernel_rfl) (by kernel_rfl)).symm, S⟩
        have e0 : ρ (.tmp 20) = .pointer (some ⟨q, 0, none⟩) := by rw [hρ]; exact acts_eval_hit 5 rfl hd.1 (by rw [HSZ]; rfl) (by kernel_rfl)
        clear hρ
        go_simp
      · intro f W h7 hd S
        refine wpOp_run (v := .pointer (some ⟨q, 2, none⟩)) rfl rfl (fun ρ hρ => ?_) ⟨(acts_some 7 rfl (by kernel_rfl) (by kernel_rfl)).symm, S⟩
        have e0 : ρ (.tmp 21) = .pointer (some ⟨q, 0, none⟩) := by rw [hρ]; exact acts_eval_hit 6 rfl hd.1 (by rw [HSZ]; rfl) (by kernel_rfl)
        clear hρ
        go_simp
      · intro f W h8 hd S
        refine wpOp_run (v := .int .i64 I) rfl rfl (fun ρ hρ => ?_) ⟨(acts_some 8 rfl (by kernel_rfl) (by kernel_rfl)).symm, S⟩
        have e0 : ρ (.tmp 22) = .pointer (some ⟨q, 2, none⟩) := by rw [hρ]; exact acts_eval_hit 7 rfl hd.1 (by rw [HSZ]; rfl) (by kernel_rfl)
        clear hρ
        (have hcl : W.cell? ⟨q, 2, none⟩ = some (.int .i64 I) := S.pull2.cell 2)
        go_simp
      · intro f W h9 hd S
        refine wpOp_run (v := .bool true) rfl rfl (fun ρ hρ => ?_) ⟨(acts_some 9 rfl (by kernel_rfl) (by kernel_rfl)).symm, S⟩
        have e0 : ρ (.tmp 19) = .int .i64 N := by rw [hρ]; exact acts_eval_hit 4 rfl hd.1 (by rw [HSZ]; rfl) (by kernel_rfl)
        have e1 : ρ (.tmp 23) = .int .i64 I := by rw [hρ]; exact acts_eval_hit 8 rfl hd.2.1 (by rw [HSZ]; rfl) (by kernel_rfl)
        clear hρ
        go_simp
      · intro f W h10 hd S
        refine wpOp_run (v := .bool true) rfl rfl (fun ρ hρ => ?_) ⟨(acts_some 10 rfl (by kernel_rfl) (by kernel_rfl)).symm, S⟩
        have e0 : ρ (.tmp 24) = .bool true := by rw [hρ]; exact acts_eval_hit 9 rfl hd.1 (by rw [HSZ]; rfl) (by kernel_rfl)
        clear hρ
        go_simp
      · intro f W h11 hd S
        refine wpOp_skip rfl (wanted_miss (t := 25) rfl rfl (acts_eval_hit 10 rfl hd.1 (by rw [HSZ]; rfl) (by kernel_rfl)) (by decide)) ⟨(acts_some 11 rfl (by kernel_rfl) (by kernel_rfl)).symm, S⟩
      · intro f W h12 hd S
        refine wpOp_skip rfl (wanted_miss (t := 25) rfl rfl (acts_eval_hit 10 rfl hd.2.1 (by rw [HSZ]; rfl) (by kernel_rfl)) (by decide)) ⟨(acts_some 12 rfl (by kernel_rfl) (by kernel_rfl)).symm, S⟩
      · intro f W h13 hd S
        refine wpOp_skip rfl (wanted_miss (t := 25) rfl rfl (acts_eval_hit 10 rfl hd.2.1 (by rw [HSZ]; rfl) (by kernel_rfl)) (by decide)) ⟨(acts_some 13 rfl (by kernel_rfl) (by kernel_rfl)).symm, S⟩
      · intro f W h14 hd S
        refine wpOp_skip rfl (wanted_miss (t := 25) rfl rfl (acts_eval_hit 10 rfl hd.2.1 (by rw [HSZ]; rfl) (by kernel_rfl)) (by decide)) ⟨(acts_some 14 rfl (by kernel_rfl) (by kernel_rfl)).symm, S⟩
      · intro f W h15 hd S
        refine wpOp_skip rfl (wanted_miss (t := 25) rfl rfl (acts_eval_hit 10 rfl hd.1 (by rw [HSZ]; rfl) (by kernel_rfl)) (by decide)) ⟨(acts_some 15 rfl (by kernel_rfl) (by kernel_rfl)).symm, S⟩
      · intro f W h16 hd S
        refine wpOp_skip rfl (wanted_miss (t := 25) rfl rfl (acts_eval_hit 10 rfl hd.2.1 (by rw [HSZ]; rfl) (by kernel_rfl)) (by decide)) ⟨(acts_some 16 rfl (by kernel_rfl) (by kernel_rfl)).symm, S⟩
      · intro f W h17 hd S
        refine wpOp_skip rfl (wanted_miss (t := 25) rfl rfl (acts_eval_hit 10 rfl hd.2.2.1 (by rw [HSZ]; rfl) (by kernel_rfl)) (by decide)) ⟨(acts_some 17 rfl (by kernel_rfl) (by kernel_rfl)).symm, S⟩
      · intro f W h18 hd S
        refine wpOp_skip rfl (wanted_miss (t := 25) rfl rfl (acts_eval_hit 10 rfl hd.1 (by rw [HSZ]; rfl) (by kernel_rfl)) (by decide)) ⟨(acts_some 18 rfl (by kernel_rfl) (by kernel_rfl)).symm, S⟩
      · intro f W h19 hd S
        refine wpOp_skip rfl (wanted_miss (t := 25) rfl rfl (acts_eval_hit 10 rfl hd.2.1 (by rw [HSZ]; rfl) (by kernel_rfl)) (by decide)) ⟨(acts_some 19 rfl (by kernel_rfl) (by kernel_rfl)).symm, S⟩
      · intro f W h20 hd S
        refine wpOp_skip rfl (wanted_miss (t := 25) rfl rfl (acts_eval_hit 10 rfl hd.2.1 (by rw [HSZ]; rfl) (by kernel_rfl)) (by decide)) ⟨(acts_some 20 rfl (by kernel_rfl) (by kernel_rfl)).symm, S⟩
      · intro f W h21 hd S
        refine wpOp_skip rfl (wanted_miss (t := 25) rfl rfl (acts_eval_hit 10 rfl hd.2.1 (by rw [HSZ]; rfl) (by kernel_rfl)) (by decide)) ⟨(acts_some 21 rfl (by kernel_rfl) (by kernel_rfl)).symm, S⟩
      · intro f W h22 hd S
        refine wpOp_skip rfl (wanted_miss (t := 25) rfl rfl (acts_eval_hit 10 rfl hd.2.2.1 (by rw [HSZ]; rfl) (by kernel_rfl)) (by decide)) ⟨(acts_some 22 rfl (by kernel_rfl) (by kernel_rfl)).symm, S⟩
      · intro f W h23 hd S
        refine wpOp_run (v := .bool true) rfl rfl (fun ρ hρ => ?_) ⟨(acts_some 23 rfl (by kernel_rfl) (by kernel_rfl)).symm, S⟩
        have e0 : ρ (.tmp 25) = .bool true := by rw [hρ]; exact acts_eval_hit 10 rfl hd.1 (by rw [HSZ]; rfl) (by kernel_rfl)
        have e1 : ρ (.tmp 37) = undef := by rw [hρ]; exact acts_eval_hit 22 rfl hd.2.1 (by rw [HSZ]; rfl) (by kernel_rfl)
        have ec : ∀ v, ρ (.const v) = v := by rw [hρ]; exact fun _ => rfl
        clear hρ
        go_simp
      · intro f W h24 hd S
        refine wpOp_run (v := .bool true) rfl rfl (fun ρ hρ => ?_) ⟨(acts_some 24 rfl (by kernel_rfl) (by kernel_rfl)).symm, S⟩
        have e0 : ρ (.tmp 38) = .bool true := by rw [hρ]; exact acts_eval_hit 23 rfl hd.1 (by rw [HSZ]; rfl) (by kernel_rfl)
        clear hρ
        go_simp
    · skip
      intro W S6
      subst ha0
      simp only [acts, if_true, Act.put, List.setIfInBounds_toArray, List.set_cons_succ, List.set_cons_zero]
      clear HSZ E0 E5 E7
      have HS6 := Lib.hid S6
      clear S6 S5
      go_wp2_with fail
      refine hK.out _ _ ⟨G, Gnd.le.rfl', rfl, ?_⟩
      have S7 := HS6.out.drop
      rw [HL2.out] at S7
      have hsh := qu_shut S7 HM2.out HN0.out hM (by rw [HML.out]; omega) (by rw [← HN0.out] at hx; rw [set_same hx]; exact hL) hcap HXS.out hFo
      rw [set_getD (by omega)] at hsh
      exact hsh
  · by_cases hq2 : B < (z : Int) + sx
    · rw [if_pos (Or.inr hq2)] at hK
      have hd1 : decide ((N : Int) ≥ I) = false := decide_eq_false hq1
      have hd2 : decide ((z : Int) + sx > B) = true := decide_eq_true hq2
      go_enter Try.func10, Try.ntmps10
      go_wp2_with fail
      (with_reducible refine ho.mono ?_)
      rintro e w1 ⟨rfl, rfl⟩
      go_upto_region 4 with fail
      generalize w.heap.size = p at *
      refine wp_world hP fun w2 S5 => ?_
      clear hP ho
      refine wp_act fun a0 ha0 => ?_
      have HSZ : a0.tmps.size = 59 := by rw [ha0]; rfl
      have E0 : a0.eval (.tmp 0) = .pointer (some ⟨q, 0, none⟩) := by rw [ha0]; rfl
      have E5 : a0.eval (.tmp 5) = .pointer (some ⟨p, 0, none⟩) := by rw [ha0]; rfl
      have E7 : a0.eval (.tmp 7) = .pointer (some ⟨g, t * 2, none⟩) := by rw [ha0]; rfl
      refine wp_region_sat (by kernel_rfl) 25 (by kernel_rfl) [[], [0], [1], [2], [3], [], [5], [6], [7], [4, 8], [9], [10], [11, 10], [12, 10], [13, 10], [10], [15, 10, 10], [14, 16, 10], [10], [18, 10], [19, 10], [20, 10], [17, 21, 10], [10, 22], [23, 16]] (by kernel_rfl) (by kernel_rfl) [(0, 15, .pointer (some ⟨g, t * 2, none⟩)), (1, 16, .pointer (some ⟨g, t * 2, none⟩)), (2, 17, .pointer (some ⟨g, t * 2, none⟩)), (3, 18, .slice X N cx), (4, 19, .int .i64 N), (5, 20, .pointer (some ⟨q, 0, none⟩)), (6, 21, .pointer (some ⟨q, 0, none⟩)), (7, 22, .pointer (some ⟨q, 2, none⟩)), (8, 23, .int .i64 I), (9, 24, .bool false), (10, 25, .bool false), (11, 26, .pointer (some ⟨g, t * 2, none⟩)), (12, 27, .pointer (some ⟨g, t * 2, none⟩)), (13, 28, .pointer (some ⟨g, t * 2 + 1, none⟩)), (14, 29, .int .i64 z), (15, 30, .agg #[.int .i64 n, .slice A h.length c, .slice D b.length d]), (16, 31, .int .i64 sx), (17, 32, .int .i64 ((z : Int) + sx)), (18, 33, .pointer (some ⟨q, 0, none⟩)), (19, 34, .pointer (some ⟨q, 0, none⟩)), (20, 35, .pointer (some ⟨q, 1, none⟩)), (21, 36, .int .i64 B), (22, 37, .bool true), (23, 38, .bool true), (24, 14, .bool true)] (fun _ => blk p #[.int .i64 n, .slice A h.length c, .slice D b.length d] 24 :: blk g cur 62 :: blk q #[.slice (some ⟨g, 0, none⟩) m cap, .int .i64 B, .int .i64 I] 57 :: l2) (by kernel_rfl) S5 ?_ ?_
      · refine ⟨?_, ?_, ?_, ?_, ?_, ?_, ?_, ?_, ?_, ?_, ?_, ?_, ?_, ?_, ?_, ?_, ?_, ?_, ?_, ?_, ?_, ?_, ?_, ?_, ?_, trivial⟩
        · intro f W h0 hd S
          refine wpOp_run (v := .pointer (some ⟨g, t * 2, none⟩)) rfl rfl (fun ρ hρ => ?_) ⟨(acts_some 0 rfl (by kernel_rfl) (by kernel_rfl)).symm, S⟩
          have e0 : ρ (.tmp 7) = .pointer (some ⟨g, t * 2, none⟩) := by rw [hρ]; exact (acts_eval_tmp 7 (by kernel_rfl)).trans E7
          clear hρ
          go_simp
        · intro f W h1 hd S
          refine wpOp_run (v := .pointer (some ⟨g, t * 2, none⟩)) rfl rfl (fun ρ hρ => ?_) ⟨(acts_some 1 rfl (by kernel_rfl) (by kernel_rfl)).symm, S⟩
          have e0 : ρ (.tmp 15) = .pointer (some ⟨g, t * 2, none⟩) := by rw [hρ]; exact acts_eval_hit 0 rfl hd.1 (by rw [HSZ]; rfl) (by kernel_rfl)
          clear hρ
          go_simp
        · intro f W h2 hd S
          refine wpOp_run (v := .pointer (some ⟨g, t * 2, none⟩)) rfl rfl (fun ρ hρ => ?_) ⟨(acts_some 2 rfl (by kernel_rfl) (by kernel_rfl)).symm, S⟩
          have e0 : ρ (.tmp 16) = .pointer (some ⟨g, t * 2, none⟩) := by rw [hρ]; exact acts_eval_hit 1 rfl hd.1 (by rw [HSZ]; rfl) (by kernel_rfl)
          clear hρ
          go_simp
        · intro f W h3 hd S
          refine wpOp_run (v := .slice X N cx) rfl rfl (fun ρ hρ => ?_) ⟨(acts_some 3 rfl (by kernel_rfl) (by kernel_rfl)).symm, S⟩
          have e0 : ρ (.tmp 17) = .pointer (some ⟨g, t * 2, none⟩) := by rw [hρ]; exact acts_eval_hit 2 rfl hd.1 (by rw [HSZ]; rfl) (by kernel_rfl)
          clear hρ
          (have hcl : W.cell? ⟨g, t * 2, none⟩ = some (.slice X N cx) := (S.swap.cell (t * 2)).trans HC0.out)
          go_simp
        · intro f W h4 hd S
          refine wpOp_run (v := .int .i64 N) rfl rfl (fun ρ hρ => ?_) ⟨(acts_some 4 rfl (by kernel_rfl) (by kernel_rfl)).symm, S⟩
          have e0 : ρ (.tmp 18) = .slice X N cx := by rw [hρ]; exact acts_eval_hit 3 rfl hd.1 (by rw [HSZ]; rfl) (by kernel_rfl)
          clear hρ
          go_simp
        · intro f W h5 hd S
          refine wpOp_run (v := .pointer (some ⟨q, 0, none⟩)) rfl rfl (fun ρ hρ => ?_) ⟨(acts_some 5 rfl (by kernel_rfl) (by kernel_rfl)).symm, S⟩
          have e0 : ρ (.tmp 0) = .pointer (some ⟨q, 0, none⟩) := by rw [hρ]; exact (acts_eval_tmp 0 (by kernel_rfl)).trans E0
          clear hρ
          go_simp
        · intro f W h6 hd S
          refine wpOp_run (v := .pointer (some ⟨q, 0, none⟩)) rfl rfl (fun ρ hρ => ?_) ⟨(acts_some 6 rfl (by kernel_rfl) (by kernel_rfl)).symm, S⟩
          have e0 : ρ (.tmp 20) = .pointer (some ⟨q, 0, none⟩) := by rw [hρ]; exact acts_eval_hit 5 rfl hd.1 (by rw [HSZ]; rfl) (by kernel_rfl)
          clear hρ
          go_simp
        · intro f W h7 hd S
          refine wpOp_run (v := .pointer (some ⟨q, 2, none⟩)) rfl rfl (fun ρ hρ => ?_) ⟨(acts_some 7 rfl (by kernel_rfl) (by kernel_rfl)).symm, S⟩
          have e0 : ρ (.tmp 21) = .pointer (some ⟨q, 0, none⟩) := by rw [hρ]; exact acts_eval_hit 6 rfl hd.1 (by rw [HSZ]; rfl) (by kernel_rfl)
          clear hρ
          go_simp
        · intro f W h8 hd S
          refine wpOp_run (v := .int .i64 I) rfl rfl (fun ρ hρ => ?_) ⟨(acts_some 8 rfl (by kernel_rfl) (by kernel_rfl)).symm, S⟩
          have e0 : ρ (.tmp 22) = .pointer (some ⟨q, 2, none⟩) := by rw [hρ]; exact acts_eval_hit 7 rfl hd.1 (by rw [HSZ]; rfl) (by kernel_rfl)
          clear hρ
          (have hcl : W.cell? ⟨q, 2, none⟩ = some (.int .i64 I) := S.pull2.cell 2)
          go_simp
        · intro f W h9 hd S
          refine wpOp_run (v := .bool false) rfl rfl (fun ρ hρ => ?_) ⟨(acts_some 9 rfl (by kernel_rfl) (by kernel_rfl)).symm, S⟩
          have e0 : ρ (.tmp 19) = .int .i64 N := by rw [hρ]; exact acts_eval_hit 4 rfl hd.1 (by rw [HSZ]; rfl) (by kernel_rfl)
          have e1 : ρ (.tmp 23) = .int .i64 I := by rw [hρ]; exact acts_eval_hit 8 rfl hd.2.1 (by rw [HSZ]; rfl) (by kernel_rfl)
          clear hρ
          go_simp
        · intro f W h10 hd S
          refine wpOp_run (v := .bool false) rfl rfl (fun ρ hρ => ?_) ⟨(acts_some 10 rfl (by kernel_rfl) (by kernel_rfl)).symm, S⟩
          have e0 : ρ (.tmp 24) = .bool false := by rw [hρ]; exact acts_eval_hit 9 rfl hd.1 (by rw [HSZ]; rfl) (by kernel_rfl)
          clear hρ
          go_simp
        · intro f W h11 hd S
          refine wpOp_runG (v := .pointer (some ⟨g, t * 2, none⟩)) rfl ?_ (fun ρ hρ => ?_) ⟨(acts_some 11 rfl (by kernel_rfl) (by kernel_rfl)).symm, S⟩
          · exact wanted_hit (t := 25) rfl rfl (acts_eval_hit 10 rfl hd.1 (by rw [HSZ]; rfl) (by kernel_rfl))
          · skip
            have e0 : ρ (.tmp 7) = .pointer (some ⟨g, t * 2, none⟩) := by rw [hρ]; exact (acts_eval_tmp 7 (by kernel_rfl)).trans E7
            clear hρ
            go_simp
        · intro f W h12 hd S
          refine wpOp_runG (v := .pointer (some ⟨g, t * 2, none⟩)) rfl ?_ (fun ρ hρ => ?_) ⟨(acts_some 12 rfl (by kernel_rfl) (by kernel_rfl)).symm, S⟩
          · exact wanted_hit (t := 25) rfl rfl (acts_eval_hit 10 rfl hd.2.1 (by rw [HSZ]; rfl) (by kernel_rfl))
          · skip
            have e0 : ρ (.tmp 26) = .pointer (some ⟨g, t * 2, none⟩) := by rw [hρ]; exact acts_eval_hit 11 rfl hd.1 (by rw [HSZ]; rfl) (by kernel_rfl)
            clear hρ
            go_simp
        · intro f W h13 hd S
          refine wpOp_runG (v := .pointer (some ⟨g, t * 2 + 1, none⟩)) rfl ?_ (fun ρ hρ => ?_) ⟨(acts_some 13 rfl (by kernel_rfl) (by kernel_rfl)).symm, S⟩
          · exact wanted_hit (t := 25) rfl rfl (acts_eval_hit 10 rfl hd.2.1 (by rw [HSZ]; rfl) (by kernel_rfl))
          · skip
            have e0 : ρ (.tmp 27) = .pointer (some ⟨g, t * 2, none⟩) := by rw [hρ]; exact acts_eval_hit 12 rfl hd.1 (by rw [HSZ]; rfl) (by kernel_rfl)
            clear hρ
            go_simp
        · intro f W h14 hd S
          refine wpOp_runG (v := .int .i64 z) rfl ?_ (fun ρ hρ => ?_) ⟨(acts_some 14 rfl (by kernel_rfl) (by kernel_rfl)).symm, S⟩
          · exact wanted_hit (t := 25) rfl rfl (acts_eval_hit 10 rfl hd.2.1 (by rw [HSZ]; rfl) (by kernel_rfl))
          · skip
            have e0 : ρ (.tmp 28) = .pointer (some ⟨g, t * 2 + 1, none⟩) := by rw [hρ]; exact acts_eval_hit 13 rfl hd.1 (by rw [HSZ]; rfl) (by kernel_rfl)
            clear hρ
            (have hcl : W.cell? ⟨g, t * 2 + 1, none⟩ = some (.int .i64 z) := (S.swap.cell (t * 2 + 1)).trans HC1.out)
            go_simp
        · intro f W h15 hd S
          refine wpOp_runG (v := .agg #[.int .i64 n, .slice A h.length c, .slice D b.length d]) rfl ?_ (fun ρ hρ => ?_) ⟨(acts_some 15 rfl (by kernel_rfl) (by kernel_rfl)).symm, S⟩
          · exact wanted_hit (t := 25) rfl rfl (acts_eval_hit 10 rfl hd.1 (by rw [HSZ]; rfl) (by kernel_rfl))
          · skip
            have e0 : ρ (.tmp 5) = .pointer (some ⟨p, 0, none⟩) := by rw [hρ]; exact (acts_eval_tmp 5 (by kernel_rfl)).trans E5
            clear hρ
            (have hz0 : W.cell? ⟨p, 0, none⟩ = some (.int .i64 n) := S.cell 0; have hz1 : W.cell? ⟨p, 1, none⟩ = some (.slice A h.length c) := S.cell 1; have hz2 : W.cell? ⟨p, 2, none⟩ = some (.slice D b.length d) := S.cell 2)
            go_simp
        · intro f W h16 hd S
          refine wpOp_callG rfl (wanted_hit (t := 25) rfl rfl (acts_eval_hit 10 rfl hd.2.1 (by rw [HSZ]; rfl) (by kernel_rfl))) (fun ρ hρ => ?_) (it_size S n A D h.length c b.length d (by omega)) ?_
          · skip
            have e0 : ρ (.tmp 30) = .agg #[.int .i64 n, .slice A h.length c, .slice D b.length d] := by rw [hρ]; exact acts_eval_hit 15 rfl hd.1 (by rw [HSZ]; rfl) (by kernel_rfl)
            have ef : ρ (.func 12) = .func (.func 12) #[] #[] := by rw [hρ]; rfl
            clear hρ
            go_simp
          · (rintro x W' ⟨rfl, S'⟩; rw [HSX.out]; exact ⟨_, rfl, (acts_some 16 rfl (by kernel_rfl) (by kernel_rfl)).symm, S'⟩)
        · intro f W h17 hd S
          refine wpOp_runG (v := .int .i64 ((z : Int) + sx)) rfl ?_ (fun ρ hρ => ?_) ⟨(acts_some 17 rfl (by kernel_rfl) (by kernel_rfl)).symm, S⟩
          · exact wanted_hit (t := 25) rfl rfl (acts_eval_hit 10 rfl hd.2.2.1 (by rw [HSZ]; rfl) (by kernel_rfl))
          · skip
            have e0 : ρ (.tmp 29) = .int .i64 z := by rw [hρ]; exact acts_eval_hit 14 rfl hd.1 (by rw [HSZ]; rfl) (by kernel_rfl)
            have e1 : ρ (.tmp 31) = .int .i64 sx := by rw [hρ]; exact acts_eval_hit 16 rfl hd.2.1 (by rw [HSZ]; rfl) (by kernel_rfl)
            clear hρ
            go_simp
        · intro f W h18 hd S
          refine wpOp_runG (v := .pointer (some ⟨q, 0, none⟩)) rfl ?_ (fun ρ hρ => ?_) ⟨(acts_some 18 rfl (by kernel_rfl) (by kernel_rfl)).symm, S⟩
          · exact wanted_hit (t := 25) rfl rfl (acts_eval_hit 10 rfl hd.1 (by rw [HSZ]; rfl) (by kernel_rfl))
          · skip
            have e0 : ρ (.tmp 0) = .pointer (some ⟨q, 0, none⟩) := by rw [hρ]; exact (acts_eval_tmp 0 (by kernel_rfl)).trans E0
            clear hρ
            go_simp
        · intro f W h19 hd S
          refine wpOp_runG (v := .pointer (some ⟨q, 0, none⟩)) rfl ?_ (fun ρ hρ => ?_) ⟨(acts_some 19 rfl (by kernel_rfl) (by kernel_rfl)).symm, S⟩
          · exact wanted_hit (t := 25) rfl rfl (acts_eval_hit 10 rfl hd.2.1 (by rw [HSZ]; rfl) (by kernel_rfl))
          · skip
            have e0 : ρ (.tmp 33) = .pointer (some ⟨q, 0, none⟩) := by rw [hρ]; exact acts_eval_hit 18 rfl hd.1 (by rw [HSZ]; rfl) (by kernel_rfl)
            clear hρ
            go_simp
        · intro f W h20 hd S
          refine wpOp_runG (v := .pointer (some ⟨q, 1, none⟩)) rfl ?_ (fun ρ hρ => ?_) ⟨(acts_some 20 rfl (by kernel_rfl) (by kernel_rfl)).symm, S⟩
          · exact wanted_hit (t := 25) rfl rfl (acts_eval_hit 10 rfl hd.2.1 (by rw [HSZ]; rfl) (by kernel_rfl))
          · skip
            have e0 : ρ (.tmp 34) = .pointer (some ⟨q, 0, none⟩) := by rw [hρ]; exact acts_eval_hit 19 rfl hd.1 (by rw [HSZ]; rfl) (by kernel_rfl)
            clear hρ
            go_simp
        · intro f W h21 hd S
          refine wpOp_runG (v := .int .i64 B) rfl ?_ (fun ρ hρ => ?_) ⟨(acts_some 21 rfl (by kernel_rfl) (by kernel_rfl)).symm, S⟩
          · exact wanted_hit (t := 25) rfl rfl (acts_eval_hit 10 rfl hd.2.1 (by rw [HSZ]; rfl) (by kernel_rfl))
          · skip
            have e0 : ρ (.tmp 35) = .pointer (some ⟨q, 1, none⟩) := by rw [hρ]; exact acts_eval_hit 20 rfl hd.1 (by rw [HSZ]; rfl) (by kernel_rfl)
            clear hρ
            (have hcl : W.cell? ⟨q, 1, none⟩ = some (.int .i64 B) := S.pull2.cell 1)
            go_simp
        · intro f W h22 hd S
          refine wpOp_runG (v := .bool true) rfl ?_ (fun ρ hρ => ?_) ⟨(acts_some 22 rfl (by kernel_rfl) (by kernel_rfl)).symm, S⟩
          · exact wanted_hit (t := 25) rfl rfl (acts_eval_hit 10 rfl hd.2.2.1 (by rw [HSZ]; rfl) (by kernel_rfl))
          · skip
            have e0 : ρ (.tmp 32) = .int .i64 ((z : Int) + sx) := by rw [hρ]; exact acts_eval_hit 17 rfl hd.1 (by rw [HSZ]; rfl) (by kernel_rfl)
            have e1 : ρ (.tmp 36) = .int .i64 B := by rw [hρ]; exact acts_eval_hit 21 rfl hd.2.1 (by rw [HSZ]; rfl) (by kernel_rfl)
            clear hρ
            go_simp
        · intro f W h23 hd S
          refine wpOp_run (v := .bool true) rfl rfl (fun ρ hρ => ?_) ⟨(acts_some 23 rfl (by kernel_rfl) (by kernel_rfl)).symm, S⟩
          have e0 : ρ (.tmp 25) = .bool false := by rw [hρ]; exact acts_eval_hit 10 rfl hd.1 (by rw [HSZ]; rfl) (by kernel_rfl)
          have e1 : ρ (.tmp 37) = .bool true := by rw [hρ]; exact acts_eval_hit 22 rfl hd.2.1 (by rw [HSZ]; rfl) (by kernel_rfl)
          have ec : ∀ v, ρ (.const v) = v := by rw [hρ]; exact fun _ => rfl
          clear hρ
          go_simp
        · intro f W h24 hd S
          refine wpOp_run (v := .bool true) rfl rfl (fun ρ hρ => ?_) ⟨(acts_some 24 rfl (by kernel_rfl) (by kernel_rfl)).symm, S⟩
          have e0 : ρ (.tmp 38) = .bool true := by rw [hρ]; exact acts_eval_hit 23 rfl hd.1 (by rw [HSZ]; rfl) (by kernel_rfl)
          clear hρ
          go_simp
      · skip
        intro W S6
        subst ha0
        simp only [acts, if_true, Act.put, List.setIfInBounds_toArray, List.set_cons_succ, List.set_cons_zero]
        clear HSZ E0 E5 E7
        have HS6 := Lib.hid S6
        clear S6 S5
        go_wp2_with fail
        refine hK.out _ _ ⟨G, Gnd.le.rfl', rfl, ?_⟩
        have S7 := HS6.out.drop
        rw [HL2.out] at S7
        have hsh := qu_shut S7 HM2.out HN0.out hM (by rw [HML.out]; omega) (by rw [← HN0.out] at hx; rw [set_same hx]; exact hL) hcap HXS.out hFo
        rw [set_getD (by omega)] at hsh
        exact hsh
    · rw [if_neg (by omega)] at hK
      have hd1 : decide ((N : Int) ≥ I) = false := decide_eq_false hq1
      have hd2 : decide ((z : Int) + sx > B) = false := decide_eq_false hq2
      go_enter Try.func10, Try.ntmps10
      go_wp2_with fail
      (with_reducible refine ho.mono ?_)
      rintro e w1 ⟨rfl, rfl⟩
      go_upto_region 4 with fail
      generalize w.heap.size = p at *
      refine wp_world hP fun w2 S5 => ?_
      clear hP ho
      refine wp_act fun a0 ha0 => ?_
      have HSZ : a0.tmps.size = 59 := by rw [ha0]; rfl
      have E0 : a0.eval (.tmp 0) = .pointer (some ⟨q, 0, none⟩) := by rw [ha0]; rfl
      have E5 : a0.eval (.tmp 5) = .pointer (some ⟨p, 0, none⟩) := by rw [ha0]; rfl
      have E7 : a0.eval (.tmp 7) = .pointer (some ⟨g, t * 2, none⟩) := by rw [ha0]; rfl
      refine wp_region_sat (by kernel_rfl) 25 (by kernel_rfl) [[], [0], [1], [2], [3], [], [5], [6], [7], [4, 8], [9], [10], [11, 10], [12, 10], [13, 10], [10], [15, 10, 10], [14, 16, 10], [10], [18, 10], [19, 10], [20, 10], [17, 21, 10], [10, 22], [23, 16]] (by kernel_rfl) (by kernel_rfl) [(0, 15, .pointer (some ⟨g, t * 2, none⟩)), (1, 16, .pointer (some ⟨g, t * 2, none⟩)), (2, 17, .pointer (some ⟨g, t * 2, none⟩)), (3, 18, .slice X N cx), (4, 19, .int .i64 N), (5, 20, .pointer (some ⟨q, 0, none⟩)), (6, 21, .pointer (some ⟨q, 0, none⟩)), (7, 22, .pointer (some ⟨q, 2, none⟩)), (8, 23, .int .i64 I), (9, 24, .bool false), (10, 25, .bool false), (11, 26, .pointer (some ⟨g, t * 2, none⟩)), (12, 27, .pointer (some ⟨g, t * 2, none⟩)), (13, 28, .pointer (some ⟨g, t * 2 + 1, none⟩)), (14, 29, .int .i64 z), (15, 30, .agg #[.int .i64 n, .slice A h.length c, .slice D b.length d]), (16, 31, .int .i64 sx), (17, 32, .int .i64 ((z : Int) + sx)), (18, 33, .pointer (some ⟨q, 0, none⟩)), (19, 34, .pointer (some ⟨q, 0, none⟩)), (20, 35, .pointer (some ⟨q, 1, none⟩)), (21, 36, .int .i64 B), (22, 37, .bool false), (23, 38, .bool false), (24, 14, .bool false)] (fun _ => blk p #[.int .i64 n, .slice A h.length c, .slice D b.length d] 24 :: blk g cur 62 :: blk q #[.slice (some ⟨g, 0, none⟩) m cap, .int .i64 B, .int .i64 I] 57 :: l2) (by kernel_rfl) S5 ?_ ?_
      · refine ⟨?_, ?_, ?_, ?_, ?_, ?_, ?_, ?_, ?_, ?_, ?_, ?_, ?_, ?_, ?_, ?_, ?_, ?_, ?_, ?_, ?_, ?_, ?_, ?_, ?_, trivial⟩
        · intro f W h0 hd S
          refine wpOp_run (v := .pointer (some ⟨g, t * 2, none⟩)) rfl rfl (fun ρ hρ => ?_) ⟨(acts_some 0 rfl (by kernel_rfl) (by kernel_rfl)).symm, S⟩
          have e0 : ρ (.tmp 7) = .pointer (some ⟨g, t * 2, none⟩) := by rw [hρ]; exact (acts_eval_tmp 7 (by kernel_rfl)).trans E7
          clear hρ
          go_simp
        · intro f W h1 hd S
          refine wpOp_run (v := .pointer (some ⟨g, t * 2, none⟩)) rfl rfl (fun ρ hρ => ?_) ⟨(acts_some 1 rfl (by kernel_rfl) (by kernel_rfl)).symm, S⟩
          have e0 : ρ (.tmp 15) = .pointer (some ⟨g, t * 2, none⟩) := by rw [hρ]; exact acts_eval_hit 0 rfl hd.1 (by rw [HSZ]; rfl) (by kernel_rfl)
          clear hρ
          go_simp
        · intro f W h2 hd S
          refine wpOp_run (v := .pointer (some ⟨g, t * 2, none⟩)) rfl rfl (fun ρ hρ => ?_) ⟨(acts_some 2 rfl (by kernel_rfl) (by kernel_rfl)).symm, S⟩
          have e0 : ρ (.tmp 16) = .pointer (some ⟨g, t * 2, none⟩) := by rw [hρ]; exact acts_eval_hit 1 rfl hd.1 (by rw [HSZ]; rfl) (by kernel_rfl)
          clear hρ
          go_simp
        · intro f W h3 hd S
          refine wpOp_run (v := .slice X N cx) rfl rfl (fun ρ hρ => ?_) ⟨(acts_some 3 rfl (by kernel_rfl) (by kernel_rfl)).symm, S⟩
          have e0 : ρ (.tmp 17) = .pointer (some ⟨g, t * 2, none⟩) := by rw [hρ]; exact acts_eval_hit 2 rfl hd.1 (by rw [HSZ]; rfl) (by kernel_rfl)
          clear hρ
          (have hcl : W.cell? ⟨g, t * 2, none⟩ = some (.slice X N cx) := (S.swap.cell (t * 2)).trans HC0.out)
          go_simp
        · intro f W h4 hd S
          refine wpOp_run (v := .int .i64 N) rfl rfl (fun ρ hρ => ?_) ⟨(acts_some 4 rfl (by kernel_rfl) (by kernel_rfl)).symm, S⟩
          have e0 : ρ (.tmp 18) = .slice X N cx := by rw [hρ]; exact acts_eval_hit 3 rfl hd.1 (by rw [HSZ]; rfl) (by kernel_rfl)
          clear hρ
          go_simp
        · intro f W h5 hd S
          refine wpOp_run (v := .pointer (some ⟨q, 0, none⟩)) rfl rfl (fun ρ hρ => ?_) ⟨(acts_some 5 rfl (by kernel_rfl) (by kernel_rfl)).symm, S⟩
          have e0 : ρ (.tmp 0) = .pointer (some ⟨q, 0, none⟩) := by rw [hρ]; exact (acts_eval_tmp 0 (by kernel_rfl)).trans E0
          clear hρ
          go_simp
        · intro f W h6 hd S
          refine wpOp_run (v := .pointer (some ⟨q, 0, none⟩)) rfl rfl (fun ρ hρ => ?_) ⟨(acts_some 6 rfl (by kernel_rfl) (by kernel_rfl)).symm, S⟩
          have e0 : ρ (.tmp 20) = .pointer (some ⟨q, 0, none⟩) := by rw [hρ]; exact acts_eval_hit 5 rfl hd.1 (by rw [HSZ]; rfl) (by kernel_rfl)
          clear hρ
          go_simp
        · intro f W h7 hd S
          refine wpOp_run (v := .pointer (some ⟨q, 2, none⟩)) rfl rfl (fun ρ hρ => ?_) ⟨(acts_some 7 rfl (by kernel_rfl) (by kernel_rfl)).symm, S⟩
          have e0 : ρ (.tmp 21) = .pointer (some ⟨q, 0, none⟩) := by rw [hρ]; exact acts_eval_hit 6 rfl hd.1 (by rw [HSZ]; rfl) (by kernel_rfl)
          clear hρ
          go_simp
        · intro f W h8 hd S
          refine wpOp_run (v := .int .i64 I) rfl rfl (fun ρ hρ => ?_) ⟨(acts_some 8 rfl (by kernel_rfl) (by kernel_rfl)).symm, S⟩
          have e0 : ρ (.tmp 22) = .pointer (some ⟨q, 2, none⟩) := by rw [hρ]; exact acts_eval_hit 7 rfl hd.1 (by rw [HSZ]; rfl) (by kernel_rfl)
          clear hρ
          (have hcl : W.cell? ⟨q, 2, none⟩ = some (.int .i64 I) := S.pull2.cell 2)
          go_simp
        · intro f W h9 hd S
          refine wpOp_run (v := .bool false) rfl rfl (fun ρ hρ => ?_) ⟨(acts_some 9 rfl (by kernel_rfl) (by kernel_rfl)).symm, S⟩
          have e0 : ρ (.tmp 19) = .int .i64 N := by rw [hρ]; exact acts_eval_hit 4 rfl hd.1 (by rw [HSZ]; rfl) (by kernel_rfl)
          have e1 : ρ (.tmp 23) = .int .i64 I := by rw [hρ]; exact acts_eval_hit 8 rfl hd.2.1 (by rw [HSZ]; rfl) (by kernel_rfl)
          clear hρ
          go_simp
        · intro f W h10 hd S
          refine wpOp_run (v := .bool false) rfl rfl (fun ρ hρ => ?_) ⟨(acts_some 10 rfl (by kernel_rfl) (by kernel_rfl)).symm, S⟩
          have e0 : ρ (.tmp 24) = .bool false := by rw [hρ]; exact acts_eval_hit 9 rfl hd.1 (by rw [HSZ]; rfl) (by kernel_rfl)
          clear hρ
          go_simp
        · intro f W h11 hd S
          refine wpOp_runG (v := .pointer (some ⟨g, t * 2, none⟩)) rfl ?_ (fun ρ hρ => ?_) ⟨(acts_some 11 rfl (by kernel_rfl) (by kernel_rfl)).symm, S⟩
          · exact wanted_hit (t := 25) rfl rfl (acts_eval_hit 10 rfl hd.1 (by rw [HSZ]; rfl) (by kernel_rfl))
          · skip
            have e0 : ρ (.tmp 7) = .pointer (some ⟨g, t * 2, none⟩) := by rw [hρ]; exact (acts_eval_tmp 7 (by kernel_rfl)).trans E7
            clear hρ
            go_simp
        · intro f W h12 hd S
          refine wpOp_runG (v := .pointer (some ⟨g, t * 2, none⟩)) rfl ?_ (fun ρ hρ => ?_) ⟨(acts_some 12 rfl (by kernel_rfl) (by kernel_rfl)).symm, S⟩
          · exact wanted_hit (t := 25) rfl rfl (acts_eval_hit 10 rfl hd.2.1 (by rw [HSZ]; rfl) (by kernel_rfl))
          · skip
            have e0 : ρ (.tmp 26) = .pointer (some ⟨g, t * 2, none⟩) := by rw [hρ]; exact acts_eval_hit 11 rfl hd.1 (by rw [HSZ]; rfl) (by kernel_rfl)
            clear hρ
            go_simp
        · intro f W h13 hd S
          refine wpOp_runG (v := .pointer (some ⟨g, t * 2 + 1, none⟩)) rfl ?_ (fun ρ hρ => ?_) ⟨(acts_some 13 rfl (by kernel_rfl) (by kernel_rfl)).symm, S⟩
          · exact wanted_hit (t := 25) rfl rfl (acts_eval_hit 10 rfl hd.2.1 (by rw [HSZ]; rfl) (by kernel_rfl))
          · skip
            have e0 : ρ (.tmp 27) = .pointer (some ⟨g, t * 2, none⟩) := by rw [hρ]; exact acts_eval_hit 12 rfl hd.1 (by rw [HSZ]; rfl) (by kernel_rfl)
            clear hρ
            go_simp
        · intro f W h14 hd S
          refine wpOp_runG (v := .int .i64 z) rfl ?_ (fun ρ hρ => ?_) ⟨(acts_some 14 rfl (by kernel_rfl) (by kernel_rfl)).symm, S⟩
          · exact wanted_hit (t := 25) rfl rfl (acts_eval_hit 10 rfl hd.2.1 (by rw [HSZ]; rfl) (by kernel_rfl))
          · skip
            have e0 : ρ (.tmp 28) = .pointer (some ⟨g, t * 2 + 1, none⟩) := by rw [hρ]; exact acts_eval_hit 13 rfl hd.1 (by rw [HSZ]; rfl) (by kernel_rfl)
            clear hρ
            (have hcl : W.cell? ⟨g, t * 2 + 1, none⟩ = some (.int .i64 z) := (S.swap.cell (t * 2 + 1)).trans HC1.out)
            go_simp
        · intro f W h15 hd S
          refine wpOp_runG (v := .agg #[.int .i64 n, .slice A h.length c, .slice D b.length d]) rfl ?_ (fun ρ hρ => ?_) ⟨(acts_some 15 rfl (by kernel_rfl) (by kernel_rfl)).symm, S⟩
          · exact wanted_hit (t := 25) rfl rfl (acts_eval_hit 10 rfl hd.1 (by rw [HSZ]; rfl) (by kernel_rfl))
          · skip
            have e0 : ρ (.tmp 5) = .pointer (some ⟨p, 0, none⟩) := by rw [hρ]; exact (acts_eval_tmp 5 (by kernel_rfl)).trans E5
            clear hρ
            (have hz0 : W.cell? ⟨p, 0, none⟩ = some (.int .i64 n) := S.cell 0; have hz1 : W.cell? ⟨p, 1, none⟩ = some (.slice A h.length c) := S.cell 1; have hz2 : W.cell? ⟨p, 2, none⟩ = some (.slice D b.length d) := S.cell 2)
            go_simp
        · intro f W h16 hd S
          refine wpOp_callG rfl (wanted_hit (t := 25) rfl rfl (acts_eval_hit 10 rfl hd.2.1 (by rw [HSZ]; rfl) (by kernel_rfl))) (fun ρ hρ => ?_) (it_size S n A D h.length c b.length d (by omega)) ?_
          · skip
            have e0 : ρ (.tmp 30) = .agg #[.int .i64 n, .slice A h.length c, .slice D b.length d] := by rw [hρ]; exact acts_eval_hit 15 rfl hd.1 (by rw [HSZ]; rfl) (by kernel_rfl)
            have ef : ρ (.func 12) = .func (.func 12) #[] #[] := by rw [hρ]; rfl
            clear hρ
            go_simp
          · (rintro x W' ⟨rfl, S'⟩; rw [HSX.out]; exact ⟨_, rfl, (acts_some 16 rfl (by kernel_rfl) (by kernel_rfl)).symm, S'⟩)
        · intro f W h17 hd S
          refine wpOp_runG (v := .int .i64 ((z : Int) + sx)) rfl ?_ (fun ρ hρ => ?_) ⟨(acts_some 17 rfl (by kernel_rfl) (by kernel_rfl)).symm, S⟩
          · exact wanted_hit (t := 25) rfl rfl (acts_eval_hit 10 rfl hd.2.2.1 (by rw [HSZ]; rfl) (by kernel_rfl))
          · skip
            have e0 : ρ (.tmp 29) = .int .i64 z := by rw [hρ]; exact acts_eval_hit 14 rfl hd.1 (by rw [HSZ]; rfl) (by kernel_rfl)
            have e1 : ρ (.tmp 31) = .int .i64 sx := by rw [hρ]; exact acts_eval_hit 16 rfl hd.2.1 (by rw [HSZ]; rfl) (by kernel_rfl)
            clear hρ
            go_simp
        · intro f W h18 hd S
          refine wpOp_runG (v := .pointer (some ⟨q, 0, none⟩)) rfl ?_ (fun ρ hρ => ?_) ⟨(acts_some 18 rfl (by kernel_rfl) (by kernel_rfl)).symm, S⟩
          · exact wanted_hit (t := 25) rfl rfl (acts_eval_hit 10 rfl hd.1 (by rw [HSZ]; rfl) (by kernel_rfl))
          · skip
            have e0 : ρ (.tmp 0) = .pointer (some ⟨q, 0, none⟩) := by rw [hρ]; exact (acts_eval_tmp 0 (by kernel_rfl)).trans E0
            clear hρ
            go_simp
        · intro f W h19 hd S
          refine wpOp_runG (v := .pointer (some ⟨q, 0, none⟩)) rfl ?_ (fun ρ hρ => ?_) ⟨(acts_some 19 rfl (by kernel_rfl) (by kernel_rfl)).symm, S⟩
          · exact wanted_hit (t := 25) rfl rfl (acts_eval_hit 10 rfl hd.2.1 (by rw [HSZ]; rfl) (by kernel_rfl))
          · skip
            have e0 : ρ (.tmp 33) = .pointer (some ⟨q, 0, none⟩) := by rw [hρ]; exact acts_eval_hit 18 rfl hd.1 (by rw [HSZ]; rfl) (by kernel_rfl)
            clear hρ
            go_simp
        · intro f W h20 hd S
          refine wpOp_runG (v := .pointer (some ⟨q, 1, none⟩)) rfl ?_ (fun ρ hρ => ?_) ⟨(acts_some 20 rfl (by kernel_rfl) (by kernel_rfl)).symm, S⟩
          · exact wanted_hit (t := 25) rfl rfl (acts_eval_hit 10 rfl hd.2.1 (by rw [HSZ]; rfl) (by kernel_rfl))
          · skip
            have e0 : ρ (.tmp 34) = .pointer (some ⟨q, 0, none⟩) := by rw [hρ]; exact acts_eval_hit 19 rfl hd.1 (by rw [HSZ]; rfl) (by kernel_rfl)
            clear hρ
            go_simp
        · intro f W h21 hd S
          refine wpOp_runG (v := .int .i64 B) rfl ?_ (fun ρ hρ => ?_) ⟨(acts_some 21 rfl (by kernel_rfl) (by kernel_rfl)).symm, S⟩
          · exact wanted_hit (t := 25) rfl rfl (acts_eval_hit 10 rfl hd.2.1 (by rw [HSZ]; rfl) (by kernel_rfl))
          · skip
            have e0 : ρ (.tmp 35) = .pointer (some ⟨q, 1, none⟩) := by rw [hρ]; exact acts_eval_hit 20 rfl hd.1 (by rw [HSZ]; rfl) (by kernel_rfl)
            clear hρ
            (have hcl : W.cell? ⟨q, 1, none⟩ = some (.int .i64 B) := S.pull2.cell 1)
            go_simp
        · intro f W h22 hd S
          refine wpOp_runG (v := .bool false) rfl ?_ (fun ρ hρ => ?_) ⟨(acts_some 22 rfl (by kernel_rfl) (by kernel_rfl)).symm, S⟩
          · exact wanted_hit (t := 25) rfl rfl (acts_eval_hit 10 rfl hd.2.2.1 (by rw [HSZ]; rfl) (by kernel_rfl))
          · skip
            have e0 : ρ (.tmp 32) = .int .i64 ((z : Int) + sx) := by rw [hρ]; exact acts_eval_hit 17 rfl hd.1 (by rw [HSZ]; rfl) (by kernel_rfl)
            have e1 : ρ (.tmp 36) = .int .i64 B := by rw [hρ]; exact acts_eval_hit 21 rfl hd.2.1 (by rw [HSZ]; rfl) (by kernel_rfl)
            clear hρ
            go_simp
        · intro f W h23 hd S
          refine wpOp_run (v := .bool false) rfl rfl (fun ρ hρ => ?_) ⟨(acts_some 23 rfl (by kernel_rfl) (by kernel_rfl)).symm, S⟩
          have e0 : ρ (.tmp 25) = .bool false := by rw [hρ]; exact acts_eval_hit 10 rfl hd.1 (by rw [HSZ]; rfl) (by kernel_rfl)
          have e1 : ρ (.tmp 37) = .bool false := by rw [hρ]; exact acts_eval_hit 22 rfl hd.2.1 (by rw [HSZ]; rfl) (by kernel_rfl)
          have ec : ∀ v, ρ (.const v) = v := by rw [hρ]; exact fun _ => rfl
          clear hρ
          go_simp
        · intro f W h24 hd S
          refine wpOp_run (v := .bool false) rfl rfl (fun ρ hρ => ?_) ⟨(acts_some 24 rfl (by kernel_rfl) (by kernel_rfl)).symm, S⟩
          have e0 : ρ (.tmp 38) = .bool false := by rw [hρ]; exact acts_eval_hit 23 rfl hd.1 (by rw [HSZ]; rfl) (by kernel_rfl)
          clear hρ
          go_simp
      · skip
        intro W S6
        subst ha0
        simp only [acts, if_true, Act.put, List.setIfInBounds_toArray, List.set_cons_succ, List.set_cons_zero]
        clear HSZ E0 E5 E7
        have S7 := S6
        rw [HL2.out] at S7
        obtain ⟨l3, hl3⟩ : ∃ l3, l3 = (M.take t).map lnA ++ ((M.drop (t + 1)).map lnA ++ l) := ⟨_, rfl⟩
        rw [← hl3] at S7
        have HGO : Hid (∀ W, Sat G W l3 → Sat G W l) := Lib.hid fun W SW => by rw [hl3] at SW; exact Sat.dropL _ (Sat.dropL _ SW)
        have HL3 := Lib.hid hl3
        have HA6 : Hid (∀ {a1 a2 a3 a4 a5 a6 a7 : Asrt} (W : World), Sat G W (a1 :: a2 :: a3 :: a4 :: a5 :: a6 :: a7 :: l3) → SlB W.cell? (.slice A h.length c) h) := Lib.hid fun W SW => HH.out W (HGO.out W SW.drop.drop.drop.drop.drop.drop.drop)
        have HB6 : Hid (∀ {a1 a2 a3 a4 a5 a6 a7 : Asrt} (W : World), Sat G W (a1 :: a2 :: a3 :: a4 :: a5 :: a6 :: a7 :: l3) → SlB W.cell? (.slice D b.length d) b) := Lib.hid fun W SW => HB.out W (HGO.out W SW.drop.drop.drop.drop.drop.drop.drop)
        clear hl3 S6 S5
        obtain ⟨xs, hxs⟩ : ∃ xs, xs = encs Qe.enc F := ⟨_, rfl⟩
        rw [← hxs] at S7
        have HXX := Lib.hid hxs
        clear hxs
        have S8 := S7.re [1, 3, 0, 2]
        clear S7
        have hN40 : N + 1 ≤ 4096 := by omega
        have hm63 : N + 1 ≤ maxLen := Nat.le_trans hN40 (by decide)
        go_upto_region 6 with fail
        refine wp_world S8 fun w3 S9 => ?_
        clear S8
        refine wp_act fun a0 ha0 => ?_
        have HSZ : a0.tmps.size = 59 := by rw [ha0]; rfl
        have E5 : a0.eval (.tmp 5) = .pointer (some ⟨p, 0, none⟩) := by rw [ha0]; rfl
        have E7 : a0.eval (.tmp 7) = .pointer (some ⟨g, t * 2, none⟩) := by rw [ha0]; rfl
        refine wp_region_J (by kernel_rfl) 12 (by kernel_rfl) [[], [], [1], [2], [3], [], [5], [6], [4, 7, 6], [0, 0, 1, 2, 3, 4, 5, 6, 7, 8], [9, 0, 1, 2, 3, 4, 5, 6, 7, 8], [10, 8, 8, 0, 1, 2, 3, 4, 5, 6, 7, 8]] (by kernel_rfl) (by kernel_rfl) (fun f a' W => ∃ u1 u2 qb v', HN6 f ∧ a' = acts [(0, 39, .pointer (some ⟨g, t * 2, none⟩)), (1, 40, .pointer (some ⟨g, t * 2, none⟩)), (2, 41, .pointer (some ⟨g, t * 2, none⟩)), (3, 42, .pointer (some ⟨g, t * 2, none⟩)), (4, 43, .slice X N cx), (5, 44, .agg #[.int .i64 n, .slice A h.length c, .slice D b.length d]), (6, 45, .agg #[.int .i64 n, u1, u2]), (7, 46, .slice (some ⟨qb, 0, none⟩) 1 1), (8, 47, v'), (9, 48, .pointer (some ⟨g, t * 2, none⟩)), (10, 49, .pointer (some ⟨g, t * 2, none⟩))] f a0 ∧ Sat G W (opt (f 6) (ownS 5 1 u1 h.length (h.map byteV)) :: opt (f 6) (ownS 5 1 u2 b.length (b.map byteV)) :: opt (f 7) (blk qb #[.int .i64 n, u1, u2] 24) :: blk g (cond (f 11) (cur.setIfInBounds (t * 2) v') cur) 62 :: ownS 24 3 (cond (f 8) v' (.slice X N cx)) (cond (f 8) (N + 1) N) (cond (f 8) (xs ++ [.int .i64 n, u1, u2]) xs) :: blk p #[.int .i64 n, .slice A h.length c, .slice D b.length d] 24 :: blk q #[.slice (some ⟨g, 0, none⟩) m cap, .int .i64 B, .int .i64 I] 57 :: l3)) ?_ ?_ ?_
        · exact ⟨.slice none 0 0, .slice none 0 0, 0, undef, (by unfold HN6; decide), rfl, S9.drew.opt0.opt0.opt0⟩
        · refine ⟨?_, ?_, ?_, ?_, ?_, ?_, ?_, ?_, ?_, ?_, ?_, ?_, trivial⟩
          · rintro f a' W h0 hd ⟨u1, u2, qb, v', hh, rfl, S⟩
            refine wpOp_run (v := .pointer (some ⟨g, t * 2, none⟩)) rfl rfl (fun ρ hρ => ?_) ⟨u1, u2, qb, v', hh, (acts_some 0 rfl (by kernel_rfl) (by kernel_rfl)).symm, S⟩
            have e0 : ρ (.tmp 7) = .pointer (some ⟨g, t * 2, none⟩) := by rw [hρ]; exact (acts_eval_tmp 7 (by kernel_rfl)).trans E7
            clear hρ
            go_simp
          · rintro f a' W h1 hd ⟨u1, u2, qb, v', hh, rfl, S⟩
            refine wpOp_run (v := .pointer (some ⟨g, t * 2, none⟩)) rfl rfl (fun ρ hρ => ?_) ⟨u1, u2, qb, v', hh, (acts_some 1 rfl (by kernel_rfl) (by kernel_rfl)).symm, S⟩
            have e0 : ρ (.tmp 7) = .pointer (some ⟨g, t * 2, none⟩) := by rw [hρ]; exact (acts_eval_tmp 7 (by kernel_rfl)).trans E7
            clear hρ
            go_simp
          · rintro f a' W h2 hd ⟨u1, u2, qb, v', hh, rfl, S⟩
            refine wpOp_run (v := .pointer (some ⟨g, t * 2, none⟩)) rfl rfl (fun ρ hρ => ?_) ⟨u1, u2, qb, v', hh, (acts_some 2 rfl (by kernel_rfl) (by kernel_rfl)).symm, S⟩
            have e0 : ρ (.tmp 40) = .pointer (some ⟨g, t * 2, none⟩) := by rw [hρ]; exact acts_eval_hit 1 rfl hd.1 (by rw [HSZ]; rfl) (by kernel_rfl)
            clear hρ
            go_simp
          · rintro f a' W h3 hd ⟨u1, u2, qb, v', hh, rfl, S⟩
            refine wpOp_run (v := .pointer (some ⟨g, t * 2, none⟩)) rfl rfl (fun ρ hρ => ?_) ⟨u1, u2, qb, v', hh, (acts_some 3 rfl (by kernel_rfl) (by kernel_rfl)).symm, S⟩
            have e0 : ρ (.tmp 41) = .pointer (some ⟨g, t * 2, none⟩) := by rw [hρ]; exact acts_eval_hit 2 rfl hd.1 (by rw [HSZ]; rfl) (by kernel_rfl)
            clear hρ
            go_simp
          · rintro f a' W h4 hd ⟨u1, u2, qb, v', hh, rfl, S⟩
            (have z8 := no_of hh.2.2.1 h4; have z11 := no_of hh.2.2.2 z8)
            refine wpOp_run (v := .slice X N cx) rfl rfl (fun ρ hρ => ?_) ⟨u1, u2, qb, v', ⟨hh.1, hh.2.1, fun _ => rfl, hh.2.2.2⟩, (acts_some 4 rfl (by kernel_rfl) (by kernel_rfl)).symm, S⟩
            have e0 : ρ (.tmp 42) = .pointer (some ⟨g, t * 2, none⟩) := by rw [hρ]; exact acts_eval_hit 3 rfl hd.1 (by rw [HSZ]; rfl) (by kernel_rfl)
            clear hρ
            (have hcl : W.cell? ⟨g, t * 2, none⟩ = some (.slice X N cx) := (by have := S.pull3.cell (t * 2); rw [z11] at this; exact this.trans HC0.out))
            go_simp
          · rintro f a' W h5 hd ⟨u1, u2, qb, v', hh, rfl, S⟩
            refine wpOp_run (v := .agg #[.int .i64 n, .slice A h.length c, .slice D b.length d]) rfl rfl (fun ρ hρ => ?_) ⟨u1, u2, qb, v', hh, (acts_some 5 rfl (by kernel_rfl) (by kernel_rfl)).symm, S⟩
            have e0 : ρ (.tmp 5) = .pointer (some ⟨p, 0, none⟩) := by rw [hρ]; exact (acts_eval_tmp 5 (by kernel_rfl)).trans E5
            clear hρ
            (have hz0 : W.cell? ⟨p, 0, none⟩ = some (.int .i64 n) := (Sat.mid [_, _, _, _, _] S).cell 0; have hz1 : W.cell? ⟨p, 1, none⟩ = some (.slice A h.length c) := (Sat.mid [_, _, _, _, _] S).cell 1; have hz2 : W.cell? ⟨p, 2, none⟩ = some (.slice D b.length d) := (Sat.mid [_, _, _, _, _] S).cell 2)
            go_simp
          · rintro f a' W h6 hd ⟨u1, u2, qb, v', hh, rfl, S⟩
            (have z7 := no_of hh.1 h6; have z8 := no_of hh.2.1 z7; have z11 := no_of hh.2.2.2 z8)
            refine wpOp_call rfl rfl (fun ρ hρ => ?_) (it_own S n _ _ h b HA6.out HB6.out h1 h2) ?_
            · skip
              have e0 : ρ (.tmp 44) = .agg #[.int .i64 n, .slice A h.length c, .slice D b.length d] := by rw [hρ]; exact acts_eval_hit 5 rfl hd.1 (by rw [HSZ]; rfl) (by kernel_rfl)
              have ef : ρ (.func 23) = .func (.func 23) #[] #[] := by rw [hρ]; rfl
              clear hρ
              go_simp
            · (rintro e W' ⟨y1, y2, rfl, S'⟩; refine ⟨_, rfl, y1, y2, qb, v', ⟨fun _ => rfl, hh.2.1, hh.2.2.1, hh.2.2.2⟩, acts_swap (by simp only [acts, h6, Bool.false_eq_true, if_false]) (k := 6) rfl (by kernel_rfl) (by kernel_rfl), ?_⟩; have T := (S'.re [2, 3, 4, 0, 1]).drop.drop.drop; have T2 := Sat.optI rfl ((T.opt0 (A := blk qb #[.int .i64 n, y1, y2] 24)).re [2, 0, 1]) (b := upd f 6 6); have T3 := Sat.optI rfl (T2.re [2, 0, 1]) (b := upd f 6 6); show Sat G W' (_ :: _ :: opt (f 7) _ :: blk g (cond (f 11) _ _) _ :: ownS _ _ (cond (f 8) _ _) (cond (f 8) _ _) (cond (f 8) _ _) :: _); rw [z8, z11] at T3; rw [z7, z8, z11]; exact T3)
          · rintro f a' W h7 hd ⟨u1, u2, qb, v', hh, rfl, S⟩
            (have z8 := no_of hh.2.1 h7; have z11 := no_of hh.2.2.2 z8; have S8 := S; rw [hd.1] at S8; obtain ⟨_, _, hu1, -, -, -⟩ := (opt_iff.1 S8).ownForm; obtain ⟨_, _, hu2, -, -, -⟩ := (opt_iff.1 S8.swap).ownForm)
            refine wpOp_mem (v := .slice (some ⟨W.heap.size, 0, none⟩) 1 1) (w' := W.alloc (.cells #[.int .i64 n, u1, u2] 24)) rfl rfl (fun ρ hρ => ?_) (⟨u1, u2, W.heap.size, v', ⟨fun _ => hd.1, fun _ => rfl, hh.2.2.1, hh.2.2.2⟩, acts_swap (by simp only [acts, h7, Bool.false_eq_true, if_false]) (k := 7) rfl (by kernel_rfl) (by kernel_rfl), (by have T := Sat.optI rfl (((S.re [2, 0, 1]).drop).newBlk #[.int .i64 n, u1, u2] 24) (b := upd f 7 7); exact T.re [1, 2, 0])⟩)
            have e0 : ρ (.tmp 45) = .agg #[.int .i64 n, u1, u2] := by rw [hρ]; exact acts_eval_hit 6 rfl hd.1 (by rw [HSZ]; rfl) (by kernel_rfl)
            clear hρ
            go_simp
          · rintro f a' W h8 hd ⟨u1, u2, qb, v', hh, rfl, S⟩
            have q43 : (acts [(0, 39, .pointer (some ⟨g, t * 2, none⟩)), (1, 40, .pointer (some ⟨g, t * 2, none⟩)), (2, 41, .pointer (some ⟨g, t * 2, none⟩)), (3, 42, .pointer (some ⟨g, t * 2, none⟩)), (4, 43, .slice X N cx), (5, 44, .agg #[.int .i64 n, .slice A h.length c, .slice D b.length d]), (6, 45, .agg #[.int .i64 n, u1, u2]), (7, 46, .slice (some ⟨qb, 0, none⟩) 1 1), (8, 47, v'), (9, 48, .pointer (some ⟨g, t * 2, none⟩)), (10, 49, .pointer (some ⟨g, t * 2, none⟩))] f a0).eval (.tmp 43) = .slice X N cx := acts_eval_hit 4 rfl hd.1 (by rw [HSZ]; rfl) (by kernel_rfl)
            have q46 : (acts [(0, 39, .pointer (some ⟨g, t * 2, none⟩)), (1, 40, .pointer (some ⟨g, t * 2, none⟩)), (2, 41, .pointer (some ⟨g, t * 2, none⟩)), (3, 42, .pointer (some ⟨g, t * 2, none⟩)), (4, 43, .slice X N cx), (5, 44, .agg #[.int .i64 n, .slice A h.length c, .slice D b.length d]), (6, 45, .agg #[.int .i64 n, u1, u2]), (7, 46, .slice (some ⟨qb, 0, none⟩) 1 1), (8, 47, v'), (9, 48, .pointer (some ⟨g, t * 2, none⟩)), (10, 49, .pointer (some ⟨g, t * 2, none⟩))] f a0).eval (.tmp 46) = .slice (some ⟨qb, 0, none⟩) 1 1 := acts_eval_hit 7 rfl hd.2.1 (by rw [HSZ]; rfl) (by kernel_rfl)
            (have z11 := no_of hh.2.2.2 h8; simp only [hd.2.1, h8, z11, cond_false] at S; have S2 := Sat.mid [_, _, _, _] S; have hq := opt_iff.1 S.pull2; have z6 := hh.1 hd.2.1; have S8 := S; rw [z6] at S8; obtain ⟨_, _, hu1, -, -, -⟩ := (opt_iff.1 S8).ownForm; obtain ⟨_, _, hu2, -, -, -⟩ := (opt_iff.1 S8.swap).ownForm; have hone : [Value.int .i64 n, u1, u2].all (·.oneCell') = true := (by simp [Value.oneCell', hu1, hu2]); clear S8 hu1 hu2; refine wpOp_list rfl ?_; refine st_append rfl _ _ 60 rfl 24 (.agg #[.int .i64 0, .slice none 0 0, .slice none 0 0]) 3 56 Try.underlying60 info_it rfl (by omega) _ N xs q43 S2 ⟨qb, 0, none⟩ 1 1 [.int .i64 n, u1, u2] q46 rfl (fun j u hj => blk_cells hq j u hj) hone hm63 (by omega) ?_; (intro v2 w4 S3; refine ⟨u1, u2, qb, v2, ⟨hh.1, fun _ => hd.2.1, fun _ => hd.1, fun _ => rfl⟩, acts_swap (by simp only [acts, h8, Bool.false_eq_true, if_false]) (k := 8) rfl (by kernel_rfl) (by kernel_rfl), ?_⟩; have S4 := S3.re [1, 2, 3, 4, 0]; show Sat G w4 (opt (f 6) _ :: opt (f 6) _ :: opt (f 7) _ :: blk g (cond (f 11) _ _) _ :: _); rw [hd.2.1, z11]; exact S4))
          · rintro f a' W h9 hd ⟨u1, u2, qb, v', hh, rfl, S⟩
            refine wpOp_run (v := .pointer (some ⟨g, t * 2, none⟩)) rfl rfl (fun ρ hρ => ?_) ⟨u1, u2, qb, v', hh, (acts_some 9 rfl (by kernel_rfl) (by kernel_rfl)).symm, S⟩
            have e0 : ρ (.tmp 39) = .pointer (some ⟨g, t * 2, none⟩) := by rw [hρ]; exact acts_eval_hit 0 rfl hd.1 (by rw [HSZ]; rfl) (by kernel_rfl)
            clear hρ
            go_simp
          · rintro f a' W h10 hd ⟨u1, u2, qb, v', hh, rfl, S⟩
            refine wpOp_run (v := .pointer (some ⟨g, t * 2, none⟩)) rfl rfl (fun ρ hρ => ?_) ⟨u1, u2, qb, v', hh, (acts_some 10 rfl (by kernel_rfl) (by kernel_rfl)).symm, S⟩
            have e0 : ρ (.tmp 48) = .pointer (some ⟨g, t * 2, none⟩) := by rw [hρ]; exact acts_eval_hit 9 rfl hd.1 (by rw [HSZ]; rfl) (by kernel_rfl)
            clear hρ
            go_simp
          · rintro f a' W h11 hd ⟨u1, u2, qb, v', hh, rfl, S⟩
            have q49 : (acts [(0, 39, .pointer (some ⟨g, t * 2, none⟩)), (1, 40, .pointer (some ⟨g, t * 2, none⟩)), (2, 41, .pointer (some ⟨g, t * 2, none⟩)), (3, 42, .pointer (some ⟨g, t * 2, none⟩)), (4, 43, .slice X N cx), (5, 44, .agg #[.int .i64 n, .slice A h.length c, .slice D b.length d]), (6, 45, .agg #[.int .i64 n, u1, u2]), (7, 46, .slice (some ⟨qb, 0, none⟩) 1 1), (8, 47, v'), (9, 48, .pointer (some ⟨g, t * 2, none⟩)), (10, 49, .pointer (some ⟨g, t * 2, none⟩))] f a0).eval (.tmp 49) = .pointer (some ⟨g, t * 2, none⟩) := acts_eval_hit 10 rfl hd.1 (by rw [HSZ]; rfl) (by kernel_rfl)
            have q47 : (acts [(0, 39, .pointer (some ⟨g, t * 2, none⟩)), (1, 40, .pointer (some ⟨g, t * 2, none⟩)), (2, 41, .pointer (some ⟨g, t * 2, none⟩)), (3, 42, .pointer (some ⟨g, t * 2, none⟩)), (4, 43, .slice X N cx), (5, 44, .agg #[.int .i64 n, .slice A h.length c, .slice D b.length d]), (6, 45, .agg #[.int .i64 n, u1, u2]), (7, 46, .slice (some ⟨qb, 0, none⟩) 1 1), (8, 47, v'), (9, 48, .pointer (some ⟨g, t * 2, none⟩)), (10, 49, .pointer (some ⟨g, t * 2, none⟩))] f a0).eval (.tmp 47) = v' := acts_eval_hit 8 rfl hd.2.1 (by rw [HSZ]; rfl) (by kernel_rfl)
            (simp only [hd.2.1, h11, cond_true, cond_false] at S; obtain ⟨A', c', hv', -⟩ := (Sat.mid [_, _, _, _] S).ownSlice; refine wpOp_list rfl ?_; refine st_set rfl _ _ _ rfl _ _ _ q49 q47 (by rw [hv']; rfl) _ _ S.pull3 (by kernel_rfl) (by omega) fun W' S' => ?_; refine ⟨u1, u2, qb, v', ⟨hh.1, hh.2.1, hh.2.2.1, fun _ => hd.2.1⟩, (acts_none 11 (by kernel_rfl)).symm, ?_⟩; have S4 := S'.push3; show Sat G W' (opt (f 6) _ :: opt (f 6) _ :: opt (f 7) _ :: _ :: ownS _ _ (cond (f 8) _ _) (cond (f 8) _ _) (cond (f 8) _ _) :: _); rw [hd.2.1]; exact S4)
        rintro a' W ⟨u1, u2, qb, v', -, rfl, S10⟩
        subst ha0
        simp only [acts, if_true, Act.put, List.setIfInBounds_toArray, List.set_cons_succ, List.set_cons_zero]
        have T1 := opt_iff.1 S10
        have T2 := opt_iff.1 T1.swap
        have T3 := (T2.re [2, 0, 1]).drop
        clear S10 T1 T2 S9 HSZ E5 E7
        obtain ⟨G1, hG1, T4, hu2⟩ := T3.ownFrz
        obtain ⟨G2, hG2, T5, hu1⟩ := T4.ownFrz
        have hu2' := hu2.mono hG2
        clear T3 T4 hu2
        have HU1 := Lib.hid hu1
        have HU2 := Lib.hid hu2'
        clear hu1 hu2'
        have T6 := T5.re [0, 2, 1, 3]
        clear T5
        obtain ⟨l4, hl4⟩ : ∃ l4, l4 = ownS 24 3 v' (N + 1) (xs ++ [.int .i64 n, u1, u2]) :: blk q #[.slice (some ⟨g, 0, none⟩) m cap, .int .i64 B, .int .i64 I] 57 :: l3 := ⟨_, rfl⟩
        change Sat G2 W (_ :: _ :: (ownS 24 3 v' (N + 1) (xs ++ [.int .i64 n, u1, u2]) :: blk q #[.slice (some ⟨g, 0, none⟩) m cap, .int .i64 B, .int .i64 I] 57 :: l3)) at T6
        rw [← hl4] at T6
        have HL4 := Lib.hid hl4
        clear hl4
        obtain ⟨cur2, hcur2⟩ : ∃ cur2, cur2 = cur.setIfInBounds (t * 2) v' := ⟨_, rfl⟩
        rw [← hcur2] at T6
        have HC2 : Hid (cur2[t * 2 + 1]? = some (.int .i64 z)) := Lib.hid (by rw [hcur2, Array.getElem?_setIfInBounds_ne (by omega)]; exact HC1.out)
        have hsz2 : t * 2 + 1 < cur2.size := by rw [hcur2]; simpa using e2
        have HCU := Lib.hid hcur2
        clear hcur2
        go_upto_region 7 with fail
        refine wp_act fun a0 ha0 => ?_
        have HSZ : a0.tmps.size = 59 := by rw [ha0]; rfl
        have E5 : a0.eval (.tmp 5) = .pointer (some ⟨p, 0, none⟩) := by rw [ha0]; rfl
        have E7 : a0.eval (.tmp 7) = .pointer (some ⟨g, t * 2, none⟩) := by rw [ha0]; rfl
        refine wp_region_J (by kernel_rfl) 10 (by kernel_rfl) [[], [0], [1], [2], [], [4], [3, 5], [0, 0, 1, 2, 3, 4, 5, 6], [7, 0, 1, 2, 3, 4, 5, 6], [8, 6, 5, 0, 1, 2, 3, 4, 5, 6]] (by kernel_rfl) (by kernel_rfl) (fun f a' W => HN7 f ∧ a' = acts [(0, 50, .pointer (some ⟨g, t * 2, none⟩)), (1, 51, .pointer (some ⟨g, t * 2, none⟩)), (2, 52, .pointer (some ⟨g, t * 2 + 1, none⟩)), (3, 53, .int .i64 z), (4, 54, .agg #[.int .i64 n, .slice A h.length c, .slice D b.length d]), (5, 55, .int .i64 sx), (6, 56, .int .i64 ((z : Int) + sx)), (7, 57, .pointer (some ⟨g, t * 2, none⟩)), (8, 58, .pointer (some ⟨g, t * 2 + 1, none⟩))] f a0 ∧ Sat G2 W (blk g (cond (f 9) (cur2.setIfInBounds (t * 2 + 1) (.int .i64 ((z : Int) + sx))) cur2) 62 :: blk p #[.int .i64 n, .slice A h.length c, .slice D b.length d] 24 :: l4)) ?_ ?_ ?_
        · exact ⟨by unfold HN7; decide, rfl, T6.drew⟩
        · refine ⟨?_, ?_, ?_, ?_, ?_, ?_, ?_, ?_, ?_, ?_, trivial⟩
          · rintro f a' W h0 hd ⟨hh, rfl, S⟩
            refine wpOp_run (v := .pointer (some ⟨g, t * 2, none⟩)) rfl rfl (fun ρ hρ => ?_) ⟨hh, (acts_some 0 rfl (by kernel_rfl) (by kernel_rfl)).symm, S⟩
            have e0 : ρ (.tmp 7) = .pointer (some ⟨g, t * 2, none⟩) := by rw [hρ]; exact (acts_eval_tmp 7 (by kernel_rfl)).trans E7
            clear hρ
            go_simp
          · rintro f a' W h1 hd ⟨hh, rfl, S⟩
            refine wpOp_run (v := .pointer (some ⟨g, t * 2, none⟩)) rfl rfl (fun ρ hρ => ?_) ⟨hh, (acts_some 1 rfl (by kernel_rfl) (by kernel_rfl)).symm, S⟩
            have e0 : ρ (.tmp 50) = .pointer (some ⟨g, t * 2, none⟩) := by rw [hρ]; exact acts_eval_hit 0 rfl hd.1 (by rw [HSZ]; rfl) (by kernel_rfl)
            clear hρ
            go_simp
          · rintro f a' W h2 hd ⟨hh, rfl, S⟩
            refine wpOp_run (v := .pointer (some ⟨g, t * 2 + 1, none⟩)) rfl rfl (fun ρ hρ => ?_) ⟨hh, (acts_some 2 rfl (by kernel_rfl) (by kernel_rfl)).symm, S⟩
            have e0 : ρ (.tmp 51) = .pointer (some ⟨g, t * 2, none⟩) := by rw [hρ]; exact acts_eval_hit 1 rfl hd.1 (by rw [HSZ]; rfl) (by kernel_rfl)
            clear hρ
            go_simp
          · rintro f a' W h3 hd ⟨hh, rfl, S⟩
            (have z9 := no_of hh h3)
            refine wpOp_run (v := .int .i64 z) rfl rfl (fun ρ hρ => ?_) ⟨fun _ => rfl, (acts_some 3 rfl (by kernel_rfl) (by kernel_rfl)).symm, S⟩
            have e0 : ρ (.tmp 52) = .pointer (some ⟨g, t * 2 + 1, none⟩) := by rw [hρ]; exact acts_eval_hit 2 rfl hd.1 (by rw [HSZ]; rfl) (by kernel_rfl)
            clear hρ
            (have hcl : W.cell? ⟨g, t * 2 + 1, none⟩ = some (.int .i64 z) := (by have := S.cell (t * 2 + 1); rw [z9] at this; exact this.trans HC2.out))
            go_simp
          · rintro f a' W h4 hd ⟨hh, rfl, S⟩
            refine wpOp_run (v := .agg #[.int .i64 n, .slice A h.length c, .slice D b.length d]) rfl rfl (fun ρ hρ => ?_) ⟨hh, (acts_some 4 rfl (by kernel_rfl) (by kernel_rfl)).symm, S⟩
            have e0 : ρ (.tmp 5) = .pointer (some ⟨p, 0, none⟩) := by rw [hρ]; exact (acts_eval_tmp 5 (by kernel_rfl)).trans E5
            clear hρ
            (have hz0 : W.cell? ⟨p, 0, none⟩ = some (.int .i64 n) := S.swap.cell 0; have hz1 : W.cell? ⟨p, 1, none⟩ = some (.slice A h.length c) := S.swap.cell 1; have hz2 : W.cell? ⟨p, 2, none⟩ = some (.slice D b.length d) := S.swap.cell 2)
            go_simp
          · rintro f a' W h5 hd ⟨hh, rfl, S⟩
            refine wpOp_call rfl rfl (fun ρ hρ => ?_) (it_size S n A D h.length c b.length d (by omega)) ?_
            · skip
              have e0 : ρ (.tmp 54) = .agg #[.int .i64 n, .slice A h.length c, .slice D b.length d] := by rw [hρ]; exact acts_eval_hit 4 rfl hd.1 (by rw [HSZ]; rfl) (by kernel_rfl)
              have ef : ρ (.func 12) = .func (.func 12) #[] #[] := by rw [hρ]; rfl
              clear hρ
              go_simp
            · (rintro x W' ⟨rfl, S'⟩; rw [HSX.out]; exact ⟨_, rfl, hh, (acts_some 5 rfl (by kernel_rfl) (by kernel_rfl)).symm, S'⟩)
          · rintro f a' W h6 hd ⟨hh, rfl, S⟩
            refine wpOp_run (v := .int .i64 ((z : Int) + sx)) rfl rfl (fun ρ hρ => ?_) ⟨hh, (acts_some 6 rfl (by kernel_rfl) (by kernel_rfl)).symm, S⟩
            have e0 : ρ (.tmp 53) = .int .i64 z := by rw [hρ]; exact acts_eval_hit 3 rfl hd.1 (by rw [HSZ]; rfl) (by kernel_rfl)
            have e1 : ρ (.tmp 55) = .int .i64 sx := by rw [hρ]; exact acts_eval_hit 5 rfl hd.2.1 (by rw [HSZ]; rfl) (by kernel_rfl)
            clear hρ
            go_simp
          · rintro f a' W h7 hd ⟨hh, rfl, S⟩
            refine wpOp_run (v := .pointer (some ⟨g, t * 2, none⟩)) rfl rfl (fun ρ hρ => ?_) ⟨hh, (acts_some 7 rfl (by kernel_rfl) (by kernel_rfl)).symm, S⟩
            have e0 : ρ (.tmp 50) = .pointer (some ⟨g, t * 2, none⟩) := by rw [hρ]; exact acts_eval_hit 0 rfl hd.1 (by rw [HSZ]; rfl) (by kernel_rfl)
            clear hρ
            go_simp
          · rintro f a' W h8 hd ⟨hh, rfl, S⟩
            refine wpOp_run (v := .pointer (some ⟨g, t * 2 + 1, none⟩)) rfl rfl (fun ρ hρ => ?_) ⟨hh, (acts_some 8 rfl (by kernel_rfl) (by kernel_rfl)).symm, S⟩
            have e0 : ρ (.tmp 57) = .pointer (some ⟨g, t * 2, none⟩) := by rw [hρ]; exact acts_eval_hit 7 rfl hd.1 (by rw [HSZ]; rfl) (by kernel_rfl)
            clear hρ
            go_simp
          · rintro f a' W h9 hd ⟨hh, rfl, S⟩
            have q58 : (acts [(0, 50, .pointer (some ⟨g, t * 2, none⟩)), (1, 51, .pointer (some ⟨g, t * 2, none⟩)), (2, 52, .pointer (some ⟨g, t * 2 + 1, none⟩)), (3, 53, .int .i64 z), (4, 54, .agg #[.int .i64 n, .slice A h.length c, .slice D b.length d]), (5, 55, .int .i64 sx), (6, 56, .int .i64 ((z : Int) + sx)), (7, 57, .pointer (some ⟨g, t * 2, none⟩)), (8, 58, .pointer (some ⟨g, t * 2 + 1, none⟩))] f a0).eval (.tmp 58) = .pointer (some ⟨g, t * 2 + 1, none⟩) := acts_eval_hit 8 rfl hd.1 (by rw [HSZ]; rfl) (by kernel_rfl)
            have q56 : (acts [(0, 50, .pointer (some ⟨g, t * 2, none⟩)), (1, 51, .pointer (some ⟨g, t * 2, none⟩)), (2, 52, .pointer (some ⟨g, t * 2 + 1, none⟩)), (3, 53, .int .i64 z), (4, 54, .agg #[.int .i64 n, .slice A h.length c, .slice D b.length d]), (5, 55, .int .i64 sx), (6, 56, .int .i64 ((z : Int) + sx)), (7, 57, .pointer (some ⟨g, t * 2, none⟩)), (8, 58, .pointer (some ⟨g, t * 2 + 1, none⟩))] f a0).eval (.tmp 56) = .int .i64 ((z : Int) + sx) := acts_eval_hit 6 rfl hd.2.1 (by rw [HSZ]; rfl) (by kernel_rfl)
            (rw [h9] at S; refine wpOp_list rfl ?_; refine st_set rfl _ _ _ rfl _ _ _ q58 q56 rfl _ _ S (by kernel_rfl) hsz2 fun W' S' => ?_; exact ⟨fun _ => hd.2.2.2.2.2.2.1, (acts_none 9 (by kernel_rfl)).symm, S'⟩)
        rintro a' W2 ⟨-, rfl, S11⟩
        subst ha0
        simp only [acts, if_true, Act.put, List.setIfInBounds_toArray, List.set_cons_succ, List.set_cons_zero]
        change Sat _ _ (blk g (cur2.setIfInBounds (t * 2 + 1) (.int .i64 ((z : Int) + sx))) _ :: _) at S11
        have HS11 := Lib.hid S11
        clear S11 T6 HSZ E5 E7
        go_wp2_with fail
        refine hK.out _ _ ⟨G2, hG1.trans hG2, rfl, ?_⟩
        have S12 := HS11.out.drop2
        rw [HL4.out, HL3.out, HCU.out] at S12
        have exs : xs ++ [.int .i64 n, u1, u2] = encs Qe.enc (F ++ [⟨n, u1, u2, h, b⟩]) := by rw [encs_append, encs_one, HXX.out]; rfl
        rw [exs] at S12
        have hG12 := hG1.trans hG2
        refine qu_shut (F := F ++ [⟨n, u1, u2, h, b⟩]) S12.pull2.swap HM2.out (by rw [List.length_append, ← HN0.out]; rfl) hM (by rw [HML.out]; omega) (lay_put hL (by rw [HML.out]; omega) ⟨v', Q.getD t [] ++ [(n, h, b)]⟩ _ ?_) hcap ?_ ?_
        · simp only [qsz_append, qsz_cons, qsz_nil, isz]
          have := HZ.out
          have := HSX.out
          omega
        · rw [List.map_append, HXS.out]; rfl
        · intro e he
          rcases List.mem_append.1 he with he | he
          · exact ⟨(hFo e he).1.mono hG12, (hFo e he).2.mono hG12⟩
          · obtain rfl := List.mem_singleton.1 he
            exact ⟨HU1.out, HU2.out⟩
end
end Go.Proofs.Ytidaafpfkbfiaaa
