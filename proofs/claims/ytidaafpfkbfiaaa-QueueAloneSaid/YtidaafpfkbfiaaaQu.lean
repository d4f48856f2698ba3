/- The queue: what it is in memory; the walks over New, of, Len, Bytes. -/
import Derived.Test.YtidaafpfkbfiaaaQi
import Derived.Lib.AppendZeros
set_option linter.unusedSimpArgs false
set_option linter.unusedVariables false
namespace Go.Proofs.Ytidaafpfkbfiaaa
open Go.RowKit

abbrev It := Int × List UInt8 × List UInt8
structure Qe where
  n : Int
  hv : Value
  bv : Value
  h : List UInt8
  b : List UInt8
def Qe.enc (x : Qe) : List Value := [.int .i64 x.n, x.hv, x.bv]
def Qe.abs (x : Qe) : It := (x.n, x.h, x.b)
def Qe.ok (R : Hp) (x : Qe) : Prop := SlB (cellR R) x.hv x.h ∧ SlB (cellR R) x.bv x.b
theorem qe_len (x : Qe) : x.enc.length = 3 := rfl
def isz (x : It) : Nat := x.2.1.length + x.2.2.length
def qsz (L : List It) : Nat := (L.map isz).sum
theorem qsz_append (a b : List It) : qsz (a ++ b) = qsz a + qsz b := by simp [qsz]
theorem qsz_cons (x : It) (b : List It) : qsz (x :: b) = isz x + qsz b := by simp [qsz]
theorem qsz_nil : qsz [] = 0 := rfl
structure Ln where
  v : Value
  L : List It
def lenc (x : Ln) : List Value := [x.v, .int .i64 (qsz x.L)]
theorem ln_len (x : Ln) : (lenc x).length = 2 := rfl
/-- A line: its items in memory of its own; their bytes are turned no more. -/
def lnA (x : Ln) : Asrt := ⟨fun R h => ∃ F : List Qe, F.map Qe.abs = x.L ∧ (∀ e ∈ F, e.ok R) ∧ (ownS 24 3 x.v F.length (encs Qe.enc F)).p R h,
  fun hR ⟨F, h1, h2, h3⟩ => ⟨F, h1, fun e he => ⟨(h2 e he).1.up hR, (h2 e he).2.up hR⟩, (ownS 24 3 x.v F.length (encs Qe.enc F)).mono hR h3⟩⟩
/-- The queue at q. -/
def quA (q : Nat) (Q : List (List It)) (B I : Int) : Asrt := ex fun M : List Ln => ex fun v => star (pur (M.map Ln.L = Q) :: blk q #[v, .int .i64 B, .int .i64 I] 57 :: ownS 62 2 v M.length (encs lenc M) :: M.map lnA)
def restA (M : List Ln) (t : Nat) (l : List Asrt) : List Asrt := (M.take t).map lnA ++ ((M.drop (t + 1)).map lnA ++ l)
structure QWf (Q : List (List It)) (B I : Int) : Prop where
  m0 : 1 ≤ Q.length
  m1 : Q.length ≤ 64
  b0 : 0 ≤ B
  b1 : B ≤ 1048576
  i0 : 1 ≤ I
  i1 : I ≤ 4096
  sz : ∀ L ∈ Q, (qsz L : Int) ≤ B ∧ (L.length : Int) ≤ I
def qAt (Q : List (List It)) (t : Int) : List It := if 0 ≤ t then Q.getD t.toNat [] else []
theorem qAt_nat (Q : List (List It)) (t : Nat) : qAt Q t = Q.getD t [] := by unfold qAt; rw [if_pos (by omega)]; simp
theorem QWf.at_ {Q : List (List It)} {B I : Int} (h : QWf Q B I) (t : Nat) : (qsz (Q.getD t []) : Int) ≤ B ∧ ((Q.getD t []).length : Int) ≤ I := by
  by_cases ht : t < Q.length
  · rw [List.getD_eq_getElem?_getD, List.getElem?_eq_getElem ht]; exact h.sz _ (List.getElem_mem ht)
  · rw [List.getD_eq_getElem?_getD, List.getElem?_eq_none (by omega)]
    have := h.b0
    have := h.i0
    exact ⟨by simp [qsz]; omega, by simp; omega⟩
theorem QWf.set {Q : List (List It)} {B I : Int} (h : QWf Q B I) (t : Nat) (L : List It) (h1 : (qsz L : Int) ≤ B) (h2 : (L.length : Int) ≤ I) : QWf (Q.set t L) B I :=
  ⟨by rw [List.length_set]; exact h.m0, by rw [List.length_set]; exact h.m1, h.b0, h.b1, h.i0, h.i1, fun K hK => by
    rcases List.mem_or_eq_of_mem_set hK with hK | rfl
    · exact h.sz K hK
    · exact ⟨h1, h2⟩⟩
section
variable {G : Gnd} {w w' : World} {l : List Asrt} {q : Nat} {Q : List (List It)} {B I : Int}
theorem ln_iff {x : Ln} : Sat G w (lnA x :: l) ↔ ∃ F : List Qe, F.map Qe.abs = x.L ∧ (∀ e ∈ F, e.ok G.ro) ∧ Sat G w (ownS 24 3 x.v F.length (encs Qe.enc F) :: l) := by
  constructor
  · rintro ⟨a, b', c, lo, d, h, f, k, h1, h2, x1, x2, x3, ⟨F, p1, p2, p3⟩, z⟩
    exact ⟨F, p1, p2, a, b', c, lo, d, h, f, k, h1, h2, x1, x2, x3, p3, z⟩
  · rintro ⟨F, p1, p2, H⟩
    exact H.conv fun h hb => ⟨F, p1, p2, hb⟩
theorem qu_iff : Sat G w (quA q Q B I :: l) ↔ ∃ (M : List Ln) (v : Value), M.map Ln.L = Q ∧ Sat G w (blk q #[v, .int .i64 B, .int .i64 I] 57 :: ownS 62 2 v M.length (encs lenc M) :: (M.map lnA ++ l)) := by
  unfold quA
  rw [Sat.ex_iff]
  simp only [Sat.ex_iff, Sat.star_iff, List.cons_append, Sat.pur_iff]
/-- One tenant's line in hand. -/
theorem qu_open (H : Sat G w (quA q Q B I :: l)) (t : Nat) (ht : t < Q.length) : ∃ (M : List Ln) (g cap : Nat) (cur : Array Value) (x : Ln), M.map Ln.L = Q ∧ M.length = Q.length ∧ Lay lenc 2 cap cur M ∧ cap ≤ maxLen ∧ M[t]? = some x ∧ x.L = Q.getD t [] ∧
    Sat G w (lnA x :: blk g cur 62 :: blk q #[.slice (some ⟨g, 0, none⟩) M.length cap, .int .i64 B, .int .i64 I] 57 :: restA M t l) := by
  obtain ⟨M, v, hM, S⟩ := qu_iff.1 H
  have hl : M.length = Q.length := by rw [← hM, List.length_map]
  obtain ⟨g, cap, cur, rfl, hc, hL, S2⟩ := S.swap.layOpen ln_len (by omega)
  have hx : M[t]? = some M[t] := List.getElem?_eq_getElem (by omega)
  refine ⟨M, g, cap, cur, M[t], hM, hl, hL, hc, hx, by have e0 : (M.map Ln.L).getD t [] = M[t].L := (by rw [List.getD_eq_getElem?_getD, List.getElem?_map, hx]; rfl); (rw [hM] at e0; exact e0.symm), ?_⟩
  have e : M.map lnA = (M.take t).map lnA ++ lnA M[t] :: (M.drop (t + 1)).map lnA := by
    conv => lhs; rw [← List.take_append_drop t M, List.map_append, List.drop_eq_getElem_cons (by omega), List.map_cons]
  rw [e, List.append_assoc, List.cons_append] at S2
  have S3 : Sat G w (([blk g cur 62, blk q #[.slice (some ⟨g, 0, none⟩) M.length cap, .int .i64 B, .int .i64 I] 57] ++ (M.take t).map lnA) ++ lnA M[t] :: ((M.drop (t + 1)).map lnA ++ l)) := by simpa using S2
  have S4 := S3.mid
  simpa [restA] using S4
theorem qu_close {M : List Ln} {g cap : Nat} {cur : Array Value} {x : Ln} {t n : Nat} (S : Sat G w (lnA x :: blk g cur 62 :: blk q #[.slice (some ⟨g, 0, none⟩) n cap, .int .i64 B, .int .i64 I] 57 :: restA M t l)) (hn : n = M.length)
    (hM : M.map Ln.L = Q) (ht : t < M.length) (hL : Lay lenc 2 cap cur (M.set t x)) (hc : cap ≤ maxLen) : Sat G w (quA q (Q.set t x.L) B I :: l) := by
  subst hn
  refine qu_iff.2 ⟨M.set t x, .slice (some ⟨g, 0, none⟩) M.length cap, by rw [List.map_set, hM], ?_⟩
  have e : (M.set t x).map lnA = (M.take t).map lnA ++ lnA x :: (M.drop (t + 1)).map lnA := by
    rw [List.set_eq_take_append_cons_drop, if_pos ht]; simp
  have S3 : Sat G w (lnA x :: (([blk g cur 62, blk q #[.slice (some ⟨g, 0, none⟩) M.length cap, .int .i64 B, .int .i64 I] 57] ++ (M.take t).map lnA) ++ ((M.drop (t + 1)).map lnA ++ l))) := by simpa [restA] using S
  have S4 := S3.dim
  have S5 : Sat G w (blk g cur 62 :: blk q #[.slice (some ⟨g, 0, none⟩) M.length cap, .int .i64 B, .int .i64 I] 57 :: ((M.set t x).map lnA ++ l)) := by rw [e]; simpa using S4
  have := (S5.layClose hL hc M.length (by rw [List.length_set])).swap
  exact this
theorem qu_of {g m cap : Nat} (hc : w.cell? ⟨q, 0, none⟩ = some (.slice (some ⟨g, 0, none⟩) m cap)) (t : Nat) (ht : t < m) (hm : m ≤ 64) : Calls Try.prog 22 #[.pointer (some ⟨q, 0, none⟩), .int .i64 t] w fun e w' => e = .returned (.pointer (some ⟨g, t * 2, none⟩)) ∧ w = w' := by
  refine calls_any fun K hK => ?_
  have a1 : decide ((t : Int) < 0) = false := decide_eq_false (by omega)
  have a2 : decide ((t : Int) ≥ (m : Int)) = false := decide_eq_false (by omega)
  go_enter Try.func22, Try.ntmps22
  go_wp2_with fail
  exact hK.out _ _ ⟨rfl, rfl⟩
theorem qu_of_not {v : Value} {A : Option Addr} {m cap : Nat} (hc : w.cell? ⟨q, 0, none⟩ = some (.slice A m cap)) (t : Int) (ht : t < 0 ∨ (m : Int) ≤ t) : Calls Try.prog 22 #[.pointer (some ⟨q, 0, none⟩), .int .i64 t] w fun e w' => e = .returned (.pointer none) ∧ w = w' := by
  refine calls_any fun K hK => ?_
  by_cases h : t < 0
  · replace h := decide_eq_true h
    clear ht
    go_enter Try.func22, Try.ntmps22
    go_wp2_with fail
    exact hK.out _ _ ⟨rfl, rfl⟩
  · have a2 : decide (t ≥ (m : Int)) = true := decide_eq_true (by omega)
    replace h := decide_eq_false h
    clear ht
    go_enter Try.func22, Try.ntmps22
    go_wp2_with fail
    exact hK.out _ _ ⟨rfl, rfl⟩
theorem qu_lines (H : Sat G w (quA q Q B I :: l)) : ∃ A cap, w.cell? ⟨q, 0, none⟩ = some (.slice A Q.length cap) := by
  obtain ⟨M, v, hM, S⟩ := qu_iff.1 H
  have hl : M.length = Q.length := by rw [← hM, List.length_map]
  obtain ⟨A, cap, rfl, -, -, -⟩ := S.swap.ownSlice
  exact ⟨A, cap, by rw [← hl]; exact S.cell 0⟩
theorem qAt_out {t : Int} (h : t < 0 ∨ (Q.length : Int) ≤ t) : qAt Q t = [] := by
  unfold qAt
  split
  · rw [List.getD_eq_getElem?_getD, List.getElem?_eq_none (by omega)]; rfl
  · rfl
theorem qu_len (H : Sat G w (quA q Q B I :: l)) (hw : QWf Q B I) (t : Int) : Calls Try.prog 15 #[.pointer (some ⟨q, 0, none⟩), .int .i64 t] w fun e w' => e = .returned (.int .i64 (qAt Q t).length) ∧ w = w' := by
  refine calls_any fun K hK => ?_
  by_cases ht : t < 0 ∨ (Q.length : Int) ≤ t
  · obtain ⟨A, cap, hc⟩ := qu_lines H
    have ho := qu_of_not (v := .bool true) hc t ht
    rw [qAt_out ht] at hK
    clear H hc ht
    go_enter Try.func15, Try.ntmps15
    go_wp2_with fail
    (with_reducible refine ho.mono ?_)
    rintro e w1 ⟨rfl, rfl⟩
    go_wp2_with fail
    exact hK.out _ _ ⟨rfl, rfl⟩
  · obtain ⟨t, rfl⟩ : ∃ j : Nat, t = j := ⟨t.toNat, by omega⟩
    rw [qAt_nat] at hK
    obtain ⟨M, g, cap, cur, x, hM, hl, hL, hcap, hx, hxL, S⟩ := qu_open H t (by omega)
    have hc : w.cell? ⟨q, 0, none⟩ = some (.slice (some ⟨g, 0, none⟩) M.length cap) := S.pull2.cell 0
    have ho := qu_of hc t (by omega) (by rw [hl]; exact hw.m1)
    obtain ⟨F, hF, -, S2⟩ := ln_iff.1 S
    obtain ⟨A, c, hv, -, -, -⟩ := S2.ownSlice
    have hfl : F.length = (Q.getD t []).length := by rw [← hxL, ← hF, List.length_map]
    have hc2 : w.cell? ⟨g, t * 2, none⟩ = some (.slice A F.length c) := by
      have := (S.swap.cell (t * 2 + 0)).trans (hL.get hx (j := 0) (by decide))
      simpa [lenc, hv] using this
    rw [← hfl] at hK
    clear H S S2 hL hF hx hxL hfl hv hc
    go_enter Try.func15, Try.ntmps15
    go_wp2_with fail
    (with_reducible refine ho.mono ?_)
    rintro e w1 ⟨rfl, rfl⟩
    go_wp2_with fail
    exact hK.out _ _ ⟨rfl, rfl⟩
theorem qu_bytes (H : Sat G w (quA q Q B I :: l)) (hw : QWf Q B I) (t : Int) : Calls Try.prog 18 #[.pointer (some ⟨q, 0, none⟩), .int .i64 t] w fun e w' => e = .returned (.int .i64 (qsz (qAt Q t))) ∧ w = w' := by
  refine calls_any fun K hK => ?_
  by_cases ht : t < 0 ∨ (Q.length : Int) ≤ t
  · obtain ⟨A, cap, hc⟩ := qu_lines H
    have ho := qu_of_not (v := .bool true) hc t ht
    rw [qAt_out ht] at hK
    clear H hc ht
    go_enter Try.func18, Try.ntmps18
    go_wp2_with fail
    (with_reducible refine ho.mono ?_)
    rintro e w1 ⟨rfl, rfl⟩
    go_wp2_with fail
    exact hK.out _ _ ⟨rfl, rfl⟩
  · obtain ⟨t, rfl⟩ : ∃ j : Nat, t = j := ⟨t.toNat, by omega⟩
    rw [qAt_nat] at hK
    obtain ⟨M, g, cap, cur, x, hM, hl, hL, hcap, hx, hxL, S⟩ := qu_open H t (by omega)
    have hc : w.cell? ⟨q, 0, none⟩ = some (.slice (some ⟨g, 0, none⟩) M.length cap) := S.pull2.cell 0
    have ho := qu_of hc t (by omega) (by rw [hl]; exact hw.m1)
    have hc2 : w.cell? ⟨g, t * 2 + 1, none⟩ = some (.int .i64 (qsz (Q.getD t []))) := by
      have := (S.swap.cell (t * 2 + 1)).trans (hL.get hx (j := 1) (by decide))
      simpa [lenc, hxL] using this
    generalize qsz (Q.getD t []) = z at *
    clear H S hL hx hxL hc
    go_enter Try.func18, Try.ntmps18
    go_wp2_with fail
    (with_reducible refine ho.mono ?_)
    rintro e w1 ⟨rfl, rfl⟩
    go_wp2_with fail
    exact hK.out _ _ ⟨rfl, rfl⟩
end
end Go.Proofs.Ytidaafpfkbfiaaa
