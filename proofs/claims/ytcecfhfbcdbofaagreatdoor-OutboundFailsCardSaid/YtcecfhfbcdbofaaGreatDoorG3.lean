/- A tenant's item: its bytes; the walks over Size and own. The queue: what it is in memory; the walks over New, of, Len, Bytes. The walk over New; a slice's empty elements. The walk over Put. The walks over slices.Delete and gone. The walks over gone, First, Pop. The walks over First and Pop. -/
import Derived.Test.YtcecfhfbcdbofaaGreatDoorG2
import Derived.Lib.AppendZeros
import Derived.StillTailTactics
set_option linter.unusedSimpArgs false
set_option linter.unusedVariables false
namespace Go.Proofs.YtcecfhfbcdbofaaGreatDoor
open Go.RowKit

theorem SlB.up {R R' : Hp} {v : Value} {bs : List UInt8} (h : SlB (cellR R) v bs) (hR : ∀ k o, R k = some o → R' k = some o) : SlB (cellR R') v bs := by
  obtain ⟨⟨A, c, e, h1, h2, h3⟩, h4⟩ := h
  exact ⟨⟨A, c, e, h1, h2, fun j u hj => by obtain ⟨a, ha, hc⟩ := h3 j u hj; exact ⟨a, ha, cellR_mono hR hc⟩⟩, h4⟩
theorem no_of_q {f : Nat → Bool} {i j : Nat} (h : f i = true → f j = true) (hj : f j = false) : f i = false := by
  cases hx : f i with
  | false => rfl
  | true => rw [h hx] at hj; cases hj
section
variable {G : Gnd} {w w' : World} {l : List Asrt}
theorem it_size (H : Sat G w l) (n : Int) (A B : Option Addr) (a c b d : Nat) (h : a + b ≤ 9223372036854775807) : Calls Tryz.prog 44 #[.agg #[.int .i64 n, .slice A a c, .slice B b d]] w fun e w' => e = .returned (.int .i64 ((a + b : Nat) : Int)) ∧ Sat G w' l := by
  refine calls_any fun K hK => ?_
  have BB : ∀ o, Below w.heap.size w (w.alloc o) := fun o => (Below.refl _ _).alloc (Nat.le_refl _) o
  go_enter Tryz.func44, Tryz.ntmps44
  go_wp2_with fail
  exact hK.out _ _ ⟨by simp, H.below (BB _)⟩
def HN_q (f : Nat → Bool) : Prop := (f 8 = true → f 4 = true) ∧ (f 8 = true → f 7 = true) ∧ (f 9 = true → f 8 = true)
set_option maxHeartbeats 4000000 in
set_option maxRecDepth 100000 in
theorem it_own (H : Sat G w l) (n : Int) (hv bv : Value) (h b : List UInt8) (hh : ∀ W, Sat G W l → SlB W.cell? hv h) (hb : ∀ W, Sat G W l → SlB W.cell? bv b) (h1 : h.length ≤ 140737488355328) (h2 : b.length ≤ 140737488355328) :
    Calls Tryz.prog 45 #[.agg #[.int .i64 n, hv, bv]] w fun e w' => ∃ u1 u2, e = .returned (.agg #[.int .i64 n, u1, u2]) ∧ Sat G w' (ownS 5 1 u1 h.length (h.map byteV) :: ownS 5 1 u2 b.length (b.map byteV) :: l) := by
  refine calls_any fun K hK => ?_
  have HH := Lib.hid hh
  have HB := Lib.hid hb
  obtain ⟨A, c, rfl, -, -, -⟩ := (hh w H).form
  obtain ⟨B, d, rfl, -, -, -⟩ := (hb w H).form
  clear hh hb
  have S1 := (H.newBlk #[.int .i64 n, .slice A h.length c, .slice B b.length d] 41).newBlk #[.int .i64 0, .slice none 0 0, .slice none 0 0] 41
  simp only [World.size_alloc] at S1
  clear H
  go_enter Tryz.func45, Tryz.ntmps45
  go_upto_region 1 with fail
  generalize w.heap.size + 1 = q at *
  generalize w.heap.size = p at *
  refine wp_world S1 fun w1 S2 => ?_
  clear S1
  refine wp_act fun a0 ha0 => ?_
  have HSZ : a0.tmps.size = 12 := by rw [ha0]; rfl
  have E1 : a0.eval (.tmp 1) = .pointer (some ⟨p, 0, none⟩) := by rw [ha0]; rfl
  have E2 : a0.eval (.tmp 2) = .pointer (some ⟨q, 0, none⟩) := by rw [ha0]; rfl
  refine wp_region_J (by kernel_rfl) 10 (by kernel_rfl) [[], [0], [], [2], [3], [], [5], [6, 4], [1, 4, 7], [8, 7, 0, 1, 2, 3, 4, 5, 6, 7, 8]] (by kernel_rfl) (by kernel_rfl) (fun f a' W => ∃ u1 u2, HN_q f ∧ a' = acts [(0, 3, .pointer (some ⟨p, 0, none⟩)), (1, 4, .int .i64 n), (2, 5, .pointer (some ⟨p, 1, none⟩)), (3, 6, .slice A h.length c), (4, 7, u1), (5, 8, .pointer (some ⟨p, 2, none⟩)), (6, 9, .slice B b.length d), (7, 10, u2), (8, 11, .agg #[.int .i64 n, u1, u2])] f a0 ∧ Sat G W (opt (f 4) (ownS 5 1 u1 h.length (h.map byteV)) :: opt (f 7) (ownS 5 1 u2 b.length (b.map byteV)) :: blk q (cond (f 9) #[.int .i64 n, u1, u2] #[.int .i64 0, .slice none 0 0, .slice none 0 0]) 41 :: blk p #[.int .i64 n, .slice A h.length c, .slice B b.length d] 41 :: l)) ?_ ?_ ?_
  · exact ⟨.slice none 0 0, .slice none 0 0, (by unfold HN_q; decide), rfl, S2.drew.opt0.opt0⟩
  · refine ⟨?_, ?_, ?_, ?_, ?_, ?_, ?_, ?_, ?_, ?_, trivial⟩
    · rintro f a' W h0 hd ⟨u1, u2, hh, rfl, S⟩
      refine wpOp_run (v := .pointer (some ⟨p, 0, none⟩)) rfl rfl (fun ρ hρ => ?_) ⟨u1, u2, hh, (acts_some 0 rfl (by kernel_rfl) (by kernel_rfl)).symm, S⟩
      have e0 : ρ (.tmp 1) = .pointer (some ⟨p, 0, none⟩) := by rw [hρ]; exact (acts_eval_tmp 1 (by kernel_rfl)).trans E1
      clear hρ
      go_simp
    · rintro f a' W h1 hd ⟨u1, u2, hh, rfl, S⟩
      refine wpOp_run (v := .int .i64 n) rfl rfl (fun ρ hρ => ?_) ⟨u1, u2, hh, (acts_some 1 rfl (by kernel_rfl) (by kernel_rfl)).symm, S⟩
      have e0 : ρ (.tmp 3) = .pointer (some ⟨p, 0, none⟩) := by rw [hρ]; exact acts_eval_hit 0 rfl hd.1 (by rw [HSZ]; rfl) (by kernel_rfl)
      clear hρ
      (have hcl : W.cell? ⟨p, 0, none⟩ = some (.int .i64 n) := S.pull3.cell 0)
      go_simp
    · rintro f a' W h2 hd ⟨u1, u2, hh, rfl, S⟩
      refine wpOp_run (v := .pointer (some ⟨p, 1, none⟩)) rfl rfl (fun ρ hρ => ?_) ⟨u1, u2, hh, (acts_some 2 rfl (by kernel_rfl) (by kernel_rfl)).symm, S⟩
      have e0 : ρ (.tmp 1) = .pointer (some ⟨p, 0, none⟩) := by rw [hρ]; exact (acts_eval_tmp 1 (by kernel_rfl)).trans E1
      clear hρ
      go_simp
    · rintro f a' W h3 hd ⟨u1, u2, hh, rfl, S⟩
      refine wpOp_run (v := .slice A h.length c) rfl rfl (fun ρ hρ => ?_) ⟨u1, u2, hh, (acts_some 3 rfl (by kernel_rfl) (by kernel_rfl)).symm, S⟩
      have e0 : ρ (.tmp 5) = .pointer (some ⟨p, 1, none⟩) := by rw [hρ]; exact acts_eval_hit 2 rfl hd.1 (by rw [HSZ]; rfl) (by kernel_rfl)
      clear hρ
      (have hcl : W.cell? ⟨p, 1, none⟩ = some (.slice A h.length c) := S.pull3.cell 1)
      go_simp
    · rintro f a' W h4 hd ⟨u1, u2, hh, rfl, S⟩
      (have z8 := no_of_q hh.1 h4; have z9 := no_of_q hh.2.2 z8)
      refine wpOp_call rfl rfl (fun ρ hρ => ?_) (bytes_clone S (.slice A h.length c) h (HH.out W (S.drop.drop.drop.drop)).1 h1) ?_
      · skip
        have e0 : ρ (.tmp 6) = .slice A h.length c := by rw [hρ]; exact acts_eval_hit 3 rfl hd.1 (by rw [HSZ]; rfl) (by kernel_rfl)
        have ef : ρ (.func 64) = .func (.func 64) #[] #[] := by rw [hρ]; rfl
        clear hρ
        go_simp
      · (rintro e W' ⟨u, rfl, S'⟩; refine ⟨_, rfl, u, u2, ⟨fun _ => rfl, hh.2.1, hh.2.2⟩, acts_swap (by simp only [acts, h4, z8, Bool.false_eq_true, if_false]) (k := 4) rfl (by kernel_rfl) (by kernel_rfl), ?_⟩; have S9 := S'.drop2; show Sat G W' (_ :: _ :: blk q (cond (f 9) _ _) _ :: _); rw [z9] at S9 ⊢; exact Sat.optI rfl S9)
    · rintro f a' W h5 hd ⟨u1, u2, hh, rfl, S⟩
      refine wpOp_run (v := .pointer (some ⟨p, 2, none⟩)) rfl rfl (fun ρ hρ => ?_) ⟨u1, u2, hh, (acts_some 5 rfl (by kernel_rfl) (by kernel_rfl)).symm, S⟩
      have e0 : ρ (.tmp 1) = .pointer (some ⟨p, 0, none⟩) := by rw [hρ]; exact (acts_eval_tmp 1 (by kernel_rfl)).trans E1
      clear hρ
      go_simp
    · rintro f a' W h6 hd ⟨u1, u2, hh, rfl, S⟩
      refine wpOp_run (v := .slice B b.length d) rfl rfl (fun ρ hρ => ?_) ⟨u1, u2, hh, (acts_some 6 rfl (by kernel_rfl) (by kernel_rfl)).symm, S⟩
      have e0 : ρ (.tmp 8) = .pointer (some ⟨p, 2, none⟩) := by rw [hρ]; exact acts_eval_hit 5 rfl hd.1 (by rw [HSZ]; rfl) (by kernel_rfl)
      clear hρ
      (have hcl : W.cell? ⟨p, 2, none⟩ = some (.slice B b.length d) := S.pull3.cell 2)
      go_simp
    · rintro f a' W h7 hd ⟨u1, u2, hh, rfl, S⟩
      (have z8 := no_of_q hh.2.1 h7; have z9 := no_of_q hh.2.2 z8)
      refine wpOp_call rfl rfl (fun ρ hρ => ?_) (bytes_clone S (.slice B b.length d) b (HB.out W (S.drop.drop.drop.drop)).1 h2) ?_
      · skip
        have e0 : ρ (.tmp 9) = .slice B b.length d := by rw [hρ]; exact acts_eval_hit 6 rfl hd.1 (by rw [HSZ]; rfl) (by kernel_rfl)
        have ef : ρ (.func 64) = .func (.func 64) #[] #[] := by rw [hρ]; rfl
        clear hρ
        go_simp
      · (rintro e W' ⟨u, rfl, S'⟩; refine ⟨_, rfl, u1, u, ⟨hh.1, fun _ => rfl, hh.2.2⟩, acts_swap (by simp only [acts, h7, z8, Bool.false_eq_true, if_false]) (k := 7) rfl (by kernel_rfl) (by kernel_rfl), ?_⟩; have S9 := (S'.pull2).drop; show Sat G W' (_ :: _ :: blk q (cond (f 9) _ _) _ :: _); rw [z9] at S9 ⊢; exact (Sat.optI rfl S9).swap)
    · rintro f a' W h8 hd ⟨u1, u2, hh, rfl, S⟩
      refine wpOp_run (v := .agg #[.int .i64 n, u1, u2]) rfl rfl (fun ρ hρ => ?_) ⟨u1, u2, ⟨fun _ => hd.2.1, fun _ => hd.2.2.1, fun h => rfl⟩, (acts_some 8 rfl (by kernel_rfl) (by kernel_rfl)).symm, S⟩
      have e0 : ρ (.tmp 4) = .int .i64 n := by rw [hρ]; exact acts_eval_hit 1 rfl hd.1 (by rw [HSZ]; rfl) (by kernel_rfl)
      have e1 : ρ (.tmp 7) = u1 := by rw [hρ]; exact acts_eval_hit 4 rfl hd.2.1 (by rw [HSZ]; rfl) (by kernel_rfl)
      have e2 : ρ (.tmp 10) = u2 := by rw [hρ]; exact acts_eval_hit 7 rfl hd.2.2.1 (by rw [HSZ]; rfl) (by kernel_rfl)
      clear hρ
      (have S8 := S; rw [hd.2.1, hd.2.2.1] at S8; obtain ⟨_, _, hu1, -, -, -⟩ := (opt_iff.1 S8).ownForm; obtain ⟨_, _, hu2, -, -, -⟩ := (opt_iff.1 S8.swap).ownForm)
      go_simp
    · rintro f a' W h9 hd ⟨u1, u2, hh, rfl, S⟩
      have q2 : (acts [(0, 3, .pointer (some ⟨p, 0, none⟩)), (1, 4, .int .i64 n), (2, 5, .pointer (some ⟨p, 1, none⟩)), (3, 6, .slice A h.length c), (4, 7, u1), (5, 8, .pointer (some ⟨p, 2, none⟩)), (6, 9, .slice B b.length d), (7, 10, u2), (8, 11, .agg #[.int .i64 n, u1, u2])] f a0).eval (.tmp 2) = .pointer (some ⟨q, 0, none⟩) := (acts_eval_tmp 2 (by kernel_rfl)).trans E2
      have q11 : (acts [(0, 3, .pointer (some ⟨p, 0, none⟩)), (1, 4, .int .i64 n), (2, 5, .pointer (some ⟨p, 1, none⟩)), (3, 6, .slice A h.length c), (4, 7, u1), (5, 8, .pointer (some ⟨p, 2, none⟩)), (6, 9, .slice B b.length d), (7, 10, u2), (8, 11, .agg #[.int .i64 n, u1, u2])] f a0).eval (.tmp 11) = .agg #[.int .i64 n, u1, u2] := acts_eval_hit 8 rfl hd.1 (by rw [HSZ]; rfl) (by kernel_rfl)
      (have z4 := hh.1 hd.1; have z7 := hh.2.1 hd.1; have S8 := S; rw [z4, z7] at S8; obtain ⟨_, _, hu1, -, -, -⟩ := (opt_iff.1 S8).ownForm; obtain ⟨_, _, hu2, -, -, -⟩ := (opt_iff.1 S8.swap).ownForm; rw [h9] at S; refine wpOp_list rfl ?_; refine st_store rfl _ _ _ rfl _ _ q2 q11 _ _ S.pull2 rfl rfl (by simp [Value.oneCell', hu1, hu2]) fun W' S' => ?_; exact ⟨u1, u2, ⟨hh.1, hh.2.1, fun _ => hd.1⟩, (acts_none 9 (by kernel_rfl)).symm, S'.push2⟩)
  · rintro a' W ⟨u1, u2, -, rfl, S7⟩
    subst ha0
    simp only [acts, if_true, Act.put, List.setIfInBounds_toArray, List.set_cons_succ, List.set_cons_zero]
    have S8 := (opt_iff.1 (opt_iff.1 S7).swap).swap.pull2
    change Sat _ _ (blk q #[.int .i64 n, u1, u2] _ :: _) at S8
    have HS := Lib.hid S8
    clear S7 S8 S2 HSZ E1 E2
    go_wp2_with fail
    refine ret_cell HS.out 2 41 rfl _ rfl Tryz.underlying41 rfl (by kernel_rfl) rfl ?_
    exact hK.out _ _ ⟨u1, u2, rfl, (HS.out.drop.pull2).drop⟩
end
end Go.Proofs.YtcecfhfbcdbofaaGreatDoor
set_option linter.unusedSimpArgs false
set_option linter.unusedVariables false
namespace Go.Proofs.YtcecfhfbcdbofaaGreatDoor
open Go.RowKit

abbrev It := Int × List UInt8 × List UInt8
structure Qe where
  n : Int
  hv : Value
  bv : Value
  h : List UInt8
  b : List UInt8
def Qe.enc (x : Qe) : List Value := [.int .i64 x.n, x.hv, x.bv]
def Qe.abs (x : Qe) : It := (x.n, x.h, x.b)
def Qe.ok (R : Hp) (x : Qe) : Prop := SlB (cellR R) x.hv x.h ∧ SlB (cellR R) x.bv x.b
theorem qe_len (x : Qe) : x.enc.length = 3 := rfl
def isz (x : It) : Nat := x.2.1.length + x.2.2.length
def qsz (L : List It) : Nat := (L.map isz).sum
theorem qsz_append (a b : List It) : qsz (a ++ b) = qsz a + qsz b := by simp [qsz]
theorem qsz_cons (x : It) (b : List It) : qsz (x :: b) = isz x + qsz b := by simp [qsz]
theorem qsz_nil : qsz [] = 0 := rfl
structure Ln where
  v : Value
  L : List It
def lenc (x : Ln) : List Value := [x.v, .int .i64 (qsz x.L)]
theorem ln_len (x : Ln) : (lenc x).length = 2 := rfl
/-- A line: its items in memory of its own; their bytes are turned no more. -/
def lnA (x : Ln) : Asrt := ⟨fun R h => ∃ F : List Qe, F.map Qe.abs = x.L ∧ (∀ e ∈ F, e.ok R) ∧ (ownS 41 3 x.v F.length (encs Qe.enc F)).p R h,
  fun hR ⟨F, h1, h2, h3⟩ => ⟨F, h1, fun e he => ⟨(h2 e he).1.up hR, (h2 e he).2.up hR⟩, (ownS 41 3 x.v F.length (encs Qe.enc F)).mono hR h3⟩⟩
/-- The queue at q. -/
def quA (q : Nat) (Q : List (List It)) (B I : Int) : Asrt := ex fun M : List Ln => ex fun v => star (pur (M.map Ln.L = Q) :: blk q #[v, .int .i64 B, .int .i64 I] 111 :: ownS 125 2 v M.length (encs lenc M) :: M.map lnA)
def restA (M : List Ln) (t : Nat) (l : List Asrt) : List Asrt := (M.take t).map lnA ++ ((M.drop (t + 1)).map lnA ++ l)
structure QWf (Q : List (List It)) (B I : Int) : Prop where
  m0 : 1 ≤ Q.length
  m1 : Q.length ≤ 64
  b0 : 0 ≤ B
  b1 : B ≤ 1048576
  i0 : 1 ≤ I
  i1 : I ≤ 4096
  sz : ∀ L ∈ Q, (qsz L : Int) ≤ B ∧ (L.length : Int) ≤ I
def qAt (Q : List (List It)) (t : Int) : List It := if 0 ≤ t then Q.getD t.toNat [] else []
theorem qAt_nat (Q : List (List It)) (t : Nat) : qAt Q t = Q.getD t [] := by unfold qAt; rw [if_pos (by omega)]; simp
theorem QWf.at_ {Q : List (List It)} {B I : Int} (h : QWf Q B I) (t : Nat) : (qsz (Q.getD t []) : Int) ≤ B ∧ ((Q.getD t []).length : Int) ≤ I := by
  by_cases ht : t < Q.length
  · rw [List.getD_eq_getElem?_getD, List.getElem?_eq_getElem ht]; exact h.sz _ (List.getElem_mem ht)
  · rw [List.getD_eq_getElem?_getD, List.getElem?_eq_none (by omega)]
    have := h.b0
    have := h.i0
    exact ⟨by simp [qsz]; omega, by simp; omega⟩
theorem QWf.set {Q : List (List It)} {B I : Int} (h : QWf Q B I) (t : Nat) (L : List It) (h1 : (qsz L : Int) ≤ B) (h2 : (L.length : Int) ≤ I) : QWf (Q.set t L) B I :=
  ⟨by rw [List.length_set]; exact h.m0, by rw [List.length_set]; exact h.m1, h.b0, h.b1, h.i0, h.i1, fun K hK => by
    rcases List.mem_or_eq_of_mem_set hK with hK | rfl
    · exact h.sz K hK
    · exact ⟨h1, h2⟩⟩
section
variable {G : Gnd} {w w' : World} {l : List Asrt} {q : Nat} {Q : List (List It)} {B I : Int}
theorem ln_iff {x : Ln} : Sat G w (lnA x :: l) ↔ ∃ F : List Qe, F.map Qe.abs = x.L ∧ (∀ e ∈ F, e.ok G.ro) ∧ Sat G w (ownS 41 3 x.v F.length (encs Qe.enc F) :: l) := by
  constructor
  · rintro ⟨a, b', c, lo, d, h, f, k, h1, h2, x1, x2, x3, ⟨F, p1, p2, p3⟩, z⟩
    exact ⟨F, p1, p2, a, b', c, lo, d, h, f, k, h1, h2, x1, x2, x3, p3, z⟩
  · rintro ⟨F, p1, p2, H⟩
    exact H.conv fun h hb => ⟨F, p1, p2, hb⟩
theorem qu_iff : Sat G w (quA q Q B I :: l) ↔ ∃ (M : List Ln) (v : Value), M.map Ln.L = Q ∧ Sat G w (blk q #[v, .int .i64 B, .int .i64 I] 111 :: ownS 125 2 v M.length (encs lenc M) :: (M.map lnA ++ l)) := by
  unfold quA
  rw [Sat.ex_iff]
  simp only [Sat.ex_iff, Sat.star_iff, List.cons_append, Sat.pur_iff]
/-- One tenant's line in hand. -/
theorem qu_open (H : Sat G w (quA q Q B I :: l)) (t : Nat) (ht : t < Q.length) : ∃ (M : List Ln) (g cap : Nat) (cur : Array Value) (x : Ln), M.map Ln.L = Q ∧ M.length = Q.length ∧ Lay lenc 2 cap cur M ∧ cap ≤ maxLen ∧ M[t]? = some x ∧ x.L = Q.getD t [] ∧
    Sat G w (lnA x :: blk g cur 125 :: blk q #[.slice (some ⟨g, 0, none⟩) M.length cap, .int .i64 B, .int .i64 I] 111 :: restA M t l) := by
  obtain ⟨M, v, hM, S⟩ := qu_iff.1 H
  have hl : M.length = Q.length := by rw [← hM, List.length_map]
  obtain ⟨g, cap, cur, rfl, hc, hL, S2⟩ := S.swap.layOpen ln_len (by omega)
  have hx : M[t]? = some M[t] := List.getElem?_eq_getElem (by omega)
  refine ⟨M, g, cap, cur, M[t], hM, hl, hL, hc, hx, by have e0 : (M.map Ln.L).getD t [] = M[t].L := (by rw [List.getD_eq_getElem?_getD, List.getElem?_map, hx]; rfl); (rw [hM] at e0; exact e0.symm), ?_⟩
  have e : M.map lnA = (M.take t).map lnA ++ lnA M[t] :: (M.drop (t + 1)).map lnA := by
    conv => lhs; rw [← List.take_append_drop t M, List.map_append, List.drop_eq_getElem_cons (by omega), List.map_cons]
  rw [e, List.append_assoc, List.cons_append] at S2
  have S3 : Sat G w (([blk g cur 125, blk q #[.slice (some ⟨g, 0, none⟩) M.length cap, .int .i64 B, .int .i64 I] 111] ++ (M.take t).map lnA) ++ lnA M[t] :: ((M.drop (t + 1)).map lnA ++ l)) := by simpa using S2
  have S4 := S3.mid
  simpa [restA] using S4
theorem qu_close {M : List Ln} {g cap : Nat} {cur : Array Value} {x : Ln} {t n : Nat} (S : Sat G w (lnA x :: blk g cur 125 :: blk q #[.slice (some ⟨g, 0, none⟩) n cap, .int .i64 B, .int .i64 I] 111 :: restA M t l)) (hn : n = M.length)
    (hM : M.map Ln.L = Q) (ht : t < M.length) (hL : Lay lenc 2 cap cur (M.set t x)) (hc : cap ≤ maxLen) : Sat G w (quA q (Q.set t x.L) B I :: l) := by
  subst hn
  refine qu_iff.2 ⟨M.set t x, .slice (some ⟨g, 0, none⟩) M.length cap, by rw [List.map_set, hM], ?_⟩
  have e : (M.set t x).map lnA = (M.take t).map lnA ++ lnA x :: (M.drop (t + 1)).map lnA := by
    rw [List.set_eq_take_append_cons_drop, if_pos ht]; simp
  have S3 : Sat G w (lnA x :: (([blk g cur 125, blk q #[.slice (some ⟨g, 0, none⟩) M.length cap, .int .i64 B, .int .i64 I] 111] ++ (M.take t).map lnA) ++ ((M.drop (t + 1)).map lnA ++ l))) := by simpa [restA] using S
  have S4 := S3.dim
  have S5 : Sat G w (blk g cur 125 :: blk q #[.slice (some ⟨g, 0, none⟩) M.length cap, .int .i64 B, .int .i64 I] 111 :: ((M.set t x).map lnA ++ l)) := by rw [e]; simpa using S4
  have := (S5.layClose hL hc M.length (by rw [List.length_set])).swap
  exact this
theorem qu_of {g m cap : Nat} (hc : w.cell? ⟨q, 0, none⟩ = some (.slice (some ⟨g, 0, none⟩) m cap)) (t : Nat) (ht : t < m) (hm : m ≤ 64) : Calls Tryz.prog 43 #[.pointer (some ⟨q, 0, none⟩), .int .i64 t] w fun e w' => e = .returned (.pointer (some ⟨g, t * 2, none⟩)) ∧ w = w' := by
  refine calls_any fun K hK => ?_
  have a1 : decide ((t : Int) < 0) = false := decide_eq_false (by omega)
  have a2 : decide ((t : Int) ≥ (m : Int)) = false := decide_eq_false (by omega)
  go_enter Tryz.func43, Tryz.ntmps43
  go_wp2_with fail
  exact hK.out _ _ ⟨rfl, rfl⟩
theorem qu_of_not {v : Value} {A : Option Addr} {m cap : Nat} (hc : w.cell? ⟨q, 0, none⟩ = some (.slice A m cap)) (t : Int) (ht : t < 0 ∨ (m : Int) ≤ t) : Calls Tryz.prog 43 #[.pointer (some ⟨q, 0, none⟩), .int .i64 t] w fun e w' => e = .returned (.pointer none) ∧ w = w' := by
  refine calls_any fun K hK => ?_
  by_cases h : t < 0
  · replace h := decide_eq_true h
    clear ht
    go_enter Tryz.func43, Tryz.ntmps43
    go_wp2_with fail
    exact hK.out _ _ ⟨rfl, rfl⟩
  · have a2 : decide (t ≥ (m : Int)) = true := decide_eq_true (by omega)
    replace h := decide_eq_false h
    clear ht
    go_enter Tryz.func43, Tryz.ntmps43
    go_wp2_with fail
    exact hK.out _ _ ⟨rfl, rfl⟩
theorem qu_lines (H : Sat G w (quA q Q B I :: l)) : ∃ A cap, w.cell? ⟨q, 0, none⟩ = some (.slice A Q.length cap) := by
  obtain ⟨M, v, hM, S⟩ := qu_iff.1 H
  have hl : M.length = Q.length := by rw [← hM, List.length_map]
  obtain ⟨A, cap, rfl, -, -, -⟩ := S.swap.ownSlice
  exact ⟨A, cap, by rw [← hl]; exact S.cell 0⟩
theorem qAt_out {t : Int} (h : t < 0 ∨ (Q.length : Int) ≤ t) : qAt Q t = [] := by
  unfold qAt
  split
  · rw [List.getD_eq_getElem?_getD, List.getElem?_eq_none (by omega)]; rfl
  · rfl
theorem qu_len (H : Sat G w (quA q Q B I :: l)) (hw : QWf Q B I) (t : Int) : Calls Tryz.prog 54 #[.pointer (some ⟨q, 0, none⟩), .int .i64 t] w fun e w' => e = .returned (.int .i64 (qAt Q t).length) ∧ w = w' := by
  refine calls_any fun K hK => ?_
  by_cases ht : t < 0 ∨ (Q.length : Int) ≤ t
  · obtain ⟨A, cap, hc⟩ := qu_lines H
    have ho := qu_of_not (v := .bool true) hc t ht
    rw [qAt_out ht] at hK
    clear H hc ht
    go_enter Tryz.func54, Tryz.ntmps54
    go_wp2_with fail
    (with_reducible refine ho.mono ?_)
    rintro e w1 ⟨rfl, rfl⟩
    go_wp2_with fail
    exact hK.out _ _ ⟨rfl, rfl⟩
  · obtain ⟨t, rfl⟩ : ∃ j : Nat, t = j := ⟨t.toNat, by omega⟩
    rw [qAt_nat] at hK
    obtain ⟨M, g, cap, cur, x, hM, hl, hL, hcap, hx, hxL, S⟩ := qu_open H t (by omega)
    have hc : w.cell? ⟨q, 0, none⟩ = some (.slice (some ⟨g, 0, none⟩) M.length cap) := S.pull2.cell 0
    have ho := qu_of hc t (by omega) (by rw [hl]; exact hw.m1)
    obtain ⟨F, hF, -, S2⟩ := ln_iff.1 S
    obtain ⟨A, c, hv, -, -, -⟩ := S2.ownSlice
    have hfl : F.length = (Q.getD t []).length := by rw [← hxL, ← hF, List.length_map]
    have hc2 : w.cell? ⟨g, t * 2, none⟩ = some (.slice A F.length c) := by
      have := (S.swap.cell (t * 2 + 0)).trans (hL.get hx (j := 0) (by decide))
      simpa [lenc, hv] using this
    rw [← hfl] at hK
    clear H S S2 hL hF hx hxL hfl hv hc
    go_enter Tryz.func54, Tryz.ntmps54
    go_wp2_with fail
    (with_reducible refine ho.mono ?_)
    rintro e w1 ⟨rfl, rfl⟩
    go_wp2_with fail
    exact hK.out _ _ ⟨rfl, rfl⟩
theorem qu_bytes (H : Sat G w (quA q Q B I :: l)) (hw : QWf Q B I) (t : Int) : Calls Tryz.prog 35 #[.pointer (some ⟨q, 0, none⟩), .int .i64 t] w fun e w' => e = .returned (.int .i64 (qsz (qAt Q t))) ∧ w = w' := by
  refine calls_any fun K hK => ?_
  by_cases ht : t < 0 ∨ (Q.length : Int) ≤ t
  · obtain ⟨A, cap, hc⟩ := qu_lines H
    have ho := qu_of_not (v := .bool true) hc t ht
    rw [qAt_out ht] at hK
    clear H hc ht
    go_enter Tryz.func35, Tryz.ntmps35
    go_wp2_with fail
    (with_reducible refine ho.mono ?_)
    rintro e w1 ⟨rfl, rfl⟩
    go_wp2_with fail
    exact hK.out _ _ ⟨rfl, rfl⟩
  · obtain ⟨t, rfl⟩ : ∃ j : Nat, t = j := ⟨t.toNat, by omega⟩
    rw [qAt_nat] at hK
    obtain ⟨M, g, cap, cur, x, hM, hl, hL, hcap, hx, hxL, S⟩ := qu_open H t (by omega)
    have hc : w.cell? ⟨q, 0, none⟩ = some (.slice (some ⟨g, 0, none⟩) M.length cap) := S.pull2.cell 0
    have ho := qu_of hc t (by omega) (by rw [hl]; exact hw.m1)
    have hc2 : w.cell? ⟨g, t * 2 + 1, none⟩ = some (.int .i64 (qsz (Q.getD t []))) := by
      have := (S.swap.cell (t * 2 + 1)).trans (hL.get hx (j := 1) (by decide))
      simpa [lenc, hxL] using this
    generalize qsz (Q.getD t []) = z at *
    clear H S hL hx hxL hc
    go_enter Tryz.func35, Tryz.ntmps35
    go_wp2_with fail
    (with_reducible refine ho.mono ?_)
    rintro e w1 ⟨rfl, rfl⟩
    go_wp2_with fail
    exact hK.out _ _ ⟨rfl, rfl⟩
end
end Go.Proofs.YtcecfhfbcdbofaaGreatDoor
set_option linter.unusedSimpArgs false
set_option linter.unusedVariables false
namespace Go.Proofs.YtcecfhfbcdbofaaGreatDoor
open Go.RowKit

def qRight (t b i : Int) : Bool := decide (1 ≤ t ∧ t ≤ 64 ∧ 0 ≤ b ∧ b ≤ 1048576 ∧ 1 ≤ i ∧ i ≤ 4096)
section
variable {G : Gnd} {w w' : World} {l : List Asrt}
theorem qu_new_not (t b i : Int) (h : qRight t b i = false) (w : World) : Calls Tryz.prog 25 #[.int .i64 t, .int .i64 b, .int .i64 i] w fun e w' => e = .returned (.tuple #[.pointer none, .int .i64 11]) ∧ w = w' := by
  refine calls_any fun K hK => ?_
  have h := of_decide_eq_false h
  by_cases a1 : t < 1
  · go_enter Tryz.func25, Tryz.ntmps25
    go_wp2_with fail
    exact hK.out _ _ ⟨rfl, rfl⟩
  by_cases a2 : 64 < t
  · go_enter Tryz.func25, Tryz.ntmps25
    go_wp2_with fail
    exact hK.out _ _ ⟨rfl, rfl⟩
  by_cases a3 : b < 0
  · go_enter Tryz.func25, Tryz.ntmps25
    go_wp2_with fail
    exact hK.out _ _ ⟨rfl, rfl⟩
  by_cases a4 : 1048576 < b
  · go_enter Tryz.func25, Tryz.ntmps25
    go_wp2_with fail
    exact hK.out _ _ ⟨rfl, rfl⟩
  by_cases a5 : i < 1
  · go_enter Tryz.func25, Tryz.ntmps25
    go_wp2_with fail
    exact hK.out _ _ ⟨rfl, rfl⟩
  · have a6 : 4096 < i := by omega
    go_enter Tryz.func25, Tryz.ntmps25
    go_wp2_with fail
    exact hK.out _ _ ⟨rfl, rfl⟩
theorem lns_nil (m : Nat) (H : Sat G w l) : Sat G w ((List.replicate m (⟨.slice none 0 0, []⟩ : Ln)).map lnA ++ l) := by
  induction m with
  | zero => exact H
  | succ m ih =>
    rw [List.replicate_succ, List.map_cons, List.cons_append]
    exact ln_iff.2 ⟨[], rfl, (fun e he => by cases he), ih.ownNil _ _⟩
set_option maxHeartbeats 1000000 in
theorem qu_new (H : Sat G w l) (t : Nat) (b i : Int) (h : qRight t b i = true) : Calls Tryz.prog 25 #[.int .i64 t, .int .i64 b, .int .i64 i] w fun e w' => ∃ q, e = .returned (.tuple #[.pointer (some ⟨q, 0, none⟩), .int .i64 0]) ∧ Sat G w' (quA q (List.replicate t []) b i :: l) := by
  refine calls_any fun K hK => ?_
  obtain ⟨a1, a2, a3, a4, a5, a6⟩ := of_decide_eq_true h
  clear h
  have hmk := run_make_any (P := Tryz.prog) 109 125 (.agg #[.slice none 0 0, .int .i64 0]) 2 32 Tryz.underlying109 (by kernel_rfl) t (by omega) (by omega)
  have S1 := (lns_nil t H).newBlk (madeCells #[.slice none 0 0, .int .i64 0] (t * 2)) 125
  have hme := made_encs ln_len (by decide) (⟨.slice none 0 0, []⟩ : Ln) #[.slice none 0 0, .int .i64 0] rfl t
  have S2 := (S1.ownBlk (size := 2) t (by simp [madeCells]) (Nat.le_trans (show t ≤ 64 by omega) (by decide))).newBlk #[.slice (some ⟨w.heap.size, 0, none⟩) t t, .int .i64 b, .int .i64 i] 111
  rw [hme] at S2
  simp only [World.size_alloc] at S2
  have HS : Hid (Sat G _ (quA _ (List.replicate t []) b i :: l)) := Lib.hid (qu_iff.2 ⟨List.replicate t ⟨.slice none 0 0, []⟩, _, by simp, by rw [List.length_replicate]; exact S2⟩)
  clear S1 S2 hme
  go_enter Tryz.func25, Tryz.ntmps25
  go_wp2_with fail
  exact hK.out _ _ ⟨_, rfl, HS.out⟩
end
end Go.Proofs.YtcecfhfbcdbofaaGreatDoor
set_option linter.unusedSimpArgs false
set_option linter.unusedVariables false
namespace Go.Proofs.YtcecfhfbcdbofaaGreatDoor
open Go.RowKit

def putQ (Q : List (List It)) (B I t : Int) (x : It) : List (List It) × Int :=
  if t < 0 ∨ (Q.length : Int) ≤ t then (Q, 11)
  else if I ≤ (qAt Q t).length ∨ B < (qsz (qAt Q t) : Int) + isz x then (Q, 33)
  else (Q.set t.toNat (qAt Q t ++ [x]), 0)
theorem putQ_wf {Q : List (List It)} {B I t : Int} {x : It} (h : QWf Q B I) : QWf (putQ Q B I t x).1 B I := by
  unfold putQ
  by_cases h1 : t < 0 ∨ (Q.length : Int) ≤ t
  · rw [if_pos h1]; exact h
  rw [if_neg h1]
  by_cases h2 : I ≤ (qAt Q t).length ∨ B < (qsz (qAt Q t) : Int) + isz x
  · rw [if_pos h2]; exact h
  rw [if_neg h2]
  refine h.set _ _ ?_ ?_
  · rw [qsz_append, qsz_cons, qsz_nil]; omega
  · rw [List.length_append]; simp; omega
theorem info_it : (Tryz.prog.info? 41).map (fun i => (i.zero, i.size, i.bytes)) = some (some (.agg #[.int .i64 0, .slice none 0 0, .slice none 0 0]), 3, 56) := by kernel_rfl
theorem lay_two {M : List Ln} {cap t : Nat} {cur : Array Value} {x : Ln} (hL : Lay lenc 2 cap cur M) (hx : M[t]? = some x) : cur[t * 2]? = some x.v ∧ cur[t * 2 + 1]? = some (.int .i64 (qsz x.L)) ∧ t * 2 + 1 < cur.size := by
  have h0 := hL.get hx (j := 0) (by decide)
  have h1 := hL.get hx (j := 1) (by decide)
  have h2 := hL.room (i := t) (List.getElem?_eq_some_iff.1 hx).1
  exact ⟨by simpa [lenc] using h0, by simpa [lenc] using h1, by omega⟩
theorem lay_put {M : List Ln} {cap t : Nat} {cur : Array Value} (hL : Lay lenc 2 cap cur M) (ht : t < M.length) (x : Ln) (z : Int) (hz : z = (qsz x.L : Nat)) : Lay lenc 2 cap ((cur.setIfInBounds (t * 2) x.v).setIfInBounds (t * 2 + 1) (.int .i64 z)) (M.set t x) := by
  subst hz
  exact hL.set ht x
section
variable {G : Gnd} {w w' : World} {l : List Asrt} {q : Nat} {Q : List (List It)} {B I : Int}
theorem restA_gone {M : List Ln} {t : Nat} (S : Sat G w (restA M t l)) : Sat G w l := Sat.dropL _ (Sat.dropL _ S)
theorem qu_shut {M : List Ln} {g cap m : Nat} {cur : Array Value} {v : Value} {F : List Qe} {L' : List It} {t N : Nat} (S : Sat G w (blk g cur 125 :: blk q #[.slice (some ⟨g, 0, none⟩) m cap, .int .i64 B, .int .i64 I] 111 :: ownS 41 3 v N (encs Qe.enc F) :: ((M.take t).map lnA ++ ((M.drop (t + 1)).map lnA ++ l))))
    (hm : m = M.length) (hN : N = F.length) (hM : M.map Ln.L = Q) (ht : t < M.length) (hL : Lay lenc 2 cap cur (M.set t ⟨v, L'⟩)) (hc : cap ≤ maxLen) (hF : F.map Qe.abs = L') (hFo : ∀ e ∈ F, e.ok G.ro) : Sat G w (quA q (Q.set t L') B I :: l) := by
  subst hN
  exact qu_close (x := ⟨v, L'⟩) (ln_iff.2 ⟨F, hF, hFo, S.pull2⟩) hm hM ht hL hc
theorem set_same_q {α : Type} {M : List α} {t : Nat} {x : α} (h : M[t]? = some x) : M.set t x = M := by
  have ht := (List.getElem?_eq_some_iff.1 h).1
  have he := (List.getElem?_eq_some_iff.1 h).2
  apply List.ext_getElem?
  intro k
  by_cases hk : k = t
  · subst hk; rw [List.getElem?_set_self ht, h]
  · rw [List.getElem?_set_ne (by omega)]
theorem set_getD {Q : List (List It)} {t : Nat} (h : t < Q.length) : Q.set t (Q.getD t []) = Q := set_same_q (by rw [List.getD_eq_getElem?_getD, List.getElem?_eq_getElem h]; rfl)
def HN6 (f : Nat → Bool) : Prop := (f 7 = true → f 6 = true) ∧ (f 8 = true → f 7 = true) ∧ (f 8 = true → f 4 = true) ∧ (f 11 = true → f 8 = true)
def HN7 (f : Nat → Bool) : Prop := f 9 = true → f 3 = true
set_option maxHeartbeats 8000000 in
set_option maxRecDepth 100000 in
theorem qu_put (H : Sat G w (quA q Q B I :: l)) (hw : QWf Q B I) (t : Int) (n : Int) (hv bv : Value) (h b : List UInt8) (hh : ∀ W, Sat G W l → SlB W.cell? hv h) (hb : ∀ W, Sat G W l → SlB W.cell? bv b) (h1 : h.length ≤ 140737488355328) (h2 : b.length ≤ 140737488355328) :
    Calls Tryz.prog 29 #[.pointer (some ⟨q, 0, none⟩), .int .i64 t, .agg #[.int .i64 n, hv, bv]] w fun e w' => ∃ G', G.le G' ∧ e = .returned (.int .i64 (putQ Q B I t (n, h, b)).2) ∧ Sat G' w' (quA q (putQ Q B I t (n, h, b)).1 B I :: l) := by
  refine calls_any fun K hK => ?_
  have HH := Lib.hid hh
  have HB := Lib.hid hb
  obtain ⟨A, c, rfl, -, -, -⟩ := (hh w H.drop).form
  obtain ⟨D, d, rfl, -, -, -⟩ := (hb w H.drop).form
  clear hh hb
  have S1 := H.newBlk #[.int .i64 n, .slice A h.length c, .slice D b.length d] 41
  unfold putQ at hK
  by_cases ht : t < 0 ∨ (Q.length : Int) ≤ t
  · rw [if_pos ht] at hK
    obtain ⟨X, cap, hc⟩ := qu_lines S1.swap
    have ho := qu_of_not (v := .bool true) hc t ht
    have HS := Lib.hid S1.drop
    clear H S1 hc ht
    go_enter Tryz.func29, Tryz.ntmps29
    go_wp2_with fail
    (with_reducible refine ho.mono ?_)
    rintro e w1 ⟨rfl, rfl⟩
    go_wp2_with fail
    exact hK.out _ _ ⟨G, Gnd.le.rfl', rfl, HS.out⟩
  rw [if_neg ht] at hK
  obtain ⟨t, rfl⟩ : ∃ j : Nat, t = j := ⟨t.toNat, by omega⟩
  rw [qAt_nat] at hK
  have hat := hw.at_ t
  obtain ⟨M, g, cap, cur, x, hM, hl, hL, hcap, hx, hxL, S⟩ := qu_open S1.swap t (by omega)
  have hc : (w.alloc (.cells #[.int .i64 n, .slice A h.length c, .slice D b.length d] 41)).cell? ⟨q, 0, none⟩ = some (.slice (some ⟨g, 0, none⟩) M.length cap) := S.pull2.cell 0
  have ho := qu_of hc t (by omega) (by rw [hl]; exact hw.m1)
  obtain ⟨F, hF, hFo, S2⟩ := ln_iff.1 S
  obtain ⟨xv, xL⟩ := x
  simp only at hF hxL S2
  subst hxL
  obtain ⟨X, cx, hxv, hcx1, hcx2, -⟩ := S2.ownSlice
  subst hxv
  obtain ⟨e0, e1, e2⟩ := lay_two hL hx
  simp only at e0 e1
  have hfl : F.length = (Q.getD t []).length := by rw [← hF, List.length_map]
  have hb0 := hw.b0
  have hb1 := hw.b1
  have hi1 := hw.i1
  have hml : M.length ≤ 64 := by rw [hl]; exact hw.m1
  have HML := Lib.hid hl
  have hit : isz (n, h, b) = h.length + b.length := rfl
  have HC0 := Lib.hid e0
  have HC1 := Lib.hid e1
  have hP : Sat G (w.alloc (.cells #[.int .i64 n, .slice A h.length c, .slice D b.length d] 41)) (blk w.heap.size #[.int .i64 n, .slice A h.length c, .slice D b.length d] 41 :: blk g cur 125 :: blk q #[.slice (some ⟨g, 0, none⟩) M.length cap, .int .i64 B, .int .i64 I] 111 :: (ownS 41 3 (.slice X F.length cx) F.length (encs Qe.enc F) :: ((M.take t).map lnA ++ ((M.drop (t + 1)).map lnA ++ l)))) := by
    have S3 : Sat G (w.alloc (.cells #[.int .i64 n, .slice A h.length c, .slice D b.length d] 41)) (([ownS 41 3 (.slice X F.length cx) F.length (encs Qe.enc F), blk g cur 125, blk q #[.slice (some ⟨g, 0, none⟩) M.length cap, .int .i64 B, .int .i64 I] 111] ++ ((M.take t).map lnA ++ (M.drop (t + 1)).map lnA)) ++ blk w.heap.size #[.int .i64 n, .slice A h.length c, .slice D b.length d] 41 :: l) := by simpa [restA] using S2
    have S4 := S3.mid.re [0, 2, 3, 1]
    simpa using S4
  clear S1 S S2 H e0 e1 hc hcx1
  rw [hit, ← hfl] at hK
  obtain ⟨sx, hsx⟩ : ∃ sx, sx = h.length + b.length := ⟨_, rfl⟩
  rw [← hsx] at hK
  have HSX : Hid (h.length + b.length = sx) := Lib.hid hsx.symm
  have HXS := Lib.hid hF
  clear hit
  have HFL := Lib.hid hfl
  rw [← hfl] at hat
  obtain ⟨N, hN⟩ : ∃ N, N = F.length := ⟨_, rfl⟩
  obtain ⟨z, hz⟩ : ∃ z, z = qsz (Q.getD t []) := ⟨_, rfl⟩
  rw [← hN] at hP HC0 hat hK
  rw [← hz] at HC1 hK hat
  obtain ⟨m, hm⟩ : ∃ m, m = M.length := ⟨_, rfl⟩
  rw [← hm] at hP hml
  have HM2 := Lib.hid hm
  have HN0 := Lib.hid hN
  have HZ := Lib.hid hz
  clear hN hz hm hfl hl hF
  obtain ⟨l2, hl2⟩ : ∃ l2, l2 = ownS 41 3 (.slice X N cx) N (encs Qe.enc F) :: ((M.take t).map lnA ++ ((M.drop (t + 1)).map lnA ++ l)) := ⟨_, rfl⟩
  rw [← hl2] at hP
  have HL2 := Lib.hid hl2
  clear hl2
  have hsx1 : sx ≤ 281474976710656 := by omega
  clear hsx
  obtain ⟨ha1, ha2⟩ := hat
  have hwz : IntKind.i64.wrap ((z : Int) + sx) = (z : Int) + sx := IntWalk.i64_in _ (by omega)
  by_cases hq1 : I ≤ (N : Int)
  · rw [if_pos (Or.inl hq1)] at hK
    have hd1 : decide ((N : Int) ≥ I) = true := decide_eq_true hq1
    go_enter Tryz.func29, Tryz.ntmps29
    go_wp2_with fail
    (with_reducible refine ho.mono ?_)
    rintro e w1 ⟨rfl, rfl⟩
    go_upto_region 4 with fail
    generalize w.heap.size = p at *
    refine wp_world hP fun w2 S5 => ?_
    clear hP ho
    refine wp_act fun a0 ha0 => ?_
    have HSZ : a0.tmps.size = 59 := by rw [ha0]; rfl
    have E0 : a0.eval (.tmp 0) = .pointer (some ⟨q, 0, none⟩) := by rw [ha0]; rfl
    have E5 : a0.eval (.tmp 5) = .pointer (some ⟨p, 0, none⟩) := by rw [ha0]; rfl
    have E7 : a0.eval (.tmp 7) = .pointer (some ⟨g, t * 2, none⟩) := by rw [ha0]; rfl
    refine wp_region_sat (by kernel_rfl) 25 (by kernel_rfl) [[], [0], [1], [2], [3], [], [5], [6], [7], [4, 8], [9], [10], [11, 10], [12, 10], [13, 10], [10], [15, 10, 10], [14, 16, 10], [10], [18, 10], [19, 10], [20, 10], [17, 21, 10], [10, 22], [23, 16]] (by kernel_rfl) (by kernel_rfl) [(0, 15, .pointer (some ⟨g, t * 2, none⟩)), (1, 16, .pointer (some ⟨g, t * 2, none⟩)), (2, 17, .pointer (some ⟨g, t * 2, none⟩)), (3, 18, .slice X N cx), (4, 19, .int .i64 N), (5, 20, .pointer (some ⟨q, 0, none⟩)), (6, 21, .pointer (some ⟨q, 0, none⟩)), (7, 22, .pointer (some ⟨q, 2, none⟩)), (8, 23, .int .i64 I), (9, 24, .bool true), (10, 25, .bool true), (11, 26, undef), (12, 27, undef), (13, 28, undef), (14, 29, undef), (15, 30, undef), (16, 31, undef), (17, 32, undef), (18, 33, undef), (19, 34, undef), (20, 35, undef), (21, 36, undef), (22, 37, undef), (23, 38, .bool true), (24, 14, .bool true)] (fun _ => blk p #[.int .i64 n, .slice A h.length c, .slice D b.length d] 41 :: blk g cur 125 :: blk q #[.slice (some ⟨g, 0, none⟩) m cap, .int .i64 B, .int .i64 I] 111 :: l2) (by kernel_rfl) S5 ?_ ?_
    · refine ⟨?_, ?_, ?_, ?_, ?_, ?_, ?_, ?_, ?_, ?_, ?_, ?_, ?_, ?_, ?_, ?_, ?_, ?_, ?_, ?_, ?_, ?_, ?_, ?_, ?_, trivial⟩
      · intro f W h0 hd S
        refine wpOp_run (v := .pointer (some ⟨g, t * 2, none⟩)) rfl rfl (fun ρ hρ => ?_) ⟨(acts_some 0 rfl (by kernel_rfl) (by kernel_rfl)).symm, S⟩
        have e0 : ρ (.tmp 7) = .pointer (some ⟨g, t * 2, none⟩) := by rw [hρ]; exact (acts_eval_tmp 7 (by kernel_rfl)).trans E7
        clear hρ
        go_simp
      · intro f W h1 hd S
        refine wpOp_run (v := .pointer (some ⟨g, t * 2, none⟩)) rfl rfl (fun ρ hρ => ?_) ⟨(acts_some 1 rfl (by kernel_rfl) (by kernel_rfl)).symm, S⟩
        have e0 : ρ (.tmp 15) = .pointer (some ⟨g, t * 2, none⟩) := by rw [hρ]; exact acts_eval_hit 0 rfl hd.1 (by rw [HSZ]; rfl) (by kernel_rfl)
        clear hρ
        go_simp
      · intro f W h2 hd S
        refine wpOp_run (v := .pointer (some ⟨g, t * 2, none⟩)) rfl rfl (fun ρ hρ => ?_) ⟨(acts_some 2 rfl (by kernel_rfl) (by kernel_rfl)).symm, S⟩
        have e0 : ρ (.tmp 16) = .pointer (some ⟨g, t * 2, none⟩) := by rw [hρ]; exact acts_eval_hit 1 rfl hd.1 (by rw [HSZ]; rfl) (by kernel_rfl)
        clear hρ
        go_simp
      · intro f W h3 hd S
        refine wpOp_run (v := .slice X N cx) rfl rfl (fun ρ hρ => ?_) ⟨(acts_some 3 rfl (by kernel_rfl) (by kernel_rfl)).symm, S⟩
        have e0 : ρ (.tmp 17) = .pointer (some ⟨g, t * 2, none⟩) := by rw [hρ]; exact acts_eval_hit 2 rfl hd.1 (by rw [HSZ]; rfl) (by kernel_rfl)
        clear hρ
        (have hcl : W.cell? ⟨g, t * 2, none⟩ = some (.slice X N cx) := (S.swap.cell (t * 2)).trans HC0.out)
        go_simp
      · intro f W h4 hd S
        refine wpOp_run (v := .int .i64 N) rfl rfl (fun ρ hρ => ?_) ⟨(acts_some 4 rfl (by kernel_rfl) (by kernel_rfl)).symm, S⟩
        have e0 : ρ (.tmp 18) = .slice X N cx := by rw [hρ]; exact acts_eval_hit 3 rfl hd.1 (by rw [HSZ]; rfl) (by kernel_rfl)
        clear hρ
        go_simp
      · intro f W h5 hd S
        refine wpOp_run (v := .pointer (some ⟨q, 0, none⟩)) rfl rfl (fun ρ hρ => ?_) ⟨(acts_some 5 rfl (by kernel_rfl) (by kernel_rfl)).symm, S⟩
        have e0 : ρ (.tmp 0) = .pointer (some ⟨q, 0, none⟩) := by rw [hρ]; exact (acts_eval_tmp 0 (by kernel_rfl)).trans E0
        clear hρ
        go_simp
      · intro f W h6 hd S
        refine wpOp_run (v := .pointer (some ⟨q, 0, none⟩)) rfl rfl (fun ρ hρ => ?_) ⟨(acts_some 6 rfl (by kernel_rfl) (by kernel_rfl)).symm, S⟩
        have e0 : ρ (.tmp 20) = .pointer (some ⟨q, 0, none⟩) := by rw [hρ]; exact acts_eval_hit 5 rfl hd.1 (by rw [HSZ]; rfl) (by kernel_rfl)
        clear hρ
        go_simp
      · intro f W h7 hd S
        refine wpOp_run (v := .pointer (some ⟨q, 2, none⟩)) rfl rfl (fun ρ hρ => ?_) ⟨(acts_some 7 rfl (by kernel_rfl) (by kernel_rfl)).symm, S⟩
        have e0 : ρ (.tmp 21) = .pointer (some ⟨q, 0, none⟩) := by rw [hρ]; exact acts_eval_hit 6 rfl hd.1 (by rw [HSZ]; rfl) (by kernel_rfl)
        clear hρ
        go_simp
      · intro f W h8 hd S
        refine wpOp_run (v := .int .i64 I) rfl rfl (fun ρ hρ => ?_) ⟨(acts_some 8 rfl (by kernel_rfl) (by kernel_rfl)).symm, S⟩
        have e0 : ρ (.tmp 22) = .pointer (some ⟨q, 2, none⟩) := by rw [hρ]; exact acts_eval_hit 7 rfl hd.1 (by rw [HSZ]; rfl) (by kernel_rfl)
        clear hρ
        (have hcl : W.cell? ⟨q, 2, none⟩ = some (.int .i64 I) := S.pull2.cell 2)
        go_simp
      · intro f W h9 hd S
        refine wpOp_run (v := .bool true) rfl rfl (fun ρ hρ => ?_) ⟨(acts_some 9 rfl (by kernel_rfl) (by kernel_rfl)).symm, S⟩
        have e0 : ρ (.tmp 19) = .int .i64 N := by rw [hρ]; exact acts_eval_hit 4 rfl hd.1 (by rw [HSZ]; rfl) (by kernel_rfl)
        have e1 : ρ (.tmp 23) = .int .i64 I := by rw [hρ]; exact acts_eval_hit 8 rfl hd.2.1 (by rw [HSZ]; rfl) (by kernel_rfl)
        clear hρ
        go_simp
      · intro f W h10 hd S
        refine wpOp_run (v := .bool true) rfl rfl (fun ρ hρ => ?_) ⟨(acts_some 10 rfl (by kernel_rfl) (by kernel_rfl)).symm, S⟩
        have e0 : ρ (.tmp 24) = .bool true := by rw [hρ]; exact acts_eval_hit 9 rfl hd.1 (by rw [HSZ]; rfl) (by kernel_rfl)
        clear hρ
        go_simp
      · intro f W h11 hd S
        refine wpOp_skip rfl (wanted_miss (t := 25) rfl rfl (acts_eval_hit 10 rfl hd.1 (by rw [HSZ]; rfl) (by kernel_rfl)) (by decide)) ⟨(acts_some 11 rfl (by kernel_rfl) (by kernel_rfl)).symm, S⟩
      · intro f W h12 hd S
        refine wpOp_skip rfl (wanted_miss (t := 25) rfl rfl (acts_eval_hit 10 rfl hd.2.1 (by rw [HSZ]; rfl) (by kernel_rfl)) (by decide)) ⟨(acts_some 12 rfl (by kernel_rfl) (by kernel_rfl)).symm, S⟩
      · intro f W h13 hd S
        refine wpOp_skip rfl (wanted_miss (t := 25) rfl rfl (acts_eval_hit 10 rfl hd.2.1 (by rw [HSZ]; rfl) (by kernel_rfl)) (by decide)) ⟨(acts_some 13 rfl (by kernel_rfl) (by kernel_rfl)).symm, S⟩
      · intro f W h14 hd S
        refine wpOp_skip rfl (wanted_miss (t := 25) rfl rfl (acts_eval_hit 10 rfl hd.2.1 (by rw [HSZ]; rfl) (by kernel_rfl)) (by decide)) ⟨(acts_some 14 rfl (by kernel_rfl) (by kernel_rfl)).symm, S⟩
      · intro f W h15 hd S
        refine wpOp_skip rfl (wanted_miss (t := 25) rfl rfl (acts_eval_hit 10 rfl hd.1 (by rw [HSZ]; rfl) (by kernel_rfl)) (by decide)) ⟨(acts_some 15 rfl (by kernel_rfl) (by kernel_rfl)).symm, S⟩
      · intro f W h16 hd S
        refine wpOp_skip rfl (wanted_miss (t := 25) rfl rfl (acts_eval_hit 10 rfl hd.2.1 (by rw [HSZ]; rfl) (by kernel_rfl)) (by decide)) ⟨(acts_some 16 rfl (by kernel_rfl) (by kernel_rfl)).symm, S⟩
      · intro f W h17 hd S
        refine wpOp_skip rfl (wanted_miss (t := 25) rfl rfl (acts_eval_hit 10 rfl hd.2.2.1 (by rw [HSZ]; rfl) (by kernel_rfl)) (by decide)) ⟨(acts_some 17 rfl (by kernel_rfl) (by kernel_rfl)).symm, S⟩
      · intro f W h18 hd S
        refine wpOp_skip rfl (wanted_miss (t := 25) rfl rfl (acts_eval_hit 10 rfl hd.1 (by rw [HSZ]; rfl) (by kernel_rfl)) (by decide)) ⟨(acts_some 18 rfl (by kernel_rfl) (by kernel_rfl)).symm, S⟩
      · intro f W h19 hd S
        refine wpOp_skip rfl (wanted_miss (t := 25) rfl rfl (acts_eval_hit 10 rfl hd.2.1 (by rw [HSZ]; rfl) (by kernel_rfl)) (by decide)) ⟨(acts_some 19 rfl (by kernel_rfl) (by kernel_rfl)).symm, S⟩
      · intro f W h20 hd S
        refine wpOp_skip rfl (wanted_miss (t := 25) rfl rfl (acts_eval_hit 10 rfl hd.2.1 (by rw [HSZ]; rfl) (by kernel_rfl)) (by decide)) ⟨(acts_some 20 rfl (by kernel_rfl) (by kernel_rfl)).symm, S⟩
      · intro f W h21 hd S
        refine wpOp_skip rfl (wanted_miss (t := 25) rfl rfl (acts_eval_hit 10 rfl hd.2.1 (by rw [HSZ]; rfl) (by kernel_rfl)) (by decide)) ⟨(acts_some 21 rfl (by kernel_rfl) (by kernel_rfl)).symm, S⟩
      · intro f W h22 hd S
        refine wpOp_skip rfl (wanted_miss (t := 25) rfl rfl (acts_eval_hit 10 rfl hd.2.2.1 (by rw [HSZ]; rfl) (by kernel_rfl)) (by decide)) ⟨(acts_some 22 rfl (by kernel_rfl) (by kernel_rfl)).symm, S⟩
      · intro f W h23 hd S
        refine wpOp_run (v := .bool true) rfl rfl (fun ρ hρ => ?_) ⟨(acts_some 23 rfl (by kernel_rfl) (by kernel_rfl)).symm, S⟩
        have e0 : ρ (.tmp 25) = .bool true := by rw [hρ]; exact acts_eval_hit 10 rfl hd.1 (by rw [HSZ]; rfl) (by kernel_rfl)
        have e1 : ρ (.tmp 37) = undef := by rw [hρ]; exact acts_eval_hit 22 rfl hd.2.1 (by rw [HSZ]; rfl) (by kernel_rfl)
        have ec : ∀ v, ρ (.const v) = v := by rw [hρ]; exact fun _ => rfl
        clear hρ
        go_simp
      · intro f W h24 hd S
        refine wpOp_run (v := .bool true) rfl rfl (fun ρ hρ => ?_) ⟨(acts_some 24 rfl (by kernel_rfl) (by kernel_rfl)).symm, S⟩
        have e0 : ρ (.tmp 38) = .bool true := by rw [hρ]; exact acts_eval_hit 23 rfl hd.1 (by rw [HSZ]; rfl) (by kernel_rfl)
        clear hρ
        go_simp
    · skip
      intro W S6
      subst ha0
      simp only [acts, if_true, Act.put, List.setIfInBounds_toArray, List.set_cons_succ, List.set_cons_zero]
      clear HSZ E0 E5 E7
      have HS6 := Lib.hid S6
      clear S6 S5
      go_wp2_with fail
      refine hK.out _ _ ⟨G, Gnd.le.rfl', rfl, ?_⟩
      have S7 := HS6.out.drop
      rw [HL2.out] at S7
      have hsh := qu_shut S7 HM2.out HN0.out hM (by rw [HML.out]; omega) (by rw [← HN0.out] at hx; rw [set_same_q hx]; exact hL) hcap HXS.out hFo
      rw [set_getD (by omega)] at hsh
      exact hsh
  · by_cases hq2 : B < (z : Int) + sx
    · rw [if_pos (Or.inr hq2)] at hK
      have hd1 : decide ((N : Int) ≥ I) = false := decide_eq_false hq1
      have hd2 : decide ((z : Int) + sx > B) = true := decide_eq_true hq2
      go_enter Tryz.func29, Tryz.ntmps29
      go_wp2_with fail
      (with_reducible refine ho.mono ?_)
      rintro e w1 ⟨rfl, rfl⟩
      go_upto_region 4 with fail
      generalize w.heap.size = p at *
      refine wp_world hP fun w2 S5 => ?_
      clear hP ho
      refine wp_act fun a0 ha0 => ?_
      have HSZ : a0.tmps.size = 59 := by rw [ha0]; rfl
      have E0 : a0.eval (.tmp 0) = .pointer (some ⟨q, 0, none⟩) := by rw [ha0]; rfl
      have E5 : a0.eval (.tmp 5) = .pointer (some ⟨p, 0, none⟩) := by rw [ha0]; rfl
      have E7 : a0.eval (.tmp 7) = .pointer (some ⟨g, t * 2, none⟩) := by rw [ha0]; rfl
      refine wp_region_sat (by kernel_rfl) 25 (by kernel_rfl) [[], [0], [1], [2], [3], [], [5], [6], [7], [4, 8], [9], [10], [11, 10], [12, 10], [13, 10], [10], [15, 10, 10], [14, 16, 10], [10], [18, 10], [19, 10], [20, 10], [17, 21, 10], [10, 22], [23, 16]] (by kernel_rfl) (by kernel_rfl) [(0, 15, .pointer (some ⟨g, t * 2, none⟩)), (1, 16, .pointer (some ⟨g, t * 2, none⟩)), (2, 17, .pointer (some ⟨g, t * 2, none⟩)), (3, 18, .slice X N cx), (4, 19, .int .i64 N), (5, 20, .pointer (some ⟨q, 0, none⟩)), (6, 21, .pointer (some ⟨q, 0, none⟩)), (7, 22, .pointer (some ⟨q, 2, none⟩)), (8, 23, .int .i64 I), (9, 24, .bool false), (10, 25, .bool false), (11, 26, .pointer (some ⟨g, t * 2, none⟩)), (12, 27, .pointer (some ⟨g, t * 2, none⟩)), (13, 28, .pointer (some ⟨g, t * 2 + 1, none⟩)), (14, 29, .int .i64 z), (15, 30, .agg #[.int .i64 n, .slice A h.length c, .slice D b.length d]), (16, 31, .int .i64 sx), (17, 32, .int .i64 ((z : Int) + sx)), (18, 33, .pointer (some ⟨q, 0, none⟩)), (19, 34, .pointer (some ⟨q, 0, none⟩)), (20, 35, .pointer (some ⟨q, 1, none⟩)), (21, 36, .int .i64 B), (22, 37, .bool true), (23, 38, .bool true), (24, 14, .bool true)] (fun _ => blk p #[.int .i64 n, .slice A h.length c, .slice D b.length d] 41 :: blk g cur 125 :: blk q #[.slice (some ⟨g, 0, none⟩) m cap, .int .i64 B, .int .i64 I] 111 :: l2) (by kernel_rfl) S5 ?_ ?_
      · refine ⟨?_, ?_, ?_, ?_, ?_, ?_, ?_, ?_, ?_, ?_, ?_, ?_, ?_, ?_, ?_, ?_, ?_, ?_, ?_, ?_, ?_, ?_, ?_, ?_, ?_, trivial⟩
        · intro f W h0 hd S
          refine wpOp_run (v := .pointer (some ⟨g, t * 2, none⟩)) rfl rfl (fun ρ hρ => ?_) ⟨(acts_some 0 rfl (by kernel_rfl) (by kernel_rfl)).symm, S⟩
          have e0 : ρ (.tmp 7) = .pointer (some ⟨g, t * 2, none⟩) := by rw [hρ]; exact (acts_eval_tmp 7 (by kernel_rfl)).trans E7
          clear hρ
          go_simp
        · intro f W h1 hd S
          refine wpOp_run (v := .pointer (some ⟨g, t * 2, none⟩)) rfl rfl (fun ρ hρ => ?_) ⟨(acts_some 1 rfl (by kernel_rfl) (by kernel_rfl)).symm, S⟩
          have e0 : ρ (.tmp 15) = .pointer (some ⟨g, t * 2, none⟩) := by rw [hρ]; exact acts_eval_hit 0 rfl hd.1 (by rw [HSZ]; rfl) (by kernel_rfl)
          clear hρ
          go_simp
        · intro f W h2 hd S
          refine wpOp_run (v := .pointer (some ⟨g, t * 2, none⟩)) rfl rfl (fun ρ hρ => ?_) ⟨(acts_some 2 rfl (by kernel_rfl) (by kernel_rfl)).symm, S⟩
          have e0 : ρ (.tmp 16) = .pointer (some ⟨g, t * 2, none⟩) := by rw [hρ]; exact acts_eval_hit 1 rfl hd.1 (by rw [HSZ]; rfl) (by kernel_rfl)
          clear hρ
          go_simp
        · intro f W h3 hd S
          refine wpOp_run (v := .slice X N cx) rfl rfl (fun ρ hρ => ?_) ⟨(acts_some 3 rfl (by kernel_rfl) (by kernel_rfl)).symm, S⟩
          have e0 : ρ (.tmp 17) = .pointer (some ⟨g, t * 2, none⟩) := by rw [hρ]; exact acts_eval_hit 2 rfl hd.1 (by rw [HSZ]; rfl) (by kernel_rfl)
          clear hρ
          (have hcl : W.cell? ⟨g, t * 2, none⟩ = some (.slice X N cx) := (S.swap.cell (t * 2)).trans HC0.out)
          go_simp
        · intro f W h4 hd S
          refine wpOp_run (v := .int .i64 N) rfl rfl (fun ρ hρ => ?_) ⟨(acts_some 4 rfl (by kernel_rfl) (by kernel_rfl)).symm, S⟩
          have e0 : ρ (.tmp 18) = .slice X N cx := by rw [hρ]; exact acts_eval_hit 3 rfl hd.1 (by rw [HSZ]; rfl) (by kernel_rfl)
          clear hρ
          go_simp
        · intro f W h5 hd S
          refine wpOp_run (v := .pointer (some ⟨q, 0, none⟩)) rfl rfl (fun ρ hρ => ?_) ⟨(acts_some 5 rfl (by kernel_rfl) (by kernel_rfl)).symm, S⟩
          have e0 : ρ (.tmp 0) = .pointer (some ⟨q, 0, none⟩) := by rw [hρ]; exact (acts_eval_tmp 0 (by kernel_rfl)).trans E0
          clear hρ
          go_simp
        · intro f W h6 hd S
          refine wpOp_run (v := .pointer (some ⟨q, 0, none⟩)) rfl rfl (fun ρ hρ => ?_) ⟨(acts_some 6 rfl (by kernel_rfl) (by kernel_rfl)).symm, S⟩
          have e0 : ρ (.tmp 20) = .pointer (some ⟨q, 0, none⟩) := by rw [hρ]; exact acts_eval_hit 5 rfl hd.1 (by rw [HSZ]; rfl) (by kernel_rfl)
          clear hρ
          go_simp
        · intro f W h7 hd S
          refine wpOp_run (v := .pointer (some ⟨q, 2, none⟩)) rfl rfl (fun ρ hρ => ?_) ⟨(acts_some 7 rfl (by kernel_rfl) (by kernel_rfl)).symm, S⟩
          have e0 : ρ (.tmp 21) = .pointer (some ⟨q, 0, none⟩) := by rw [hρ]; exact acts_eval_hit 6 rfl hd.1 (by rw [HSZ]; rfl) (by kernel_rfl)
          clear hρ
          go_simp
        · intro f W h8 hd S
          refine wpOp_run (v := .int .i64 I) rfl rfl (fun ρ hρ => ?_) ⟨(acts_some 8 rfl (by kernel_rfl) (by kernel_rfl)).symm, S⟩
          have e0 : ρ (.tmp 22) = .pointer (some ⟨q, 2, none⟩) := by rw [hρ]; exact acts_eval_hit 7 rfl hd.1 (by rw [HSZ]; rfl) (by kernel_rfl)
          clear hρ
          (have hcl : W.cell? ⟨q, 2, none⟩ = some (.int .i64 I) := S.pull2.cell 2)
          go_simp
        · intro f W h9 hd S
          refine wpOp_run (v := .bool false) rfl rfl (fun ρ hρ => ?_) ⟨(acts_some 9 rfl (by kernel_rfl) (by kernel_rfl)).symm, S⟩
          have e0 : ρ (.tmp 19) = .int .i64 N := by rw [hρ]; exact acts_eval_hit 4 rfl hd.1 (by rw [HSZ]; rfl) (by kernel_rfl)
          have e1 : ρ (.tmp 23) = .int .i64 I := by rw [hρ]; exact acts_eval_hit 8 rfl hd.2.1 (by rw [HSZ]; rfl) (by kernel_rfl)
          clear hρ
          go_simp
        · intro f W h10 hd S
          refine wpOp_run (v := .bool false) rfl rfl (fun ρ hρ => ?_) ⟨(acts_some 10 rfl (by kernel_rfl) (by kernel_rfl)).symm, S⟩
          have e0 : ρ (.tmp 24) = .bool false := by rw [hρ]; exact acts_eval_hit 9 rfl hd.1 (by rw [HSZ]; rfl) (by kernel_rfl)
          clear hρ
          go_simp
        · intro f W h11 hd S
          refine wpOp_runG (v := .pointer (some ⟨g, t * 2, none⟩)) rfl ?_ (fun ρ hρ => ?_) ⟨(acts_some 11 rfl (by kernel_rfl) (by kernel_rfl)).symm, S⟩
          · exact wanted_hit (t := 25) rfl rfl (acts_eval_hit 10 rfl hd.1 (by rw [HSZ]; rfl) (by kernel_rfl))
          · skip
            have e0 : ρ (.tmp 7) = .pointer (some ⟨g, t * 2, none⟩) := by rw [hρ]; exact (acts_eval_tmp 7 (by kernel_rfl)).trans E7
            clear hρ
            go_simp
        · intro f W h12 hd S
          refine wpOp_runG (v := .pointer (some ⟨g, t * 2, none⟩)) rfl ?_ (fun ρ hρ => ?_) ⟨(acts_some 12 rfl (by kernel_rfl) (by kernel_rfl)).symm, S⟩
          · exact wanted_hit (t := 25) rfl rfl (acts_eval_hit 10 rfl hd.2.1 (by rw [HSZ]; rfl) (by kernel_rfl))
          · skip
            have e0 : ρ (.tmp 26) = .pointer (some ⟨g, t * 2, none⟩) := by rw [hρ]; exact acts_eval_hit 11 rfl hd.1 (by rw [HSZ]; rfl) (by kernel_rfl)
            clear hρ
            go_simp
        · intro f W h13 hd S
          refine wpOp_runG (v := .pointer (some ⟨g, t * 2 + 1, none⟩)) rfl ?_ (fun ρ hρ => ?_) ⟨(acts_some 13 rfl (by kernel_rfl) (by kernel_rfl)).symm, S⟩
          · exact wanted_hit (t := 25) rfl rfl (acts_eval_hit 10 rfl hd.2.1 (by rw [HSZ]; rfl) (by kernel_rfl))
          · skip
            have e0 : ρ (.tmp 27) = .pointer (some ⟨g, t * 2, none⟩) := by rw [hρ]; exact acts_eval_hit 12 rfl hd.1 (by rw [HSZ]; rfl) (by kernel_rfl)
            clear hρ
            go_simp
        · intro f W h14 hd S
          refine wpOp_runG (v := .int .i64 z) rfl ?_ (fun ρ hρ => ?_) ⟨(acts_some 14 rfl (by kernel_rfl) (by kernel_rfl)).symm, S⟩
          · exact wanted_hit (t := 25) rfl rfl (acts_eval_hit 10 rfl hd.2.1 (by rw [HSZ]; rfl) (by kernel_rfl))
          · skip
            have e0 : ρ (.tmp 28) = .pointer (some ⟨g, t * 2 + 1, none⟩) := by rw [hρ]; exact acts_eval_hit 13 rfl hd.1 (by rw [HSZ]; rfl) (by kernel_rfl)
            clear hρ
            (have hcl : W.cell? ⟨g, t * 2 + 1, none⟩ = some (.int .i64 z) := (S.swap.cell (t * 2 + 1)).trans HC1.out)
            go_simp
        · intro f W h15 hd S
          refine wpOp_runG (v := .agg #[.int .i64 n, .slice A h.length c, .slice D b.length d]) rfl ?_ (fun ρ hρ => ?_) ⟨(acts_some 15 rfl (by kernel_rfl) (by kernel_rfl)).symm, S⟩
          · exact wanted_hit (t := 25) rfl rfl (acts_eval_hit 10 rfl hd.1 (by rw [HSZ]; rfl) (by kernel_rfl))
          · skip
            have e0 : ρ (.tmp 5) = .pointer (some ⟨p, 0, none⟩) := by rw [hρ]; exact (acts_eval_tmp 5 (by kernel_rfl)).trans E5
            clear hρ
            (have hz0 : W.cell? ⟨p, 0, none⟩ = some (.int .i64 n) := S.cell 0; have hz1 : W.cell? ⟨p, 1, none⟩ = some (.slice A h.length c) := S.cell 1; have hz2 : W.cell? ⟨p, 2, none⟩ = some (.slice D b.length d) := S.cell 2)
            go_simp
        · intro f W h16 hd S
          refine wpOp_callG rfl (wanted_hit (t := 25) rfl rfl (acts_eval_hit 10 rfl hd.2.1 (by rw [HSZ]; rfl) (by kernel_rfl))) (fun ρ hρ => ?_) (it_size S n A D h.length c b.length d (by omega)) ?_
          · skip
            have e0 : ρ (.tmp 30) = .agg #[.int .i64 n, .slice A h.length c, .slice D b.length d] := by rw [hρ]; exact acts_eval_hit 15 rfl hd.1 (by rw [HSZ]; rfl) (by kernel_rfl)
            have ef : ρ (.func 44) = .func (.func 44) #[] #[] := by rw [hρ]; rfl
            clear hρ
            go_simp
          · (rintro x W' ⟨rfl, S'⟩; rw [HSX.out]; exact ⟨_, rfl, (acts_some 16 rfl (by kernel_rfl) (by kernel_rfl)).symm, S'⟩)
        · intro f W h17 hd S
          refine wpOp_runG (v := .int .i64 ((z : Int) + sx)) rfl ?_ (fun ρ hρ => ?_) ⟨(acts_some 17 rfl (by kernel_rfl) (by kernel_rfl)).symm, S⟩
          · exact wanted_hit (t := 25) rfl rfl (acts_eval_hit 10 rfl hd.2.2.1 (by rw [HSZ]; rfl) (by kernel_rfl))
          · skip
            have e0 : ρ (.tmp 29) = .int .i64 z := by rw [hρ]; exact acts_eval_hit 14 rfl hd.1 (by rw [HSZ]; rfl) (by kernel_rfl)
            have e1 : ρ (.tmp 31) = .int .i64 sx := by rw [hρ]; exact acts_eval_hit 16 rfl hd.2.1 (by rw [HSZ]; rfl) (by kernel_rfl)
            clear hρ
            go_simp
        · intro f W h18 hd S
          refine wpOp_runG (v := .pointer (some ⟨q, 0, none⟩)) rfl ?_ (fun ρ hρ => ?_) ⟨(acts_some 18 rfl (by kernel_rfl) (by kernel_rfl)).symm, S⟩
          · exact wanted_hit (t := 25) rfl rfl (acts_eval_hit 10 rfl hd.1 (by rw [HSZ]; rfl) (by kernel_rfl))
          · skip
            have e0 : ρ (.tmp 0) = .pointer (some ⟨q, 0, none⟩) := by rw [hρ]; exact (acts_eval_tmp 0 (by kernel_rfl)).trans E0
            clear hρ
            go_simp
        · intro f W h19 hd S
          refine wpOp_runG (v := .pointer (some ⟨q, 0, none⟩)) rfl ?_ (fun ρ hρ => ?_) ⟨(acts_some 19 rfl (by kernel_rfl) (by kernel_rfl)).symm, S⟩
          · exact wanted_hit (t := 25) rfl rfl (acts_eval_hit 10 rfl hd.2.1 (by rw [HSZ]; rfl) (by kernel_rfl))
          · skip
            have e0 : ρ (.tmp 33) = .pointer (some ⟨q, 0, none⟩) := by rw [hρ]; exact acts_eval_hit 18 rfl hd.1 (by rw [HSZ]; rfl) (by kernel_rfl)
            clear hρ
            go_simp
        · intro f W h20 hd S
          refine wpOp_runG (v := .pointer (some ⟨q, 1, none⟩)) rfl ?_ (fun ρ hρ => ?_) ⟨(acts_some 20 rfl (by kernel_rfl) (by kernel_rfl)).symm, S⟩
          · exact wanted_hit (t := 25) rfl rfl (acts_eval_hit 10 rfl hd.2.1 (by rw [HSZ]; rfl) (by kernel_rfl))
          · skip
            have e0 : ρ (.tmp 34) = .pointer (some ⟨q, 0, none⟩) := by rw [hρ]; exact acts_eval_hit 19 rfl hd.1 (by rw [HSZ]; rfl) (by kernel_rfl)
            clear hρ
            go_simp
        · intro f W h21 hd S
          refine wpOp_runG (v := .int .i64 B) rfl ?_ (fun ρ hρ => ?_) ⟨(acts_some 21 rfl (by kernel_rfl) (by kernel_rfl)).symm, S⟩
          · exact wanted_hit (t := 25) rfl rfl (acts_eval_hit 10 rfl hd.2.1 (by rw [HSZ]; rfl) (by kernel_rfl))
          · skip
            have e0 : ρ (.tmp 35) = .pointer (some ⟨q, 1, none⟩) := by rw [hρ]; exact acts_eval_hit 20 rfl hd.1 (by rw [HSZ]; rfl) (by kernel_rfl)
            clear hρ
            (have hcl : W.cell? ⟨q, 1, none⟩ = some (.int .i64 B) := S.pull2.cell 1)
            go_simp
        · intro f W h22 hd S
          refine wpOp_runG (v := .bool true) rfl ?_ (fun ρ hρ => ?_) ⟨(acts_some 22 rfl (by kernel_rfl) (by kernel_rfl)).symm, S⟩
          · exact wanted_hit (t := 25) rfl rfl (acts_eval_hit 10 rfl hd.2.2.1 (by rw [HSZ]; rfl) (by kernel_rfl))
          · skip
            have e0 : ρ (.tmp 32) = .int .i64 ((z : Int) + sx) := by rw [hρ]; exact acts_eval_hit 17 rfl hd.1 (by rw [HSZ]; rfl) (by kernel_rfl)
            have e1 : ρ (.tmp 36) = .int .i64 B := by rw [hρ]; exact acts_eval_hit 21 rfl hd.2.1 (by rw [HSZ]; rfl) (by kernel_rfl)
            clear hρ
            go_simp
        · intro f W h23 hd S
          refine wpOp_run (v := .bool true) rfl rfl (fun ρ hρ => ?_) ⟨(acts_some 23 rfl (by kernel_rfl) (by kernel_rfl)).symm, S⟩
          have e0 : ρ (.tmp 25) = .bool false := by rw [hρ]; exact acts_eval_hit 10 rfl hd.1 (by rw [HSZ]; rfl) (by kernel_rfl)
          have e1 : ρ (.tmp 37) = .bool true := by rw [hρ]; exact acts_eval_hit 22 rfl hd.2.1 (by rw [HSZ]; rfl) (by kernel_rfl)
          have ec : ∀ v, ρ (.const v) = v := by rw [hρ]; exact fun _ => rfl
          clear hρ
          go_simp
        · intro f W h24 hd S
          refine wpOp_run (v := .bool true) rfl rfl (fun ρ hρ => ?_) ⟨(acts_some 24 rfl (by kernel_rfl) (by kernel_rfl)).symm, S⟩
          have e0 : ρ (.tmp 38) = .bool true := by rw [hρ]; exact acts_eval_hit 23 rfl hd.1 (by rw [HSZ]; rfl) (by kernel_rfl)
          clear hρ
          go_simp
      · skip
        intro W S6
        subst ha0
        simp only [acts, if_true, Act.put, List.setIfInBounds_toArray, List.set_cons_succ, List.set_cons_zero]
        clear HSZ E0 E5 E7
        have HS6 := Lib.hid S6
        clear S6 S5
        go_wp2_with fail
        refine hK.out _ _ ⟨G, Gnd.le.rfl', rfl, ?_⟩
        have S7 := HS6.out.drop
        rw [HL2.out] at S7
        have hsh := qu_shut S7 HM2.out HN0.out hM (by rw [HML.out]; omega) (by rw [← HN0.out] at hx; rw [set_same_q hx]; exact hL) hcap HXS.out hFo
        rw [set_getD (by omega)] at hsh
        exact hsh
    · rw [if_neg (by omega)] at hK
      have hd1 : decide ((N : Int) ≥ I) = false := decide_eq_false hq1
      have hd2 : decide ((z : Int) + sx > B) = false := decide_eq_false hq2
      go_enter Tryz.func29, Tryz.ntmps29
      go_wp2_with fail
      (with_reducible refine ho.mono ?_)
      rintro e w1 ⟨rfl, rfl⟩
      go_upto_region 4 with fail
      generalize w.heap.size = p at *
      refine wp_world hP fun w2 S5 => ?_
      clear hP ho
      refine wp_act fun a0 ha0 => ?_
      have HSZ : a0.tmps.size = 59 := by rw [ha0]; rfl
      have E0 : a0.eval (.tmp 0) = .pointer (some ⟨q, 0, none⟩) := by rw [ha0]; rfl
      have E5 : a0.eval (.tmp 5) = .pointer (some ⟨p, 0, none⟩) := by rw [ha0]; rfl
      have E7 : a0.eval (.tmp 7) = .pointer (some ⟨g, t * 2, none⟩) := by rw [ha0]; rfl
      refine wp_region_sat (by kernel_rfl) 25 (by kernel_rfl) [[], [0], [1], [2], [3], [], [5], [6], [7], [4, 8], [9], [10], [11, 10], [12, 10], [13, 10], [10], [15, 10, 10], [14, 16, 10], [10], [18, 10], [19, 10], [20, 10], [17, 21, 10], [10, 22], [23, 16]] (by kernel_rfl) (by kernel_rfl) [(0, 15, .pointer (some ⟨g, t * 2, none⟩)), (1, 16, .pointer (some ⟨g, t * 2, none⟩)), (2, 17, .pointer (some ⟨g, t * 2, none⟩)), (3, 18, .slice X N cx), (4, 19, .int .i64 N), (5, 20, .pointer (some ⟨q, 0, none⟩)), (6, 21, .pointer (some ⟨q, 0, none⟩)), (7, 22, .pointer (some ⟨q, 2, none⟩)), (8, 23, .int .i64 I), (9, 24, .bool false), (10, 25, .bool false), (11, 26, .pointer (some ⟨g, t * 2, none⟩)), (12, 27, .pointer (some ⟨g, t * 2, none⟩)), (13, 28, .pointer (some ⟨g, t * 2 + 1, none⟩)), (14, 29, .int .i64 z), (15, 30, .agg #[.int .i64 n, .slice A h.length c, .slice D b.length d]), (16, 31, .int .i64 sx), (17, 32, .int .i64 ((z : Int) + sx)), (18, 33, .pointer (some ⟨q, 0, none⟩)), (19, 34, .pointer (some ⟨q, 0, none⟩)), (20, 35, .pointer (some ⟨q, 1, none⟩)), (21, 36, .int .i64 B), (22, 37, .bool false), (23, 38, .bool false), (24, 14, .bool false)] (fun _ => blk p #[.int .i64 n, .slice A h.length c, .slice D b.length d] 41 :: blk g cur 125 :: blk q #[.slice (some ⟨g, 0, none⟩) m cap, .int .i64 B, .int .i64 I] 111 :: l2) (by kernel_rfl) S5 ?_ ?_
      · refine ⟨?_, ?_, ?_, ?_, ?_, ?_, ?_, ?_, ?_, ?_, ?_, ?_, ?_, ?_, ?_, ?_, ?_, ?_, ?_, ?_, ?_, ?_, ?_, ?_, ?_, trivial⟩
        · intro f W h0 hd S
          refine wpOp_run (v := .pointer (some ⟨g, t * 2, none⟩)) rfl rfl (fun ρ hρ => ?_) ⟨(acts_some 0 rfl (by kernel_rfl) (by kernel_rfl)).symm, S⟩
          have e0 : ρ (.tmp 7) = .pointer (some ⟨g, t * 2, none⟩) := by rw [hρ]; exact (acts_eval_tmp 7 (by kernel_rfl)).trans E7
          clear hρ
          go_simp
        · intro f W h1 hd S
          refine wpOp_run (v := .pointer (some ⟨g, t * 2, none⟩)) rfl rfl (fun ρ hρ => ?_) ⟨(acts_some 1 rfl (by kernel_rfl) (by kernel_rfl)).symm, S⟩
          have e0 : ρ (.tmp 15) = .pointer (some ⟨g, t * 2, none⟩) := by rw [hρ]; exact acts_eval_hit 0 rfl hd.1 (by rw [HSZ]; rfl) (by kernel_rfl)
          clear hρ
          go_simp
        · intro f W h2 hd S
          refine wpOp_run (v := .pointer (some ⟨g, t * 2, none⟩)) rfl rfl (fun ρ hρ => ?_) ⟨(acts_some 2 rfl (by kernel_rfl) (by kernel_rfl)).symm, S⟩
          have e0 : ρ (.tmp 16) = .pointer (some ⟨g, t * 2, none⟩) := by rw [hρ]; exact acts_eval_hit 1 rfl hd.1 (by rw [HSZ]; rfl) (by kernel_rfl)
          clear hρ
          go_simp
        · intro f W h3 hd S
          refine wpOp_run (v := .slice X N cx) rfl rfl (fun ρ hρ => ?_) ⟨(acts_some 3 rfl (by kernel_rfl) (by kernel_rfl)).symm, S⟩
          have e0 : ρ (.tmp 17) = .pointer (some ⟨g, t * 2, none⟩) := by rw [hρ]; exact acts_eval_hit 2 rfl hd.1 (by rw [HSZ]; rfl) (by kernel_rfl)
          clear hρ
          (have hcl : W.cell? ⟨g, t * 2, none⟩ = some (.slice X N cx) := (S.swap.cell (t * 2)).trans HC0.out)
          go_simp
        · intro f W h4 hd S
          refine wpOp_run (v := .int .i64 N) rfl rfl (fun ρ hρ => ?_) ⟨(acts_some 4 rfl (by kernel_rfl) (by kernel_rfl)).symm, S⟩
          have e0 : ρ (.tmp 18) = .slice X N cx := by rw [hρ]; exact acts_eval_hit 3 rfl hd.1 (by rw [HSZ]; rfl) (by kernel_rfl)
          clear hρ
          go_simp
        · intro f W h5 hd S
          refine wpOp_run (v := .pointer (some ⟨q, 0, none⟩)) rfl rfl (fun ρ hρ => ?_) ⟨(acts_some 5 rfl (by kernel_rfl) (by kernel_rfl)).symm, S⟩
          have e0 : ρ (.tmp 0) = .pointer (some ⟨q, 0, none⟩) := by rw [hρ]; exact (acts_eval_tmp 0 (by kernel_rfl)).trans E0
          clear hρ
          go_simp
        · intro f W h6 hd S
          refine wpOp_run (v := .pointer (some ⟨q, 0, none⟩)) rfl rfl (fun ρ hρ => ?_) ⟨(acts_some 6 rfl (by kernel_rfl) (by kernel_rfl)).symm, S⟩
          have e0 : ρ (.tmp 20) = .pointer (some ⟨q, 0, none⟩) := by rw [hρ]; exact acts_eval_hit 5 rfl hd.1 (by rw [HSZ]; rfl) (by kernel_rfl)
          clear hρ
          go_simp
        · intro f W h7 hd S
          refine wpOp_run (v := .pointer (some ⟨q, 2, none⟩)) rfl rfl (fun ρ hρ => ?_) ⟨(acts_some 7 rfl (by kernel_rfl) (by kernel_rfl)).symm, S⟩
          have e0 : ρ (.tmp 21) = .pointer (some ⟨q, 0, none⟩) := by rw [hρ]; exact acts_eval_hit 6 rfl hd.1 (by rw [HSZ]; rfl) (by kernel_rfl)
          clear hρ
          go_simp
        · intro f W h8 hd S
          refine wpOp_run (v := .int .i64 I) rfl rfl (fun ρ hρ => ?_) ⟨(acts_some 8 rfl (by kernel_rfl) (by kernel_rfl)).symm, S⟩
          have e0 : ρ (.tmp 22) = .pointer (some ⟨q, 2, none⟩) := by rw [hρ]; exact acts_eval_hit 7 rfl hd.1 (by rw [HSZ]; rfl) (by kernel_rfl)
          clear hρ
          (have hcl : W.cell? ⟨q, 2, none⟩ = some (.int .i64 I) := S.pull2.cell 2)
          go_simp
        · intro f W h9 hd S
          refine wpOp_run (v := .bool false) rfl rfl (fun ρ hρ => ?_) ⟨(acts_some 9 rfl (by kernel_rfl) (by kernel_rfl)).symm, S⟩
          have e0 : ρ (.tmp 19) = .int .i64 N := by rw [hρ]; exact acts_eval_hit 4 rfl hd.1 (by rw [HSZ]; rfl) (by kernel_rfl)
          have e1 : ρ (.tmp 23) = .int .i64 I := by rw [hρ]; exact acts_eval_hit 8 rfl hd.2.1 (by rw [HSZ]; rfl) (by kernel_rfl)
          clear hρ
          go_simp
        · intro f W h10 hd S
          refine wpOp_run (v := .bool false) rfl rfl (fun ρ hρ => ?_) ⟨(acts_some 10 rfl (by kernel_rfl) (by kernel_rfl)).symm, S⟩
          have e0 : ρ (.tmp 24) = .bool false := by rw [hρ]; exact acts_eval_hit 9 rfl hd.1 (by rw [HSZ]; rfl) (by kernel_rfl)
          clear hρ
          go_simp
        · intro f W h11 hd S
          refine wpOp_runG (v := .pointer (some ⟨g, t * 2, none⟩)) rfl ?_ (fun ρ hρ => ?_) ⟨(acts_some 11 rfl (by kernel_rfl) (by kernel_rfl)).symm, S⟩
          · exact wanted_hit (t := 25) rfl rfl (acts_eval_hit 10 rfl hd.1 (by rw [HSZ]; rfl) (by kernel_rfl))
          · skip
            have e0 : ρ (.tmp 7) = .pointer (some ⟨g, t * 2, none⟩) := by rw [hρ]; exact (acts_eval_tmp 7 (by kernel_rfl)).trans E7
            clear hρ
            go_simp
        · intro f W h12 hd S
          refine wpOp_runG (v := .pointer (some ⟨g, t * 2, none⟩)) rfl ?_ (fun ρ hρ => ?_) ⟨(acts_some 12 rfl (by kernel_rfl) (by kernel_rfl)).symm, S⟩
          · exact wanted_hit (t := 25) rfl rfl (acts_eval_hit 10 rfl hd.2.1 (by rw [HSZ]; rfl) (by kernel_rfl))
          · skip
            have e0 : ρ (.tmp 26) = .pointer (some ⟨g, t * 2, none⟩) := by rw [hρ]; exact acts_eval_hit 11 rfl hd.1 (by rw [HSZ]; rfl) (by kernel_rfl)
            clear hρ
            go_simp
        · intro f W h13 hd S
          refine wpOp_runG (v := .pointer (some ⟨g, t * 2 + 1, none⟩)) rfl ?_ (fun ρ hρ => ?_) ⟨(acts_some 13 rfl (by kernel_rfl) (by kernel_rfl)).symm, S⟩
          · exact wanted_hit (t := 25) rfl rfl (acts_eval_hit 10 rfl hd.2.1 (by rw [HSZ]; rfl) (by kernel_rfl))
          · skip
            have e0 : ρ (.tmp 27) = .pointer (some ⟨g, t * 2, none⟩) := by rw [hρ]; exact acts_eval_hit 12 rfl hd.1 (by rw [HSZ]; rfl) (by kernel_rfl)
            clear hρ
            go_simp
        · intro f W h14 hd S
          refine wpOp_runG (v := .int .i64 z) rfl ?_ (fun ρ hρ => ?_) ⟨(acts_some 14 rfl (by kernel_rfl) (by kernel_rfl)).symm, S⟩
          · exact wanted_hit (t := 25) rfl rfl (acts_eval_hit 10 rfl hd.2.1 (by rw [HSZ]; rfl) (by kernel_rfl))
          · skip
            have e0 : ρ (.tmp 28) = .pointer (some ⟨g, t * 2 + 1, none⟩) := by rw [hρ]; exact acts_eval_hit 13 rfl hd.1 (by rw [HSZ]; rfl) (by kernel_rfl)
            clear hρ
            (have hcl : W.cell? ⟨g, t * 2 + 1, none⟩ = some (.int .i64 z) := (S.swap.cell (t * 2 + 1)).trans HC1.out)
            go_simp
        · intro f W h15 hd S
          refine wpOp_runG (v := .agg #[.int .i64 n, .slice A h.length c, .slice D b.length d]) rfl ?_ (fun ρ hρ => ?_) ⟨(acts_some 15 rfl (by kernel_rfl) (by kernel_rfl)).symm, S⟩
          · exact wanted_hit (t := 25) rfl rfl (acts_eval_hit 10 rfl hd.1 (by rw [HSZ]; rfl) (by kernel_rfl))
          · skip
            have e0 : ρ (.tmp 5) = .pointer (some ⟨p, 0, none⟩) := by rw [hρ]; exact (acts_eval_tmp 5 (by kernel_rfl)).trans E5
            clear hρ
            (have hz0 : W.cell? ⟨p, 0, none⟩ = some (.int .i64 n) := S.cell 0; have hz1 : W.cell? ⟨p, 1, none⟩ = some (.slice A h.length c) := S.cell 1; have hz2 : W.cell? ⟨p, 2, none⟩ = some (.slice D b.length d) := S.cell 2)
            go_simp
        · intro f W h16 hd S
          refine wpOp_callG rfl (wanted_hit (t := 25) rfl rfl (acts_eval_hit 10 rfl hd.2.1 (by rw [HSZ]; rfl) (by kernel_rfl))) (fun ρ hρ => ?_) (it_size S n A D h.length c b.length d (by omega)) ?_
          · skip
            have e0 : ρ (.tmp 30) = .agg #[.int .i64 n, .slice A h.length c, .slice D b.length d] := by rw [hρ]; exact acts_eval_hit 15 rfl hd.1 (by rw [HSZ]; rfl) (by kernel_rfl)
            have ef : ρ (.func 44) = .func (.func 44) #[] #[] := by rw [hρ]; rfl
            clear hρ
            go_simp
          · (rintro x W' ⟨rfl, S'⟩; rw [HSX.out]; exact ⟨_, rfl, (acts_some 16 rfl (by kernel_rfl) (by kernel_rfl)).symm, S'⟩)
        · intro f W h17 hd S
          refine wpOp_runG (v := .int .i64 ((z : Int) + sx)) rfl ?_ (fun ρ hρ => ?_) ⟨(acts_some 17 rfl (by kernel_rfl) (by kernel_rfl)).symm, S⟩
          · exact wanted_hit (t := 25) rfl rfl (acts_eval_hit 10 rfl hd.2.2.1 (by rw [HSZ]; rfl) (by kernel_rfl))
          · skip
            have e0 : ρ (.tmp 29) = .int .i64 z := by rw [hρ]; exact acts_eval_hit 14 rfl hd.1 (by rw [HSZ]; rfl) (by kernel_rfl)
            have e1 : ρ (.tmp 31) = .int .i64 sx := by rw [hρ]; exact acts_eval_hit 16 rfl hd.2.1 (by rw [HSZ]; rfl) (by kernel_rfl)
            clear hρ
            go_simp
        · intro f W h18 hd S
          refine wpOp_runG (v := .pointer (some ⟨q, 0, none⟩)) rfl ?_ (fun ρ hρ => ?_) ⟨(acts_some 18 rfl (by kernel_rfl) (by kernel_rfl)).symm, S⟩
          · exact wanted_hit (t := 25) rfl rfl (acts_eval_hit 10 rfl hd.1 (by rw [HSZ]; rfl) (by kernel_rfl))
          · skip
            have e0 : ρ (.tmp 0) = .pointer (some ⟨q, 0, none⟩) := by rw [hρ]; exact (acts_eval_tmp 0 (by kernel_rfl)).trans E0
            clear hρ
            go_simp
        · intro f W h19 hd S
          refine wpOp_runG (v := .pointer (some ⟨q, 0, none⟩)) rfl ?_ (fun ρ hρ => ?_) ⟨(acts_some 19 rfl (by kernel_rfl) (by kernel_rfl)).symm, S⟩
          · exact wanted_hit (t := 25) rfl rfl (acts_eval_hit 10 rfl hd.2.1 (by rw [HSZ]; rfl) (by kernel_rfl))
          · skip
            have e0 : ρ (.tmp 33) = .pointer (some ⟨q, 0, none⟩) := by rw [hρ]; exact acts_eval_hit 18 rfl hd.1 (by rw [HSZ]; rfl) (by kernel_rfl)
            clear hρ
            go_simp
        · intro f W h20 hd S
          refine wpOp_runG (v := .pointer (some ⟨q, 1, none⟩)) rfl ?_ (fun ρ hρ => ?_) ⟨(acts_some 20 rfl (by kernel_rfl) (by kernel_rfl)).symm, S⟩
          · exact wanted_hit (t := 25) rfl rfl (acts_eval_hit 10 rfl hd.2.1 (by rw [HSZ]; rfl) (by kernel_rfl))
          · skip
            have e0 : ρ (.tmp 34) = .pointer (some ⟨q, 0, none⟩) := by rw [hρ]; exact acts_eval_hit 19 rfl hd.1 (by rw [HSZ]; rfl) (by kernel_rfl)
            clear hρ
            go_simp
        · intro f W h21 hd S
          refine wpOp_runG (v := .int .i64 B) rfl ?_ (fun ρ hρ => ?_) ⟨(acts_some 21 rfl (by kernel_rfl) (by kernel_rfl)).symm, S⟩
          · exact wanted_hit (t := 25) rfl rfl (acts_eval_hit 10 rfl hd.2.1 (by rw [HSZ]; rfl) (by kernel_rfl))
          · skip
            have e0 : ρ (.tmp 35) = .pointer (some ⟨q, 1, none⟩) := by rw [hρ]; exact acts_eval_hit 20 rfl hd.1 (by rw [HSZ]; rfl) (by kernel_rfl)
            clear hρ
            (have hcl : W.cell? ⟨q, 1, none⟩ = some (.int .i64 B) := S.pull2.cell 1)
            go_simp
        · intro f W h22 hd S
          refine wpOp_runG (v := .bool false) rfl ?_ (fun ρ hρ => ?_) ⟨(acts_some 22 rfl (by kernel_rfl) (by kernel_rfl)).symm, S⟩
          · exact wanted_hit (t := 25) rfl rfl (acts_eval_hit 10 rfl hd.2.2.1 (by rw [HSZ]; rfl) (by kernel_rfl))
          · skip
            have e0 : ρ (.tmp 32) = .int .i64 ((z : Int) + sx) := by rw [hρ]; exact acts_eval_hit 17 rfl hd.1 (by rw [HSZ]; rfl) (by kernel_rfl)
            have e1 : ρ (.tmp 36) = .int .i64 B := by rw [hρ]; exact acts_eval_hit 21 rfl hd.2.1 (by rw [HSZ]; rfl) (by kernel_rfl)
            clear hρ
            go_simp
        · intro f W h23 hd S
          refine wpOp_run (v := .bool false) rfl rfl (fun ρ hρ => ?_) ⟨(acts_some 23 rfl (by kernel_rfl) (by kernel_rfl)).symm, S⟩
          have e0 : ρ (.tmp 25) = .bool false := by rw [hρ]; exact acts_eval_hit 10 rfl hd.1 (by rw [HSZ]; rfl) (by kernel_rfl)
          have e1 : ρ (.tmp 37) = .bool false := by rw [hρ]; exact acts_eval_hit 22 rfl hd.2.1 (by rw [HSZ]; rfl) (by kernel_rfl)
          have ec : ∀ v, ρ (.const v) = v := by rw [hρ]; exact fun _ => rfl
          clear hρ
          go_simp
        · intro f W h24 hd S
          refine wpOp_run (v := .bool false) rfl rfl (fun ρ hρ => ?_) ⟨(acts_some 24 rfl (by kernel_rfl) (by kernel_rfl)).symm, S⟩
          have e0 : ρ (.tmp 38) = .bool false := by rw [hρ]; exact acts_eval_hit 23 rfl hd.1 (by rw [HSZ]; rfl) (by kernel_rfl)
          clear hρ
          go_simp
      · skip
        intro W S6
        subst ha0
        simp only [acts, if_true, Act.put, List.setIfInBounds_toArray, List.set_cons_succ, List.set_cons_zero]
        clear HSZ E0 E5 E7
        have S7 := S6
        rw [HL2.out] at S7
        obtain ⟨l3, hl3⟩ : ∃ l3, l3 = (M.take t).map lnA ++ ((M.drop (t + 1)).map lnA ++ l) := ⟨_, rfl⟩
        rw [← hl3] at S7
        have HGO : Hid (∀ W, Sat G W l3 → Sat G W l) := Lib.hid fun W SW => by rw [hl3] at SW; exact Sat.dropL _ (Sat.dropL _ SW)
        have HL3 := Lib.hid hl3
        have HA6 : Hid (∀ {a1 a2 a3 a4 a5 a6 a7 : Asrt} (W : World), Sat G W (a1 :: a2 :: a3 :: a4 :: a5 :: a6 :: a7 :: l3) → SlB W.cell? (.slice A h.length c) h) := Lib.hid fun W SW => HH.out W (HGO.out W SW.drop.drop.drop.drop.drop.drop.drop)
        have HB6 : Hid (∀ {a1 a2 a3 a4 a5 a6 a7 : Asrt} (W : World), Sat G W (a1 :: a2 :: a3 :: a4 :: a5 :: a6 :: a7 :: l3) → SlB W.cell? (.slice D b.length d) b) := Lib.hid fun W SW => HB.out W (HGO.out W SW.drop.drop.drop.drop.drop.drop.drop)
        clear hl3 S6 S5
        obtain ⟨xs, hxs⟩ : ∃ xs, xs = encs Qe.enc F := ⟨_, rfl⟩
        rw [← hxs] at S7
        have HXX := Lib.hid hxs
        clear hxs
        have S8 := S7.re [1, 3, 0, 2]
        clear S7
        have hN40 : N + 1 ≤ 4096 := by omega
        have hm63 : N + 1 ≤ maxLen := Nat.le_trans hN40 (by decide)
        go_upto_region 6 with fail
        refine wp_world S8 fun w3 S9 => ?_
        clear S8
        refine wp_act fun a0 ha0 => ?_
        have HSZ : a0.tmps.size = 59 := by rw [ha0]; rfl
        have E5 : a0.eval (.tmp 5) = .pointer (some ⟨p, 0, none⟩) := by rw [ha0]; rfl
        have E7 : a0.eval (.tmp 7) = .pointer (some ⟨g, t * 2, none⟩) := by rw [ha0]; rfl
        refine wp_region_J (by kernel_rfl) 12 (by kernel_rfl) [[], [], [1], [2], [3], [], [5], [6], [4, 7, 6], [0, 0, 1, 2, 3, 4, 5, 6, 7, 8], [9, 0, 1, 2, 3, 4, 5, 6, 7, 8], [10, 8, 8, 0, 1, 2, 3, 4, 5, 6, 7, 8]] (by kernel_rfl) (by kernel_rfl) (fun f a' W => ∃ u1 u2 qb v', HN6 f ∧ a' = acts [(0, 39, .pointer (some ⟨g, t * 2, none⟩)), (1, 40, .pointer (some ⟨g, t * 2, none⟩)), (2, 41, .pointer (some ⟨g, t * 2, none⟩)), (3, 42, .pointer (some ⟨g, t * 2, none⟩)), (4, 43, .slice X N cx), (5, 44, .agg #[.int .i64 n, .slice A h.length c, .slice D b.length d]), (6, 45, .agg #[.int .i64 n, u1, u2]), (7, 46, .slice (some ⟨qb, 0, none⟩) 1 1), (8, 47, v'), (9, 48, .pointer (some ⟨g, t * 2, none⟩)), (10, 49, .pointer (some ⟨g, t * 2, none⟩))] f a0 ∧ Sat G W (opt (f 6) (ownS 5 1 u1 h.length (h.map byteV)) :: opt (f 6) (ownS 5 1 u2 b.length (b.map byteV)) :: opt (f 7) (blk qb #[.int .i64 n, u1, u2] 41) :: blk g (cond (f 11) (cur.setIfInBounds (t * 2) v') cur) 125 :: ownS 41 3 (cond (f 8) v' (.slice X N cx)) (cond (f 8) (N + 1) N) (cond (f 8) (xs ++ [.int .i64 n, u1, u2]) xs) :: blk p #[.int .i64 n, .slice A h.length c, .slice D b.length d] 41 :: blk q #[.slice (some ⟨g, 0, none⟩) m cap, .int .i64 B, .int .i64 I] 111 :: l3)) ?_ ?_ ?_
        · exact ⟨.slice none 0 0, .slice none 0 0, 0, undef, (by unfold HN6; decide), rfl, S9.drew.opt0.opt0.opt0⟩
        · refine ⟨?_, ?_, ?_, ?_, ?_, ?_, ?_, ?_, ?_, ?_, ?_, ?_, trivial⟩
          · rintro f a' W h0 hd ⟨u1, u2, qb, v', hh, rfl, S⟩
            refine wpOp_run (v := .pointer (some ⟨g, t * 2, none⟩)) rfl rfl (fun ρ hρ => ?_) ⟨u1, u2, qb, v', hh, (acts_some 0 rfl (by kernel_rfl) (by kernel_rfl)).symm, S⟩
            have e0 : ρ (.tmp 7) = .pointer (some ⟨g, t * 2, none⟩) := by rw [hρ]; exact (acts_eval_tmp 7 (by kernel_rfl)).trans E7
            clear hρ
            go_simp
          · rintro f a' W h1 hd ⟨u1, u2, qb, v', hh, rfl, S⟩
            refine wpOp_run (v := .pointer (some ⟨g, t * 2, none⟩)) rfl rfl (fun ρ hρ => ?_) ⟨u1, u2, qb, v', hh, (acts_some 1 rfl (by kernel_rfl) (by kernel_rfl)).symm, S⟩
            have e0 : ρ (.tmp 7) = .pointer (some ⟨g, t * 2, none⟩) := by rw [hρ]; exact (acts_eval_tmp 7 (by kernel_rfl)).trans E7
            clear hρ
            go_simp
          · rintro f a' W h2 hd ⟨u1, u2, qb, v', hh, rfl, S⟩
            refine wpOp_run (v := .pointer (some ⟨g, t * 2, none⟩)) rfl rfl (fun ρ hρ => ?_) ⟨u1, u2, qb, v', hh, (acts_some 2 rfl (by kernel_rfl) (by kernel_rfl)).symm, S⟩
            have e0 : ρ (.tmp 40) = .pointer (some ⟨g, t * 2, none⟩) := by rw [hρ]; exact acts_eval_hit 1 rfl hd.1 (by rw [HSZ]; rfl) (by kernel_rfl)
            clear hρ
            go_simp
          · rintro f a' W h3 hd ⟨u1, u2, qb, v', hh, rfl, S⟩
            refine wpOp_run (v := .pointer (some ⟨g, t * 2, none⟩)) rfl rfl (fun ρ hρ => ?_) ⟨u1, u2, qb, v', hh, (acts_some 3 rfl (by kernel_rfl) (by kernel_rfl)).symm, S⟩
            have e0 : ρ (.tmp 41) = .pointer (some ⟨g, t * 2, none⟩) := by rw [hρ]; exact acts_eval_hit 2 rfl hd.1 (by rw [HSZ]; rfl) (by kernel_rfl)
            clear hρ
            go_simp
          · rintro f a' W h4 hd ⟨u1, u2, qb, v', hh, rfl, S⟩
            (have z8 := no_of_q hh.2.2.1 h4; have z11 := no_of_q hh.2.2.2 z8)
            refine wpOp_run (v := .slice X N cx) rfl rfl (fun ρ hρ => ?_) ⟨u1, u2, qb, v', ⟨hh.1, hh.2.1, fun _ => rfl, hh.2.2.2⟩, (acts_some 4 rfl (by kernel_rfl) (by kernel_rfl)).symm, S⟩
            have e0 : ρ (.tmp 42) = .pointer (some ⟨g, t * 2, none⟩) := by rw [hρ]; exact acts_eval_hit 3 rfl hd.1 (by rw [HSZ]; rfl) (by kernel_rfl)
            clear hρ
            (have hcl : W.cell? ⟨g, t * 2, none⟩ = some (.slice X N cx) := (by have := S.pull3.cell (t * 2); rw [z11] at this; exact this.trans HC0.out))
            go_simp
          · rintro f a' W h5 hd ⟨u1, u2, qb, v', hh, rfl, S⟩
            refine wpOp_run (v := .agg #[.int .i64 n, .slice A h.length c, .slice D b.length d]) rfl rfl (fun ρ hρ => ?_) ⟨u1, u2, qb, v', hh, (acts_some 5 rfl (by kernel_rfl) (by kernel_rfl)).symm, S⟩
            have e0 : ρ (.tmp 5) = .pointer (some ⟨p, 0, none⟩) := by rw [hρ]; exact (acts_eval_tmp 5 (by kernel_rfl)).trans E5
            clear hρ
            (have hz0 : W.cell? ⟨p, 0, none⟩ = some (.int .i64 n) := (Sat.mid [_, _, _, _, _] S).cell 0; have hz1 : W.cell? ⟨p, 1, none⟩ = some (.slice A h.length c) := (Sat.mid [_, _, _, _, _] S).cell 1; have hz2 : W.cell? ⟨p, 2, none⟩ = some (.slice D b.length d) := (Sat.mid [_, _, _, _, _] S).cell 2)
            go_simp
          · rintro f a' W h6 hd ⟨u1, u2, qb, v', hh, rfl, S⟩
            (have z7 := no_of_q hh.1 h6; have z8 := no_of_q hh.2.1 z7; have z11 := no_of_q hh.2.2.2 z8)
            refine wpOp_call rfl rfl (fun ρ hρ => ?_) (it_own S n _ _ h b HA6.out HB6.out h1 h2) ?_
            · skip
              have e0 : ρ (.tmp 44) = .agg #[.int .i64 n, .slice A h.length c, .slice D b.length d] := by rw [hρ]; exact acts_eval_hit 5 rfl hd.1 (by rw [HSZ]; rfl) (by kernel_rfl)
              have ef : ρ (.func 45) = .func (.func 45) #[] #[] := by rw [hρ]; rfl
              clear hρ
              go_simp
            · (rintro e W' ⟨y1, y2, rfl, S'⟩; refine ⟨_, rfl, y1, y2, qb, v', ⟨fun _ => rfl, hh.2.1, hh.2.2.1, hh.2.2.2⟩, acts_swap (by simp only [acts, h6, Bool.false_eq_true, if_false]) (k := 6) rfl (by kernel_rfl) (by kernel_rfl), ?_⟩; have T := (S'.re [2, 3, 4, 0, 1]).drop.drop.drop; have T2 := Sat.optI rfl ((T.opt0 (A := blk qb #[.int .i64 n, y1, y2] 41)).re [2, 0, 1]) (b := upd f 6 6); have T3 := Sat.optI rfl (T2.re [2, 0, 1]) (b := upd f 6 6); show Sat G W' (_ :: _ :: opt (f 7) _ :: blk g (cond (f 11) _ _) _ :: ownS _ _ (cond (f 8) _ _) (cond (f 8) _ _) (cond (f 8) _ _) :: _); rw [z8, z11] at T3; rw [z7, z8, z11]; exact T3)
          · rintro f a' W h7 hd ⟨u1, u2, qb, v', hh, rfl, S⟩
            (have z8 := no_of_q hh.2.1 h7; have z11 := no_of_q hh.2.2.2 z8; have S8 := S; rw [hd.1] at S8; obtain ⟨_, _, hu1, -, -, -⟩ := (opt_iff.1 S8).ownForm; obtain ⟨_, _, hu2, -, -, -⟩ := (opt_iff.1 S8.swap).ownForm)
            refine wpOp_mem (v := .slice (some ⟨W.heap.size, 0, none⟩) 1 1) (w' := W.alloc (.cells #[.int .i64 n, u1, u2] 41)) rfl rfl (fun ρ hρ => ?_) (⟨u1, u2, W.heap.size, v', ⟨fun _ => hd.1, fun _ => rfl, hh.2.2.1, hh.2.2.2⟩, acts_swap (by simp only [acts, h7, Bool.false_eq_true, if_false]) (k := 7) rfl (by kernel_rfl) (by kernel_rfl), (by have T := Sat.optI rfl (((S.re [2, 0, 1]).drop).newBlk #[.int .i64 n, u1, u2] 41) (b := upd f 7 7); exact T.re [1, 2, 0])⟩)
            have e0 : ρ (.tmp 45) = .agg #[.int .i64 n, u1, u2] := by rw [hρ]; exact acts_eval_hit 6 rfl hd.1 (by rw [HSZ]; rfl) (by kernel_rfl)
            clear hρ
            go_simp
          · rintro f a' W h8 hd ⟨u1, u2, qb, v', hh, rfl, S⟩
            have q43 : (acts [(0, 39, .pointer (some ⟨g, t * 2, none⟩)), (1, 40, .pointer (some ⟨g, t * 2, none⟩)), (2, 41, .pointer (some ⟨g, t * 2, none⟩)), (3, 42, .pointer (some ⟨g, t * 2, none⟩)), (4, 43, .slice X N cx), (5, 44, .agg #[.int .i64 n, .slice A h.length c, .slice D b.length d]), (6, 45, .agg #[.int .i64 n, u1, u2]), (7, 46, .slice (some ⟨qb, 0, none⟩) 1 1), (8, 47, v'), (9, 48, .pointer (some ⟨g, t * 2, none⟩)), (10, 49, .pointer (some ⟨g, t * 2, none⟩))] f a0).eval (.tmp 43) = .slice X N cx := acts_eval_hit 4 rfl hd.1 (by rw [HSZ]; rfl) (by kernel_rfl)
            have q46 : (acts [(0, 39, .pointer (some ⟨g, t * 2, none⟩)), (1, 40, .pointer (some ⟨g, t * 2, none⟩)), (2, 41, .pointer (some ⟨g, t * 2, none⟩)), (3, 42, .pointer (some ⟨g, t * 2, none⟩)), (4, 43, .slice X N cx), (5, 44, .agg #[.int .i64 n, .slice A h.length c, .slice D b.length d]), (6, 45, .agg #[.int .i64 n, u1, u2]), (7, 46, .slice (some ⟨qb, 0, none⟩) 1 1), (8, 47, v'), (9, 48, .pointer (some ⟨g, t * 2, none⟩)), (10, 49, .pointer (some ⟨g, t * 2, none⟩))] f a0).eval (.tmp 46) = .slice (some ⟨qb, 0, none⟩) 1 1 := acts_eval_hit 7 rfl hd.2.1 (by rw [HSZ]; rfl) (by kernel_rfl)
            (have z11 := no_of_q hh.2.2.2 h8; simp only [hd.2.1, h8, z11, cond_false] at S; have S2 := Sat.mid [_, _, _, _] S; have hq := opt_iff.1 S.pull2; have z6 := hh.1 hd.2.1; have S8 := S; rw [z6] at S8; obtain ⟨_, _, hu1, -, -, -⟩ := (opt_iff.1 S8).ownForm; obtain ⟨_, _, hu2, -, -, -⟩ := (opt_iff.1 S8.swap).ownForm; have hone : [Value.int .i64 n, u1, u2].all (·.oneCell') = true := (by simp [Value.oneCell', hu1, hu2]); clear S8 hu1 hu2; refine wpOp_list rfl ?_; refine st_append rfl _ _ 123 rfl 41 (.agg #[.int .i64 0, .slice none 0 0, .slice none 0 0]) 3 56 Tryz.underlying123 info_it rfl (by omega) _ N xs q43 S2 ⟨qb, 0, none⟩ 1 1 [.int .i64 n, u1, u2] q46 rfl (fun j u hj => blk_cells hq j u hj) hone hm63 (by omega) ?_; (intro v2 w4 S3; refine ⟨u1, u2, qb, v2, ⟨hh.1, fun _ => hd.2.1, fun _ => hd.1, fun _ => rfl⟩, acts_swap (by simp only [acts, h8, Bool.false_eq_true, if_false]) (k := 8) rfl (by kernel_rfl) (by kernel_rfl), ?_⟩; have S4 := S3.re [1, 2, 3, 4, 0]; show Sat G w4 (opt (f 6) _ :: opt (f 6) _ :: opt (f 7) _ :: blk g (cond (f 11) _ _) _ :: _); rw [hd.2.1, z11]; exact S4))
          · rintro f a' W h9 hd ⟨u1, u2, qb, v', hh, rfl, S⟩
            refine wpOp_run (v := .pointer (some ⟨g, t * 2, none⟩)) rfl rfl (fun ρ hρ => ?_) ⟨u1, u2, qb, v', hh, (acts_some 9 rfl (by kernel_rfl) (by kernel_rfl)).symm, S⟩
            have e0 : ρ (.tmp 39) = .pointer (some ⟨g, t * 2, none⟩) := by rw [hρ]; exact acts_eval_hit 0 rfl hd.1 (by rw [HSZ]; rfl) (by kernel_rfl)
            clear hρ
            go_simp
          · rintro f a' W h10 hd ⟨u1, u2, qb, v', hh, rfl, S⟩
            refine wpOp_run (v := .pointer (some ⟨g, t * 2, none⟩)) rfl rfl (fun ρ hρ => ?_) ⟨u1, u2, qb, v', hh, (acts_some 10 rfl (by kernel_rfl) (by kernel_rfl)).symm, S⟩
            have e0 : ρ (.tmp 48) = .pointer (some ⟨g, t * 2, none⟩) := by rw [hρ]; exact acts_eval_hit 9 rfl hd.1 (by rw [HSZ]; rfl) (by kernel_rfl)
            clear hρ
            go_simp
          · rintro f a' W h11 hd ⟨u1, u2, qb, v', hh, rfl, S⟩
            have q49 : (acts [(0, 39, .pointer (some ⟨g, t * 2, none⟩)), (1, 40, .pointer (some ⟨g, t * 2, none⟩)), (2, 41, .pointer (some ⟨g, t * 2, none⟩)), (3, 42, .pointer (some ⟨g, t * 2, none⟩)), (4, 43, .slice X N cx), (5, 44, .agg #[.int .i64 n, .slice A h.length c, .slice D b.length d]), (6, 45, .agg #[.int .i64 n, u1, u2]), (7, 46, .slice (some ⟨qb, 0, none⟩) 1 1), (8, 47, v'), (9, 48, .pointer (some ⟨g, t * 2, none⟩)), (10, 49, .pointer (some ⟨g, t * 2, none⟩))] f a0).eval (.tmp 49) = .pointer (some ⟨g, t * 2, none⟩) := acts_eval_hit 10 rfl hd.1 (by rw [HSZ]; rfl) (by kernel_rfl)
            have q47 : (acts [(0, 39, .pointer (some ⟨g, t * 2, none⟩)), (1, 40, .pointer (some ⟨g, t * 2, none⟩)), (2, 41, .pointer (some ⟨g, t * 2, none⟩)), (3, 42, .pointer (some ⟨g, t * 2, none⟩)), (4, 43, .slice X N cx), (5, 44, .agg #[.int .i64 n, .slice A h.length c, .slice D b.length d]), (6, 45, .agg #[.int .i64 n, u1, u2]), (7, 46, .slice (some ⟨qb, 0, none⟩) 1 1), (8, 47, v'), (9, 48, .pointer (some ⟨g, t * 2, none⟩)), (10, 49, .pointer (some ⟨g, t * 2, none⟩))] f a0).eval (.tmp 47) = v' := acts_eval_hit 8 rfl hd.2.1 (by rw [HSZ]; rfl) (by kernel_rfl)
            (simp only [hd.2.1, h11, cond_true, cond_false] at S; obtain ⟨A', c', hv', -⟩ := (Sat.mid [_, _, _, _] S).ownSlice; refine wpOp_list rfl ?_; refine st_set rfl _ _ _ rfl _ _ _ q49 q47 (by rw [hv']; rfl) _ _ S.pull3 (by kernel_rfl) (by omega) fun W' S' => ?_; refine ⟨u1, u2, qb, v', ⟨hh.1, hh.2.1, hh.2.2.1, fun _ => hd.2.1⟩, (acts_none 11 (by kernel_rfl)).symm, ?_⟩; have S4 := S'.push3; show Sat G W' (opt (f 6) _ :: opt (f 6) _ :: opt (f 7) _ :: _ :: ownS _ _ (cond (f 8) _ _) (cond (f 8) _ _) (cond (f 8) _ _) :: _); rw [hd.2.1]; exact S4)
        rintro a' W ⟨u1, u2, qb, v', -, rfl, S10⟩
        subst ha0
        simp only [acts, if_true, Act.put, List.setIfInBounds_toArray, List.set_cons_succ, List.set_cons_zero]
        have T1 := opt_iff.1 S10
        have T2 := opt_iff.1 T1.swap
        have T3 := (T2.re [2, 0, 1]).drop
        clear S10 T1 T2 S9 HSZ E5 E7
        obtain ⟨G1, hG1, T4, hu2⟩ := T3.ownFrz
        obtain ⟨G2, hG2, T5, hu1⟩ := T4.ownFrz
        have hu2' := hu2.mono hG2
        clear T3 T4 hu2
        have HU1 := Lib.hid hu1
        have HU2 := Lib.hid hu2'
        clear hu1 hu2'
        have T6 := T5.re [0, 2, 1, 3]
        clear T5
        obtain ⟨l4, hl4⟩ : ∃ l4, l4 = ownS 41 3 v' (N + 1) (xs ++ [.int .i64 n, u1, u2]) :: blk q #[.slice (some ⟨g, 0, none⟩) m cap, .int .i64 B, .int .i64 I] 111 :: l3 := ⟨_, rfl⟩
        change Sat G2 W (_ :: _ :: (ownS 41 3 v' (N + 1) (xs ++ [.int .i64 n, u1, u2]) :: blk q #[.slice (some ⟨g, 0, none⟩) m cap, .int .i64 B, .int .i64 I] 111 :: l3)) at T6
        rw [← hl4] at T6
        have HL4 := Lib.hid hl4
        clear hl4
        obtain ⟨cur2, hcur2⟩ : ∃ cur2, cur2 = cur.setIfInBounds (t * 2) v' := ⟨_, rfl⟩
        rw [← hcur2] at T6
        have HC2 : Hid (cur2[t * 2 + 1]? = some (.int .i64 z)) := Lib.hid (by rw [hcur2, Array.getElem?_setIfInBounds_ne (by omega)]; exact HC1.out)
        have hsz2 : t * 2 + 1 < cur2.size := by rw [hcur2]; simpa using e2
        have HCU := Lib.hid hcur2
        clear hcur2
        go_upto_region 7 with fail
        refine wp_act fun a0 ha0 => ?_
        have HSZ : a0.tmps.size = 59 := by rw [ha0]; rfl
        have E5 : a0.eval (.tmp 5) = .pointer (some ⟨p, 0, none⟩) := by rw [ha0]; rfl
        have E7 : a0.eval (.tmp 7) = .pointer (some ⟨g, t * 2, none⟩) := by rw [ha0]; rfl
        refine wp_region_J (by kernel_rfl) 10 (by kernel_rfl) [[], [0], [1], [2], [], [4], [3, 5], [0, 0, 1, 2, 3, 4, 5, 6], [7, 0, 1, 2, 3, 4, 5, 6], [8, 6, 5, 0, 1, 2, 3, 4, 5, 6]] (by kernel_rfl) (by kernel_rfl) (fun f a' W => HN7 f ∧ a' = acts [(0, 50, .pointer (some ⟨g, t * 2, none⟩)), (1, 51, .pointer (some ⟨g, t * 2, none⟩)), (2, 52, .pointer (some ⟨g, t * 2 + 1, none⟩)), (3, 53, .int .i64 z), (4, 54, .agg #[.int .i64 n, .slice A h.length c, .slice D b.length d]), (5, 55, .int .i64 sx), (6, 56, .int .i64 ((z : Int) + sx)), (7, 57, .pointer (some ⟨g, t * 2, none⟩)), (8, 58, .pointer (some ⟨g, t * 2 + 1, none⟩))] f a0 ∧ Sat G2 W (blk g (cond (f 9) (cur2.setIfInBounds (t * 2 + 1) (.int .i64 ((z : Int) + sx))) cur2) 125 :: blk p #[.int .i64 n, .slice A h.length c, .slice D b.length d] 41 :: l4)) ?_ ?_ ?_
        · exact ⟨by unfold HN7; decide, rfl, T6.drew⟩
        · refine ⟨?_, ?_, ?_, ?_, ?_, ?_, ?_, ?_, ?_, ?_, trivial⟩
          · rintro f a' W h0 hd ⟨hh, rfl, S⟩
            refine wpOp_run (v := .pointer (some ⟨g, t * 2, none⟩)) rfl rfl (fun ρ hρ => ?_) ⟨hh, (acts_some 0 rfl (by kernel_rfl) (by kernel_rfl)).symm, S⟩
            have e0 : ρ (.tmp 7) = .pointer (some ⟨g, t * 2, none⟩) := by rw [hρ]; exact (acts_eval_tmp 7 (by kernel_rfl)).trans E7
            clear hρ
            go_simp
          · rintro f a' W h1 hd ⟨hh, rfl, S⟩
            refine wpOp_run (v := .pointer (some ⟨g, t * 2, none⟩)) rfl rfl (fun ρ hρ => ?_) ⟨hh, (acts_some 1 rfl (by kernel_rfl) (by kernel_rfl)).symm, S⟩
            have e0 : ρ (.tmp 50) = .pointer (some ⟨g, t * 2, none⟩) := by rw [hρ]; exact acts_eval_hit 0 rfl hd.1 (by rw [HSZ]; rfl) (by kernel_rfl)
            clear hρ
            go_simp
          · rintro f a' W h2 hd ⟨hh, rfl, S⟩
            refine wpOp_run (v := .pointer (some ⟨g, t * 2 + 1, none⟩)) rfl rfl (fun ρ hρ => ?_) ⟨hh, (acts_some 2 rfl (by kernel_rfl) (by kernel_rfl)).symm, S⟩
            have e0 : ρ (.tmp 51) = .pointer (some ⟨g, t * 2, none⟩) := by rw [hρ]; exact acts_eval_hit 1 rfl hd.1 (by rw [HSZ]; rfl) (by kernel_rfl)
            clear hρ
            go_simp
          · rintro f a' W h3 hd ⟨hh, rfl, S⟩
            (have z9 := no_of_q hh h3)
            refine wpOp_run (v := .int .i64 z) rfl rfl (fun ρ hρ => ?_) ⟨fun _ => rfl, (acts_some 3 rfl (by kernel_rfl) (by kernel_rfl)).symm, S⟩
            have e0 : ρ (.tmp 52) = .pointer (some ⟨g, t * 2 + 1, none⟩) := by rw [hρ]; exact acts_eval_hit 2 rfl hd.1 (by rw [HSZ]; rfl) (by kernel_rfl)
            clear hρ
            (have hcl : W.cell? ⟨g, t * 2 + 1, none⟩ = some (.int .i64 z) := (by have := S.cell (t * 2 + 1); rw [z9] at this; exact this.trans HC2.out))
            go_simp
          · rintro f a' W h4 hd ⟨hh, rfl, S⟩
            refine wpOp_run (v := .agg #[.int .i64 n, .slice A h.length c, .slice D b.length d]) rfl rfl (fun ρ hρ => ?_) ⟨hh, (acts_some 4 rfl (by kernel_rfl) (by kernel_rfl)).symm, S⟩
            have e0 : ρ (.tmp 5) = .pointer (some ⟨p, 0, none⟩) := by rw [hρ]; exact (acts_eval_tmp 5 (by kernel_rfl)).trans E5
            clear hρ
            (have hz0 : W.cell? ⟨p, 0, none⟩ = some (.int .i64 n) := S.swap.cell 0; have hz1 : W.cell? ⟨p, 1, none⟩ = some (.slice A h.length c) := S.swap.cell 1; have hz2 : W.cell? ⟨p, 2, none⟩ = some (.slice D b.length d) := S.swap.cell 2)
            go_simp
          · rintro f a' W h5 hd ⟨hh, rfl, S⟩
            refine wpOp_call rfl rfl (fun ρ hρ => ?_) (it_size S n A D h.length c b.length d (by omega)) ?_
            · skip
              have e0 : ρ (.tmp 54) = .agg #[.int .i64 n, .slice A h.length c, .slice D b.length d] := by rw [hρ]; exact acts_eval_hit 4 rfl hd.1 (by rw [HSZ]; rfl) (by kernel_rfl)
              have ef : ρ (.func 44) = .func (.func 44) #[] #[] := by rw [hρ]; rfl
              clear hρ
              go_simp
            · (rintro x W' ⟨rfl, S'⟩; rw [HSX.out]; exact ⟨_, rfl, hh, (acts_some 5 rfl (by kernel_rfl) (by kernel_rfl)).symm, S'⟩)
          · rintro f a' W h6 hd ⟨hh, rfl, S⟩
            refine wpOp_run (v := .int .i64 ((z : Int) + sx)) rfl rfl (fun ρ hρ => ?_) ⟨hh, (acts_some 6 rfl (by kernel_rfl) (by kernel_rfl)).symm, S⟩
            have e0 : ρ (.tmp 53) = .int .i64 z := by rw [hρ]; exact acts_eval_hit 3 rfl hd.1 (by rw [HSZ]; rfl) (by kernel_rfl)
            have e1 : ρ (.tmp 55) = .int .i64 sx := by rw [hρ]; exact acts_eval_hit 5 rfl hd.2.1 (by rw [HSZ]; rfl) (by kernel_rfl)
            clear hρ
            go_simp
          · rintro f a' W h7 hd ⟨hh, rfl, S⟩
            refine wpOp_run (v := .pointer (some ⟨g, t * 2, none⟩)) rfl rfl (fun ρ hρ => ?_) ⟨hh, (acts_some 7 rfl (by kernel_rfl) (by kernel_rfl)).symm, S⟩
            have e0 : ρ (.tmp 50) = .pointer (some ⟨g, t * 2, none⟩) := by rw [hρ]; exact acts_eval_hit 0 rfl hd.1 (by rw [HSZ]; rfl) (by kernel_rfl)
            clear hρ
            go_simp
          · rintro f a' W h8 hd ⟨hh, rfl, S⟩
            refine wpOp_run (v := .pointer (some ⟨g, t * 2 + 1, none⟩)) rfl rfl (fun ρ hρ => ?_) ⟨hh, (acts_some 8 rfl (by kernel_rfl) (by kernel_rfl)).symm, S⟩
            have e0 : ρ (.tmp 57) = .pointer (some ⟨g, t * 2, none⟩) := by rw [hρ]; exact acts_eval_hit 7 rfl hd.1 (by rw [HSZ]; rfl) (by kernel_rfl)
            clear hρ
            go_simp
          · rintro f a' W h9 hd ⟨hh, rfl, S⟩
            have q58 : (acts [(0, 50, .pointer (some ⟨g, t * 2, none⟩)), (1, 51, .pointer (some ⟨g, t * 2, none⟩)), (2, 52, .pointer (some ⟨g, t * 2 + 1, none⟩)), (3, 53, .int .i64 z), (4, 54, .agg #[.int .i64 n, .slice A h.length c, .slice D b.length d]), (5, 55, .int .i64 sx), (6, 56, .int .i64 ((z : Int) + sx)), (7, 57, .pointer (some ⟨g, t * 2, none⟩)), (8, 58, .pointer (some ⟨g, t * 2 + 1, none⟩))] f a0).eval (.tmp 58) = .pointer (some ⟨g, t * 2 + 1, none⟩) := acts_eval_hit 8 rfl hd.1 (by rw [HSZ]; rfl) (by kernel_rfl)
            have q56 : (acts [(0, 50, .pointer (some ⟨g, t * 2, none⟩)), (1, 51, .pointer (some ⟨g, t * 2, none⟩)), (2, 52, .pointer (some ⟨g, t * 2 + 1, none⟩)), (3, 53, .int .i64 z), (4, 54, .agg #[.int .i64 n, .slice A h.length c, .slice D b.length d]), (5, 55, .int .i64 sx), (6, 56, .int .i64 ((z : Int) + sx)), (7, 57, .pointer (some ⟨g, t * 2, none⟩)), (8, 58, .pointer (some ⟨g, t * 2 + 1, none⟩))] f a0).eval (.tmp 56) = .int .i64 ((z : Int) + sx) := acts_eval_hit 6 rfl hd.2.1 (by rw [HSZ]; rfl) (by kernel_rfl)
            (rw [h9] at S; refine wpOp_list rfl ?_; refine st_set rfl _ _ _ rfl _ _ _ q58 q56 rfl _ _ S (by kernel_rfl) hsz2 fun W' S' => ?_; exact ⟨fun _ => hd.2.2.2.2.2.2.1, (acts_none 9 (by kernel_rfl)).symm, S'⟩)
        rintro a' W2 ⟨-, rfl, S11⟩
        subst ha0
        simp only [acts, if_true, Act.put, List.setIfInBounds_toArray, List.set_cons_succ, List.set_cons_zero]
        change Sat _ _ (blk g (cur2.setIfInBounds (t * 2 + 1) (.int .i64 ((z : Int) + sx))) _ :: _) at S11
        have HS11 := Lib.hid S11
        clear S11 T6 HSZ E5 E7
        go_wp2_with fail
        refine hK.out _ _ ⟨G2, hG1.trans hG2, rfl, ?_⟩
        have S12 := HS11.out.drop2
        rw [HL4.out, HL3.out, HCU.out] at S12
        have exs : xs ++ [.int .i64 n, u1, u2] = encs Qe.enc (F ++ [⟨n, u1, u2, h, b⟩]) := by rw [encs_append, encs_one, HXX.out]; rfl
        rw [exs] at S12
        have hG12 := hG1.trans hG2
        refine qu_shut (F := F ++ [⟨n, u1, u2, h, b⟩]) S12.pull2.swap HM2.out (by rw [List.length_append, ← HN0.out]; rfl) hM (by rw [HML.out]; omega) (lay_put hL (by rw [HML.out]; omega) ⟨v', Q.getD t [] ++ [(n, h, b)]⟩ _ ?_) hcap ?_ ?_
        · simp only [qsz_append, qsz_cons, qsz_nil, isz]
          have := HZ.out
          have := HSX.out
          omega
        · rw [List.map_append, HXS.out]; rfl
        · intro e he
          rcases List.mem_append.1 he with he | he
          · exact ⟨(hFo e he).1.mono hG12, (hFo e he).2.mono hG12⟩
          · obtain rfl := List.mem_singleton.1 he
            exact ⟨HU1.out, HU2.out⟩
end
end Go.Proofs.YtcecfhfbcdbofaaGreatDoor
set_option linter.unusedSimpArgs false
set_option linter.unusedVariables false
namespace Go.Proofs.YtcecfhfbcdbofaaGreatDoor
open Go.RowKit

theorem lay_del {α : Type} {enc : α → List Value} {size cap i : Nat} {cur : Array Value} {F : List α} (L : Lay enc size cap cur F) (hi : i < F.length) :
    Lay enc size cap (cur.toList.take (i * size) ++ encs enc (F.drop (i + 1)) ++ cur.toList.drop (i * size + (encs enc (F.drop (i + 1))).length)).toArray (F.take i ++ F.drop (i + 1)) := by
  have hl := L.len
  have hs : (encs enc (F.drop (i + 1))).length = (F.length - (i + 1)) * size := by rw [encs_length L.h, List.length_drop]
  have hc : F.length * size ≤ cur.size := by rw [L.all]; exact Nat.mul_le_mul_right _ hl
  have e1 : F.length * size = i * size + ((F.length - (i + 1)) * size + size) := by
    rw [← Nat.add_one_mul, ← Nat.add_mul]; congr 1; omega
  have hl1 : (cur.toList.take (i * size)).length = i * size := by rw [List.length_take]; simp; omega
  refine ⟨L.h, ?_, ?_, ?_⟩
  · rw [← L.all]
    simp only [List.size_toArray, List.length_append, hl1, hs, List.length_drop, Array.length_toList]
    omega
  · rw [List.length_append, List.length_take, List.length_drop]; omega
  · have e2 : (F.take i ++ F.drop (i + 1)).length * size = i * size + (F.length - (i + 1)) * size := by
      rw [List.length_append, List.length_take, List.length_drop, Nat.min_eq_left (by omega), Nat.add_mul]
    rw [e2, List.toList_toArray, List.take_left' (by rw [List.length_append, hl1, hs]), encs_append]
    congr 1
    rw [← encs_take L.h, ← L.at_, List.take_take, Nat.min_eq_left (by omega)]
section
variable {G : Gnd} {w w' : World} {l : List Asrt}
set_option maxHeartbeats 4000000 in
set_option maxRecDepth 100000 in
theorem del_one {v : Value} {F : List Qe} {i : Nat} (H : Sat G w (ownS 41 3 v F.length (encs Qe.enc F) :: l)) (hi : i < F.length) (hv : ∀ x ∈ F, x.hv.oneCell' = true ∧ x.bv.oneCell' = true) (hl : F.length ≤ 10000) :
    Calls Tryz.prog 79 #[v, .int .i64 i, .int .i64 ((i + 1 : Nat) : Int)] w fun e w' => ∃ v', e = .returned v' ∧ Sat G w' (ownS 41 3 v' (F.take i ++ F.drop (i + 1)).length (encs Qe.enc (F.take i ++ F.drop (i + 1))) :: l) := by
  refine calls_any fun K hK => ?_
  obtain ⟨g, cap, cur, rfl, hc, L, S⟩ := H.layOpen qe_len (by omega)
  have hc3 : cap ≤ 9223372036854775807 := hc
  have hlc := L.len
  obtain ⟨N, hN⟩ : ∃ N, N = F.length := ⟨_, rfl⟩
  rw [← hN] at hi hlc hl ⊢
  have HL := Lib.hid L
  have HN_q := Lib.hid hN
  have HV := Lib.hid hv
  have HCL := Lib.hid hc
  clear H L hN hv hc
  obtain ⟨j, hj⟩ : ∃ j, j = i + 1 := ⟨_, rfl⟩
  rw [← hj]
  have hne : (((i : Int)) == (j : Int)) = false := beq_eq_false_iff_ne.2 (by omega)
  have a1 : i ≤ cap := by omega
  have a2 : j ≤ N := by omega
  have a3 : j ≤ cap := by omega
  have a4 : (j : Int) ≤ (N : Int) := by omega
  have a5 : (i : Int) ≤ (cap : Int) := by omega
  have a6 : (N : Int) ≤ (cap : Int) := by omega
  have a7 : i ≤ j := by omega
  have HJ := Lib.hid hj
  clear hj
  obtain ⟨m1, hm1⟩ : ∃ m1, m1 = i + (N - j) := ⟨_, rfl⟩
  have hj := HJ.out
  have c1 : m1 ≤ N := by omega
  have c2 : m1 ≤ cap := by omega
  have c3 : ¬ (cap - m1 = 0) := by omega
  have c4 : (m1 : Int) ≤ (N : Int) := by omega
  have c5 : N - m1 = 1 := by omega
  obtain ⟨ti, hti, htz⟩ := Option.map_eq_some_iff.1 info_it
  simp only [Prod.mk.injEq] at htz
  obtain ⟨-, hts, -⟩ := htz
  have hnl : (encs Qe.enc (F.drop (i + 1))).length = (N - j) * ti.size := by rw [encs_length qe_len, List.length_drop, hts, ← HN_q.out, ← HJ.out]
  have hone : ∀ u ∈ encs Qe.enc (F.drop (i + 1)), u.oneCell' = true := fun u hu => by
    obtain ⟨x, hx, hu⟩ := List.mem_flatMap.1 hu
    have := HV.out x (List.mem_of_mem_drop hx)
    simp only [Qe.enc, List.mem_cons, List.not_mem_nil, or_false] at hu
    rcases hu with rfl | rfl | rfl
    · rfl
    · exact this.1
    · exact this.2
  have hfit : i * ti.size + (encs Qe.enc (F.drop (i + 1))).length ≤ cur.size := by rw [hnl, HL.out.all, hts]; omega
  have HR := Lib.hid fun (ad : Addr) (c : Nat) (hn : ∀ k u, (encs Qe.enc (F.drop (i + 1)))[k]? = some u → w.drew.cell? (ad.add k) = some u) (ty : TypeId) =>
    run_append_room (P := Tryz.prog) w.drew 123 ty 41 ti Tryz.underlying123 hti g i cap cur S.drew.blk_at ad (N - j) c (encs Qe.enc (F.drop (i + 1))) hnl hn hone (by omega) hfit
  rw [← hm1, hts] at HR
  have S2 := S.drew.setRow (cur.toList.take (i * 3) ++ encs Qe.enc (F.drop (i + 1)) ++ cur.toList.drop (i * 3 + (encs Qe.enc (F.drop (i + 1))).length)).toArray
  have HL2 := Lib.hid (lay_del HL.out (i := i) (by rw [← HN_q.out]; omega))
  generalize (cur.toList.take (i * 3) ++ encs Qe.enc (F.drop (i + 1)) ++ cur.toList.drop (i * 3 + (encs Qe.enc (F.drop (i + 1))).length)).toArray = cur2 at HR S2 HL2
  have hall : m1 * 3 + 3 ≤ cur2.size := by rw [HL2.out.all]; omega
  have hlen1 : (F.take i ++ F.drop (i + 1)).length = m1 := by rw [List.length_append, List.length_take, List.length_drop, ← HN_q.out, ← HJ.out]; omega
  have HLN := Lib.hid hlen1
  have hat : ∀ k u, (encs Qe.enc (F.drop (i + 1)))[k]? = some u → w.drew.cell? ⟨g, j * 3 + k, none⟩ = some u := fun k u hk => by
    have hkl := (List.getElem?_eq_some_iff.1 hk).1
    rw [hnl, hts] at hkl
    rw [S.drew.cell]
    have e1 := HL.out.at_
    have e2 : (encs Qe.enc F)[j * 3 + k]? = some u := by
      conv => lhs; rw [← List.take_append_drop (i + 1) F, encs_append]
      rw [List.getElem?_append_right (by rw [encs_length qe_len, List.length_take, ← HN_q.out, ← HJ.out]; omega), encs_length qe_len, List.length_take, ← HN_q.out, ← HJ.out, Nat.min_eq_left (by omega), show j * 3 + k - j * 3 = k by omega]
      rw [HJ.out]; exact hk
    rw [← e1, List.getElem?_take] at e2
    split at e2
    · simpa using e2
    · cases e2
  have HAT := Lib.hid hat
  clear hj hti hts
  have HM1 := Lib.hid hm1
  have HNL := Lib.hid hnl
  have HS2 := Lib.hid S2
  have HC := Lib.hid (And.intro c1 (And.intro c2 (And.intro c3 (And.intro c4 (And.intro c5 hall)))))
  clear c1 c2 c3 c4 c5 hall
  clear hat hm1 hnl hone hfit S2 S hlen1
  go_enter Tryz.func79, Tryz.ntmps79
  go_upto_region 5 with fail
  by_cases hcj : cap = j
  · subst hcj
    have b1 : cap - cap = 0 := by omega
    have hz : ∀ k u, (encs Qe.enc (F.drop (i + 1)))[k]? = some u → w.drew.cell? ((⟨g, 0, none⟩ : Addr).add k) = some u := fun k u hk => by
      have := (List.getElem?_eq_some_iff.1 hk).1
      rw [HNL.out] at this
      rw [show N - cap = 0 by omega] at this
      omega
    have HR1 := HR.out ⟨g, 0, none⟩ 0 hz
    simp only [show N - cap = 0 by omega] at HR1
    have HR2 := Lib.hid HR1
    clear hz HR1
    go_still_tail 6, (by kernel_rfl)
    change wpList _ _ _ _ _ w.drew
    refine Go.Lib.wpList_append_run w.drew rfl (.tmp 22) (.tmp 25) 123 123 rfl (.slice (some ⟨g, 0, none⟩) i cap) (.slice (some ⟨g, 0, none⟩) 0 0) rfl rfl _ _ (HR2.out _) ?_
    clear HR2
    (refine list_world HS2.out fun w3 S3 => ?_; clear HS2 HR; obtain ⟨c1, c2, c3, c4, c5, hall⟩ := HC.out; go_wp2_with (refine st_clear rfl _ 123 rfl 41 (.agg #[.int .i64 0, .slice none 0 0, .slice none 0 0]) Tryz.underlying123 (by kernel_rfl) (by simp [Value.cells, Value.oneCell']) g (m1 * 3) 1 (cap - m1) rfl S3 hall fun W6 S6 => ?_))
    rw [if_neg (by omega)] at S6
    have S7 := S6.layClose (HL2.out.keep (by rw [HLN.out]; exact Nat.le_refl _) (by rw [Array.length_toList, zeroCells_length]; simp [Value.cells]; omega)) HCL.out m1 HLN.out.symm
    rw [← HLN.out]
    exact hK.out _ _ ⟨_, rfl, by rw [HLN.out] at S7 ⊢; exact S7⟩
  · have b1 : ¬ (cap - j = 0) := by omega
    go_still_tail 6, (by kernel_rfl)
    change wpList _ _ _ _ _ w.drew
    refine Go.Lib.wpList_append_run w.drew rfl (.tmp 22) (.tmp 25) 123 123 rfl (.slice (some ⟨g, 0, none⟩) i cap) (.slice (some ⟨g, j * 3, none⟩) (N - j) (cap - j)) rfl rfl _ _ (HR.out ⟨g, j * 3, none⟩ (cap - j) (fun k u hk => by
      have e : (⟨g, j * 3, none⟩ : Addr).add k = ⟨g, j * 3 + k, none⟩ := by unfold Addr.add; split <;> simp_all
      rw [e]; exact HAT.out k u hk) _) ?_
    (refine list_world HS2.out fun w3 S3 => ?_; clear HS2 HR; obtain ⟨c1, c2, c3, c4, c5, hall⟩ := HC.out; go_wp2_with (refine st_clear rfl _ 123 rfl 41 (.agg #[.int .i64 0, .slice none 0 0, .slice none 0 0]) Tryz.underlying123 (by kernel_rfl) (by simp [Value.cells, Value.oneCell']) g (m1 * 3) 1 (cap - m1) rfl S3 hall fun W6 S6 => ?_))
    rw [if_neg (by omega)] at S6
    have S7 := S6.layClose (HL2.out.keep (by rw [HLN.out]; exact Nat.le_refl _) (by rw [Array.length_toList, zeroCells_length]; simp [Value.cells]; omega)) HCL.out m1 HLN.out.symm
    rw [← HLN.out]
    exact hK.out _ _ ⟨_, rfl, by rw [HLN.out] at S7 ⊢; exact S7⟩
end
end Go.Proofs.YtcecfhfbcdbofaaGreatDoor
set_option linter.unusedSimpArgs false
set_option linter.unusedVariables false
namespace Go.Proofs.YtcecfhfbcdbofaaGreatDoor
open Go.RowKit

theorem qe_slices {R : Hp} {x : Qe} (h : x.ok R) : ∃ A a B b, x.hv = .slice A x.h.length a ∧ x.bv = .slice B x.b.length b := by
  obtain ⟨A, a, e1, -, -, -⟩ := h.1.form
  obtain ⟨B, b, e2, -, -, -⟩ := h.2.form
  exact ⟨A, a, B, b, e1, e2⟩
theorem qe_one {R : Hp} {F : List Qe} (h : ∀ e ∈ F, e.ok R) : ∀ x ∈ F, x.hv.oneCell' = true ∧ x.bv.oneCell' = true := fun x hx => by
  obtain ⟨A, a, B, b, e1, e2⟩ := qe_slices (h x hx)
  rw [e1, e2]; exact ⟨rfl, rfl⟩
def HG9 (f : Nat → Bool) : Prop := f 9 = true → f 3 = true
section
variable {G : Gnd} {w w' : World} {l : List Asrt} {q : Nat} {Q : List (List It)} {B I : Int}
set_option maxHeartbeats 4000000 in
set_option maxRecDepth 100000 in
theorem ln_gone {v : Value} {F : List Qe} {g t i z : Nat} {cur : Array Value} (H : Sat G w (ownS 41 3 v F.length (encs Qe.enc F) :: blk g cur 125 :: l)) (hc0 : cur[t * 2]? = some v) (hc1 : cur[t * 2 + 1]? = some (.int .i64 z)) (hok : ∀ e ∈ F, e.ok G.ro) (hl : F.length ≤ 4096) {x : Qe} (hx : F[i]? = some x) (hz : isz x.abs ≤ z) (hz2 : z ≤ 1048576) :
    Calls Tryz.prog 55 #[.pointer (some ⟨g, t * 2, none⟩), .int .i64 i] w fun e w' => ∃ v', e = .returned (.agg x.enc.toArray) ∧ Sat G w' (ownS 41 3 v' (F.take i ++ F.drop (i + 1)).length (encs Qe.enc (F.take i ++ F.drop (i + 1))) :: blk g ((cur.setIfInBounds (t * 2) v').setIfInBounds (t * 2 + 1) (.int .i64 ((z - isz x.abs : Nat) : Int))) 125 :: l) := by
  refine calls_any fun K hK => ?_
  have hi := (List.getElem?_eq_some_iff.1 hx).1
  obtain ⟨A, a, D, d, e1, e2⟩ := qe_slices (hok x (List.mem_of_getElem? hx))
  obtain ⟨xn, hv, bv, h, b⟩ := x
  simp only at e1 e2
  subst e1
  subst e2
  have hsz : isz (Qe.abs ⟨xn, .slice A h.length a, .slice D b.length d, h, b⟩) = h.length + b.length := rfl
  rw [hsz] at hz hK
  obtain ⟨gi, cap, ci, rfl, hcap, L, S0⟩ := H.layOpen qe_len (by omega)
  have hcap3 : cap ≤ 9223372036854775807 := hcap
  have hlc := L.len
  have d0 := (S0.cell _).trans (L.get hx (j := 0) (by decide))
  have d1 := (S0.cell _).trans (L.get hx (j := 1) (by decide))
  have d2 := (S0.cell _).trans (L.get hx (j := 2) (by decide))
  simp only [Qe.enc, List.getElem?_cons_zero, List.getElem?_cons_succ, Nat.add_zero] at d0 d1 d2
  have k0 : w.cell? ⟨g, t * 2, none⟩ = some (.slice (some ⟨gi, 0, none⟩) F.length cap) := (S0.swap.cell (t * 2)).trans hc0
  have hdel := fun {W : World} {l' : List Asrt} (S : Sat G W (ownS 41 3 (.slice (some ⟨gi, 0, none⟩) F.length cap) F.length (encs Qe.enc F) :: l')) => del_one S hi (qe_one hok) (by omega)
  have S1 := (H.newBlk #[.int .i64 0, .slice none 0 0, .slice none 0 0] 41).newBlk #[.int .i64 xn, .slice A h.length a, .slice D b.length d] 41
  simp only [World.size_alloc] at S1
  have hcs0 : t * 2 < cur.size := (Array.getElem?_eq_some_iff.1 hc0).1
  have hcs1 : t * 2 + 1 < cur.size := (Array.getElem?_eq_some_iff.1 hc1).1
  have dd0 : (w.alloc (.cells #[.int .i64 0, .slice none 0 0, .slice none 0 0] 41)).cell? ⟨g, t * 2, none⟩ = some (.slice (some ⟨gi, 0, none⟩) F.length cap) := by rw [World.cell?_alloc_some _ _ _ (by rw [k0]; rfl)]; exact k0
  have dd1 : (w.alloc (.cells #[.int .i64 0, .slice none 0 0, .slice none 0 0] 41)).cell? ⟨gi, i * 3, none⟩ = some (.int .i64 xn) := by rw [World.cell?_alloc_some _ _ _ (by rw [d0]; rfl)]; exact d0
  have dd2 : (w.alloc (.cells #[.int .i64 0, .slice none 0 0, .slice none 0 0] 41)).cell? ⟨gi, i * 3 + 1, none⟩ = some (.slice A h.length a) := by rw [World.cell?_alloc_some _ _ _ (by rw [d1]; rfl)]; exact d1
  have dd3 : (w.alloc (.cells #[.int .i64 0, .slice none 0 0, .slice none 0 0] 41)).cell? ⟨gi, i * 3 + 2, none⟩ = some (.slice D b.length d) := by rw [World.cell?_alloc_some _ _ _ (by rw [d2]; rfl)]; exact d2
  generalize hF2 : F.take i ++ F.drop (i + 1) = F2 at *
  clear L S0 H d0 d1 d2 k0 hF2 hx hok hsz
  obtain ⟨N, hN⟩ : ∃ N, N = F.length := ⟨_, rfl⟩
  rw [← hN] at dd0 hdel S1 hi hlc hl hc0
  have HN_q := Lib.hid hN
  clear hN
  go_enter Tryz.func55, Tryz.ntmps55
  go_upto_region 2 with fail
  generalize w.heap.size + 1 = y at *
  generalize w.heap.size = r at *
  refine wp_world S1 fun w1 S2 => ?_
  clear S1 dd0 dd1 dd2 dd3
  have k0 : w1.cell? ⟨g, t * 2, none⟩ = some (.slice (some ⟨gi, 0, none⟩) N cap) := (S2.pull3.cell (t * 2)).trans hc0
  have hd2 := hdel S2.pull2
  rw [show ((i + 1 : Nat) : Int) = (i : Int) + 1 from rfl] at hd2
  have hwr : IntKind.i64.wrap ((i : Int) + 1) = (i : Int) + 1 := IntWalk.i64_in _ (by omega)
  clear hdel S2
  go_wp2_with fail
  (with_reducible refine hd2.mono ?_)
  clear hd2 k0
  rintro e w2 ⟨v', rfl, S3⟩
  have S4 := S3.pull3
  obtain ⟨A', c', rfl, -, -, -⟩ := S3.ownSlice
  have k0 := (S4.cell (t * 2)).trans hc0
  have f0 := S4.frozen (t * 2)
  have S5 := S4.setCell (t * 2) (.slice A' F2.length c')
  clear S3 S4
  go_upto_region 3 with fail
  refine wp_world S5 fun w3 S6 => ?_
  clear S5 k0 f0
  obtain ⟨cur2, hcur2⟩ : ∃ cur2, cur2 = cur.setIfInBounds (t * 2) (.slice A' F2.length c') := ⟨_, rfl⟩
  rw [← hcur2] at S6 
  have HC2 : Hid (cur2[t * 2 + 1]? = some (.int .i64 z)) := Lib.hid (by rw [hcur2, Array.getElem?_setIfInBounds_ne (by omega)]; exact hc1)
  have hsz2 : t * 2 + 1 < cur2.size := by rw [hcur2]; simpa using hcs1
  have HCU := Lib.hid hcur2
  clear hcur2
  obtain ⟨sx, hsx⟩ : ∃ sx, sx = h.length + b.length := ⟨_, rfl⟩
  rw [← hsx] at hz hK
  have HSX := Lib.hid hsx.symm
  have hsb : h.length + b.length ≤ 9223372036854775807 := by omega
  clear hsx
  have hwz : IntKind.i64.wrap ((z : Int) - sx) = ((z - sx : Nat) : Int) := by rw [IntWalk.i64_in _ (by omega)]; omega
  obtain ⟨zz, hzz⟩ : ∃ zz, zz = z - sx := ⟨_, rfl⟩
  rw [← hzz] at hwz hK
  clear hzz
  have S7 := S6.push3
  have S8 := S7.re [3, 1, 0, 2]
  clear S6 S7
  refine wp_act fun a0 ha0 => ?_
  have HSZ : a0.tmps.size = 34 := by rw [ha0]; rfl
  have E0 : a0.eval (.tmp 0) = .pointer (some ⟨g, t * 2, none⟩) := by rw [ha0]; rfl
  have E5 : a0.eval (.tmp 5) = .pointer (some ⟨y, 0, none⟩) := by rw [ha0]; rfl
  refine wp_region_J (by kernel_rfl) 10 (by kernel_rfl) [[], [0], [1], [2], [], [4], [3, 5], [0, 0, 1, 2, 3, 4, 5, 6], [7, 0, 1, 2, 3, 4, 5, 6], [8, 6, 5, 0, 1, 2, 3, 4, 5, 6]] (by kernel_rfl) (by kernel_rfl) (fun f a' W => HG9 f ∧ a' = acts [(0, 24, .pointer (some ⟨g, t * 2, none⟩)), (1, 25, .pointer (some ⟨g, t * 2, none⟩)), (2, 26, .pointer (some ⟨g, t * 2 + 1, none⟩)), (3, 27, .int .i64 z), (4, 28, .agg #[.int .i64 xn, .slice A h.length a, .slice D b.length d]), (5, 29, .int .i64 sx), (6, 30, .int .i64 zz), (7, 31, .pointer (some ⟨g, t * 2, none⟩)), (8, 32, .pointer (some ⟨g, t * 2 + 1, none⟩))] f a0 ∧ Sat G W (blk g (cond (f 9) (cur2.setIfInBounds (t * 2 + 1) (.int .i64 zz)) cur2) 125 :: blk y #[.int .i64 xn, .slice A h.length a, .slice D b.length d] 41 :: ownS 41 3 (.slice A' F2.length c') F2.length (encs Qe.enc F2) :: blk r #[.int .i64 0, .slice none 0 0, .slice none 0 0] 41 :: l)) ?_ ?_ ?_
  · exact ⟨by unfold HG9; decide, rfl, S8.drew⟩
  · refine ⟨?_, ?_, ?_, ?_, ?_, ?_, ?_, ?_, ?_, ?_, trivial⟩
    · rintro f a' W h0 hd ⟨hh, rfl, S⟩
      refine wpOp_run (v := .pointer (some ⟨g, t * 2, none⟩)) rfl rfl (fun ρ hρ => ?_) ⟨hh, (acts_some 0 rfl (by kernel_rfl) (by kernel_rfl)).symm, S⟩
      have e0 : ρ (.tmp 0) = .pointer (some ⟨g, t * 2, none⟩) := by rw [hρ]; exact (acts_eval_tmp 0 (by kernel_rfl)).trans E0
      clear hρ
      go_simp
    · rintro f a' W h1 hd ⟨hh, rfl, S⟩
      refine wpOp_run (v := .pointer (some ⟨g, t * 2, none⟩)) rfl rfl (fun ρ hρ => ?_) ⟨hh, (acts_some 1 rfl (by kernel_rfl) (by kernel_rfl)).symm, S⟩
      have e0 : ρ (.tmp 24) = .pointer (some ⟨g, t * 2, none⟩) := by rw [hρ]; exact acts_eval_hit 0 rfl hd.1 (by rw [HSZ]; rfl) (by kernel_rfl)
      clear hρ
      go_simp
    · rintro f a' W h2 hd ⟨hh, rfl, S⟩
      refine wpOp_run (v := .pointer (some ⟨g, t * 2 + 1, none⟩)) rfl rfl (fun ρ hρ => ?_) ⟨hh, (acts_some 2 rfl (by kernel_rfl) (by kernel_rfl)).symm, S⟩
      have e0 : ρ (.tmp 25) = .pointer (some ⟨g, t * 2, none⟩) := by rw [hρ]; exact acts_eval_hit 1 rfl hd.1 (by rw [HSZ]; rfl) (by kernel_rfl)
      clear hρ
      go_simp
    · rintro f a' W h3 hd ⟨hh, rfl, S⟩
      (have z9 := no_of_q hh h3)
      refine wpOp_run (v := .int .i64 z) rfl rfl (fun ρ hρ => ?_) ⟨fun _ => rfl, (acts_some 3 rfl (by kernel_rfl) (by kernel_rfl)).symm, S⟩
      have e0 : ρ (.tmp 26) = .pointer (some ⟨g, t * 2 + 1, none⟩) := by rw [hρ]; exact acts_eval_hit 2 rfl hd.1 (by rw [HSZ]; rfl) (by kernel_rfl)
      clear hρ
      (have hcl : W.cell? ⟨g, t * 2 + 1, none⟩ = some (.int .i64 z) := (by have := S.cell (t * 2 + 1); rw [z9] at this; exact this.trans HC2.out))
      go_simp
    · rintro f a' W h4 hd ⟨hh, rfl, S⟩
      refine wpOp_run (v := .agg #[.int .i64 xn, .slice A h.length a, .slice D b.length d]) rfl rfl (fun ρ hρ => ?_) ⟨hh, (acts_some 4 rfl (by kernel_rfl) (by kernel_rfl)).symm, S⟩
      have e0 : ρ (.tmp 5) = .pointer (some ⟨y, 0, none⟩) := by rw [hρ]; exact (acts_eval_tmp 5 (by kernel_rfl)).trans E5
      clear hρ
      (have hz0 : W.cell? ⟨y, 0, none⟩ = some (.int .i64 xn) := S.swap.cell 0; have hz1 : W.cell? ⟨y, 1, none⟩ = some (.slice A h.length a) := S.swap.cell 1; have hz2 : W.cell? ⟨y, 2, none⟩ = some (.slice D b.length d) := S.swap.cell 2)
      go_simp
    · rintro f a' W h5 hd ⟨hh, rfl, S⟩
      refine wpOp_call rfl rfl (fun ρ hρ => ?_) (it_size S xn A D h.length a b.length d hsb) ?_
      · skip
        have e0 : ρ (.tmp 28) = .agg #[.int .i64 xn, .slice A h.length a, .slice D b.length d] := by rw [hρ]; exact acts_eval_hit 4 rfl hd.1 (by rw [HSZ]; rfl) (by kernel_rfl)
        have ef : ρ (.func 44) = .func (.func 44) #[] #[] := by rw [hρ]; rfl
        clear hρ
        go_simp
      · (rintro x W' ⟨rfl, S'⟩; rw [HSX.out]; exact ⟨_, rfl, hh, (acts_some 5 rfl (by kernel_rfl) (by kernel_rfl)).symm, S'⟩)
    · rintro f a' W h6 hd ⟨hh, rfl, S⟩
      refine wpOp_run (v := .int .i64 zz) rfl rfl (fun ρ hρ => ?_) ⟨hh, (acts_some 6 rfl (by kernel_rfl) (by kernel_rfl)).symm, S⟩
      have e0 : ρ (.tmp 27) = .int .i64 z := by rw [hρ]; exact acts_eval_hit 3 rfl hd.1 (by rw [HSZ]; rfl) (by kernel_rfl)
      have e1 : ρ (.tmp 29) = .int .i64 sx := by rw [hρ]; exact acts_eval_hit 5 rfl hd.2.1 (by rw [HSZ]; rfl) (by kernel_rfl)
      clear hρ
      go_simp
    · rintro f a' W h7 hd ⟨hh, rfl, S⟩
      refine wpOp_run (v := .pointer (some ⟨g, t * 2, none⟩)) rfl rfl (fun ρ hρ => ?_) ⟨hh, (acts_some 7 rfl (by kernel_rfl) (by kernel_rfl)).symm, S⟩
      have e0 : ρ (.tmp 24) = .pointer (some ⟨g, t * 2, none⟩) := by rw [hρ]; exact acts_eval_hit 0 rfl hd.1 (by rw [HSZ]; rfl) (by kernel_rfl)
      clear hρ
      go_simp
    · rintro f a' W h8 hd ⟨hh, rfl, S⟩
      refine wpOp_run (v := .pointer (some ⟨g, t * 2 + 1, none⟩)) rfl rfl (fun ρ hρ => ?_) ⟨hh, (acts_some 8 rfl (by kernel_rfl) (by kernel_rfl)).symm, S⟩
      have e0 : ρ (.tmp 31) = .pointer (some ⟨g, t * 2, none⟩) := by rw [hρ]; exact acts_eval_hit 7 rfl hd.1 (by rw [HSZ]; rfl) (by kernel_rfl)
      clear hρ
      go_simp
    · rintro f a' W h9 hd ⟨hh, rfl, S⟩
      have q32 : (acts [(0, 24, .pointer (some ⟨g, t * 2, none⟩)), (1, 25, .pointer (some ⟨g, t * 2, none⟩)), (2, 26, .pointer (some ⟨g, t * 2 + 1, none⟩)), (3, 27, .int .i64 z), (4, 28, .agg #[.int .i64 xn, .slice A h.length a, .slice D b.length d]), (5, 29, .int .i64 sx), (6, 30, .int .i64 zz), (7, 31, .pointer (some ⟨g, t * 2, none⟩)), (8, 32, .pointer (some ⟨g, t * 2 + 1, none⟩))] f a0).eval (.tmp 32) = .pointer (some ⟨g, t * 2 + 1, none⟩) := acts_eval_hit 8 rfl hd.1 (by rw [HSZ]; rfl) (by kernel_rfl)
      have q30 : (acts [(0, 24, .pointer (some ⟨g, t * 2, none⟩)), (1, 25, .pointer (some ⟨g, t * 2, none⟩)), (2, 26, .pointer (some ⟨g, t * 2 + 1, none⟩)), (3, 27, .int .i64 z), (4, 28, .agg #[.int .i64 xn, .slice A h.length a, .slice D b.length d]), (5, 29, .int .i64 sx), (6, 30, .int .i64 zz), (7, 31, .pointer (some ⟨g, t * 2, none⟩)), (8, 32, .pointer (some ⟨g, t * 2 + 1, none⟩))] f a0).eval (.tmp 30) = .int .i64 zz := acts_eval_hit 6 rfl hd.2.1 (by rw [HSZ]; rfl) (by kernel_rfl)
      (rw [h9] at S; refine wpOp_list rfl ?_; refine st_set rfl _ _ _ rfl _ _ _ q32 q30 rfl _ _ S (by kernel_rfl) hsz2 fun W' S' => ?_; exact ⟨fun _ => hd.2.2.2.2.2.2.1, (acts_none 9 (by kernel_rfl)).symm, S'⟩)
  rintro a' W2 ⟨-, rfl, S11⟩
  subst ha0
  simp only [acts, if_true, Act.put, List.setIfInBounds_toArray, List.set_cons_succ, List.set_cons_zero]
  change Sat _ _ (blk g (cur2.setIfInBounds (t * 2 + 1) (.int .i64 zz)) _ :: _) at S11
  have T := S11.pull3
  have d0 := T.pull2.cell 0
  have d1 := T.pull2.cell 1
  have d2 := T.pull2.cell 2
  have r0 := T.cell 0
  have r1 := T.cell 1
  have r2 := T.cell 2
  have f0 := T.frozen 0
  have f1 := T.frozen 1
  have f2 := T.frozen 2
  have T2 := ((T.setCell 0 (.int .i64 xn)).setCell 1 (.slice A h.length a)).setCell 2 (.slice D b.length d)
  change Sat _ _ (blk r #[.int .i64 xn, .slice A h.length a, .slice D b.length d] _ :: _) at T2
  have HT2 := Lib.hid T2
  clear S11 S8 T T2 HSZ E0 E5
  go_wp2_with fail
  refine ret_cell HT2.out 4 41 rfl _ rfl Tryz.underlying41 rfl (by kernel_rfl) rfl ?_
  have T3 := HT2.out.drop.pull2.pull2.drop
  rw [HCU.out] at T3
  exact hK.out _ _ ⟨_, rfl, T3⟩
end
end Go.Proofs.YtcecfhfbcdbofaaGreatDoor
set_option linter.unusedSimpArgs false
set_option linter.unusedVariables false
namespace Go.Proofs.YtcecfhfbcdbofaaGreatDoor
open Go.RowKit

section
variable {G : Gnd} {w w' : World} {l : List Asrt} {q : Nat} {Q : List (List It)} {B I : Int}
theorem qu_shut2 {U1 U2 : Asrt} {M : List Ln} {g cap m : Nat} {cur : Array Value} {v : Value} {F : List Qe} {L' : List It} {t N : Nat} (S : Sat G w (U1 :: U2 :: blk g cur 125 :: blk q #[.slice (some ⟨g, 0, none⟩) m cap, .int .i64 B, .int .i64 I] 111 :: ownS 41 3 v N (encs Qe.enc F) :: ((M.take t).map lnA ++ ((M.drop (t + 1)).map lnA ++ l))))
    (hm : m = M.length) (hN : N = F.length) (hM : M.map Ln.L = Q) (ht : t < M.length) (hL : Lay lenc 2 cap cur (M.set t ⟨v, L'⟩)) (hc : cap ≤ maxLen) (hF : F.map Qe.abs = L') (hFo : ∀ e ∈ F, e.ok G.ro) : Sat G w (quA q (Q.set t L') B I :: U1 :: U2 :: l) := by
  have S2 : Sat G w (U1 :: (([U2, blk g cur 125, blk q #[.slice (some ⟨g, 0, none⟩) m cap, .int .i64 B, .int .i64 I] 111, ownS 41 3 v N (encs Qe.enc F)] ++ ((M.take t).map lnA ++ (M.drop (t + 1)).map lnA)) ++ l)) := by simpa using S
  have S3 := S2.dim
  have S4 : Sat G w (U2 :: (([blk g cur 125, blk q #[.slice (some ⟨g, 0, none⟩) m cap, .int .i64 B, .int .i64 I] 111, ownS 41 3 v N (encs Qe.enc F)] ++ ((M.take t).map lnA ++ (M.drop (t + 1)).map lnA)) ++ U1 :: l)) := by simpa using S3
  have S5 := S4.dim
  exact Sat.re (qu_shut (l := U2 :: U1 :: l) (by simpa using S5) hm hN hM ht hL hc hF hFo) [0, 2, 1]
theorem it_bytes {x : It} {Q : List (List It)} {B I : Int} (hw : QWf Q B I) {t : Nat} (hx : x ∈ Q.getD t []) : isz x ≤ qsz (Q.getD t []) := by
  have key : ∀ L : List It, x ∈ L → isz x ≤ qsz L := by
    intro L
    induction L with
    | nil => intro h; cases h
    | cons y L ih =>
      intro h
      rw [qsz_cons]
      cases h with
      | head => omega
      | tail _ h => have := ih h; omega
  exact key _ hx
theorem qu_pop_not (H : Sat G w (quA q Q B I :: l)) (hw : QWf Q B I) (t : Int) (h : qAt Q t = []) : Calls Tryz.prog 34 #[.pointer (some ⟨q, 0, none⟩), .int .i64 t] w fun e w' => e = .returned (.tuple #[.agg #[.int .i64 0, .slice none 0 0, .slice none 0 0], .int .i64 14]) ∧ Sat G w' (quA q Q B I :: l) := by
  refine calls_any fun K hK => ?_
  have S1 := H.newBlk #[.int .i64 0, .slice none 0 0, .slice none 0 0] 41
  have hl := qu_len S1.swap hw t
  rw [h] at hl
  have HS := Lib.hid S1
  clear H S1
  go_enter Tryz.func34, Tryz.ntmps34
  go_wp2_with fail
  (with_reducible refine hl.mono ?_)
  rintro e w1 ⟨rfl, rfl⟩
  go_wp2_with fail
  refine bodyPost_ret (results_cell_t rfl _ _ _ _ _ _ rfl (HS.out).blk_at Tryz.underlying41 rfl (by kernel_rfl)) rfl ?_
  exact hK.out _ _ ⟨rfl, HS.out.drop⟩
set_option maxHeartbeats 4000000 in
set_option maxRecDepth 100000 in
theorem qu_pop (H : Sat G w (quA q Q B I :: l)) (hw : QWf Q B I) (t : Nat) (x : It) (L : List It) (h : Q.getD t [] = x :: L) : Calls Tryz.prog 34 #[.pointer (some ⟨q, 0, none⟩), .int .i64 t] w fun e w' => ∃ u1 u2, e = .returned (.tuple #[.agg #[.int .i64 x.1, u1, u2], .int .i64 0]) ∧ Sat G w' (ownS 5 1 u1 x.2.1.length (x.2.1.map byteV) :: ownS 5 1 u2 x.2.2.length (x.2.2.map byteV) :: quA q (Q.set t L) B I :: l) := by
  refine calls_any fun K hK => ?_
  have ht : t < Q.length := by
    rcases Nat.lt_or_ge t Q.length with h' | h'
    · exact h'
    · rw [List.getD_eq_getElem?_getD, List.getElem?_eq_none h'] at h; cases h
  have hsb := it_bytes hw (t := t) (x := x) (by rw [h]; exact .head _)
  have hat := hw.at_ t
  have hb1 := hw.b1
  have hm64 := hw.m1
  unfold isz at hsb
  have S1 := H.newBlk #[.int .i64 0, .slice none 0 0, .slice none 0 0] 41
  have hl := qu_len S1.swap hw t
  rw [qAt_nat, h] at hl
  obtain ⟨M, g, cap, cur, ⟨xv, xL⟩, hM, hml, hL, hcap, hx, hxL, S⟩ := qu_open S1.swap t ht
  simp only at hxL
  obtain ⟨F, hF, hFo, S2⟩ := ln_iff.1 S
  simp only at hF S2
  subst hxL
  cases F with
  | nil => rw [h] at hF; cases hF
  | cons y F =>
    have hy : y.abs = x := by rw [h] at hF; simp at hF; exact hF.1
    obtain ⟨A, a, D, d, e1, e2⟩ := qe_slices (hFo y (.head _))
    have hyo := hFo y (.head _)
    obtain ⟨xn, hv, bv, hd, b⟩ := y
    simp only at e1 e2 hyo
    subst e1
    subst e2
    obtain ⟨gi, cpi, ci, rfl, hcpi, Li, S0⟩ := S2.layOpen qe_len (by simp)
    have hcp3 : cpi ≤ 9223372036854775807 := hcpi
    have hcp0 := Li.len
    subst hy
    simp only [Qe.abs] at hK hsb
    have q0 : (w.alloc (.cells #[.int .i64 0, .slice none 0 0, .slice none 0 0] 41)).cell? ⟨q, 0, none⟩ = some (.slice (some ⟨g, 0, none⟩) M.length cap) := S.pull2.cell 0
    obtain ⟨k0', -, -⟩ := lay_two hL hx
    simp only at k0'
    have k0 : (w.alloc (.cells #[.int .i64 0, .slice none 0 0, .slice none 0 0] 41)).cell? ⟨g, t * 2, none⟩ = some (.slice (some ⟨gi, 0, none⟩) (F.length + 1) cpi) := (S.swap.cell (t * 2)).trans k0'
    have d0 := (S0.cell _).trans (Li.get (i := 0) rfl (j := 0) (by decide))
    have d1 := (S0.cell _).trans (Li.get (i := 0) rfl (j := 1) (by decide))
    have d2 := (S0.cell _).trans (Li.get (i := 0) rfl (j := 2) (by decide))
    simp only [Qe.enc, List.getElem?_cons_zero, List.getElem?_cons_succ, Nat.zero_mul, Nat.zero_add] at d0 d1 d2
    have hso : isz (xn, hd, b) = hd.length + b.length := rfl
    have hof := qu_of q0 t (by omega) (by omega)
    have hlt : t < M.length := by omega
    have hgn := ln_gone (i := 0) (z := qsz (Q.getD t [])) S2 k0' (lay_two hL hx).2.1 hFo (by have := hF; rw [h] at this; have h2 := congrArg List.length this; simp at h2; have h3 := hat.2; have h4 := hw.i1; rw [h] at h3; simp at h3 ⊢; omega) rfl (by show hd.length + b.length ≤ _; omega) (by omega)
    rw [show ((0 : Nat) : Int) = 0 from rfl, show isz (Qe.abs ⟨xn, .slice A hd.length a, .slice D b.length d, hd, b⟩) = hd.length + b.length from rfl] at hgn
    have hown := fun {W : World} {l' : List Asrt} (S : Sat G W l') => it_own S xn (.slice A hd.length a) (.slice D b.length d) hd b (fun W SW => hyo.1.sat SW) (fun W SW => hyo.2.sat SW) (by omega) (by omega)
    have hLF : F.map Qe.abs = L := by rw [h] at hF; simp at hF; exact hF
    have HLF := Lib.hid hLF
    have HLP := Lib.hid fun (v : Value) (z : Int) (hz : z = (qsz L : Nat)) => lay_put hL hlt ⟨v, L⟩ z hz
    have HQZ : Hid (qsz (Q.getD t []) = hd.length + b.length + qsz L) := Lib.hid (by rw [h, qsz_cons]; rfl)
    have HFO2 : Hid (∀ e ∈ F, e.ok G.ro) := Lib.hid fun e he => hFo e (.tail _ he)
    have hml2 : t < M.length := by omega
    clear S S0 S1 S2 H Li hL hF hFo hx k0' hyo hsb hat h hLF
    go_enter Tryz.func34, Tryz.ntmps34
    go_wp2_with fail
    (with_reducible refine hl.mono ?_)
    clear hl
    rintro e w1 ⟨rfl, rfl⟩
    go_wp2_with fail
    (with_reducible refine hof.mono ?_)
    clear hof
    rintro e w1 ⟨rfl, rfl⟩
    go_wp2_with fail
    (with_reducible refine hgn.mono ?_)
    clear hgn q0 k0 d0 d1 d2
    rintro e w2 ⟨v', rfl, S4⟩
    simp only [Qe.enc]
    have how := hown S4
    clear S4 hown
    go_wp2_with fail
    (with_reducible refine how.mono ?_)
    clear how
    rintro e w3 ⟨u1, u2, rfl, S5⟩
    generalize w.heap.size = r at *
    obtain ⟨A1, c1, rfl, -, -, -⟩ := S5.ownForm
    obtain ⟨A2, c2, rfl, -, -, -⟩ := S5.swap.ownForm
    have T := qu_shut2 (F := F) (S5.re [0, 1, 3, 4, 2]) rfl (by simp) hM hml2 (HLP.out _ _ (by have := HQZ.out; omega)) hcap HLF.out HFO2.out
    have T1 := T.pull3
    have r0 := T1.cell 0
    have r1 := T1.cell 1
    have r2 := T1.cell 2
    have f0 := T1.frozen 0
    have f1 := T1.frozen 1
    have f2 := T1.frozen 2
    have T2 := ((T1.setCell 0 (.int .i64 xn)).setCell 1 (.slice A1 hd.length c1)).setCell 2 (.slice A2 b.length c2)
    change Sat _ _ (blk r #[.int .i64 xn, .slice A1 hd.length c1, .slice A2 b.length c2] _ :: _) at T2
    have HT2 := Lib.hid T2
    clear S5 T T1 T2
    go_wp2_with fail
    refine bodyPost_ret (results_cell_t rfl _ _ _ _ _ _ rfl (HT2.out).blk_at Tryz.underlying41 rfl (by kernel_rfl)) rfl ?_
    exact hK.out _ _ ⟨_, _, rfl, HT2.out.drop.push2⟩
end
end Go.Proofs.YtcecfhfbcdbofaaGreatDoor
