/- The walks over gone, First, Pop. -/
import Derived.Test.YtidaafpfkbfiaaaGone
set_option linter.unusedSimpArgs false
set_option linter.unusedVariables false
namespace Go.Proofs.Ytidaafpfkbfiaaa
open Go.RowKit

theorem qe_slices {R : Hp} {x : Qe} (h : x.ok R) : ∃ A a B b, x.hv = .slice A x.h.length a ∧ x.bv = .slice B x.b.length b := by
  obtain ⟨A, a, e1, -, -, -⟩ := h.1.form
  obtain ⟨B, b, e2, -, -, -⟩ := h.2.form
  exact ⟨A, a, B, b, e1, e2⟩
theorem qe_one {R : Hp} {F : List Qe} (h : ∀ e ∈ F, e.ok R) : ∀ x ∈ F, x.hv.oneCell' = true ∧ x.bv.oneCell' = true := fun x hx => by
  obtain ⟨A, a, B, b, e1, e2⟩ := qe_slices (h x hx)
  rw [e1, e2]; exact ⟨rfl, rfl⟩
def HG9 (f : Nat → Bool) : Prop := f 9 = true → f 3 = true
section
variable {G : Gnd} {w w' : World} {l : List Asrt} {q : Nat} {Q : List (List It)} {B I : Int}
set_option maxHeartbeats 4000000 in
set_option maxRecDepth 100000 in
theorem ln_gone {v : Value} {F : List Qe} {g t i z : Nat} {cur : Array Value} (H : Sat G w (ownS 24 3 v F.length (encs Qe.enc F) :: blk g cur 62 :: l)) (hc0 : cur[t * 2]? = some v) (hc1 : cur[t * 2 + 1]? = some (.int .i64 z)) (hok : ∀ e ∈ F, e.ok G.ro) (hl : F.length ≤ 4096) {x : Qe} (hx : F[i]? = some x) (hz : isz x.abs ≤ z) (hz2 : z ≤ 1048576) :
    Calls Try.prog 24 #[.pointer (some ⟨g, t * 2, none⟩), .int .i64 i] w fun e w' => ∃ v', e = .returned (.agg x.enc.toArray) ∧ Sat G w' (ownS 24 3 v' (F.take i ++ F.drop (i + 1)).length (encs Qe.enc (F.take i ++ F.drop (i + 1))) :: blk g ((cur.setIfInBounds (t * 2) v').setIfInBounds (t * 2 + 1) (.int .i64 ((z - isz x.abs : Nat) : Int))) 62 :: l) := by
  refine calls_any fun K hK => ?_
  have hi := (List.getElem?_eq_some_iff.1 hx).1
  obtain ⟨A, a, D, d, e1, e2⟩ := qe_slices (hok x (List.mem_of_getElem? hx))
  obtain ⟨xn, hv, bv, h, b⟩ := x
  simp only at e1 e2
  subst e1
  subst e2
  have hsz : isz (Qe.abs ⟨xn, .slice A h.length a, .slice D b.length d, h, b⟩) = h.length + b.length := rfl
  rw [hsz] at hz hK
  obtain ⟨gi, cap, ci, rfl, hcap, L, S0⟩ := H.layOpen qe_len (by omega)
  have hcap3 : cap ≤ 9223372036854775807 := hcap
  have hlc := L.len
  have d0 := (S0.cell _).trans (L.get hx (j := 0) (by decide))
  have d1 := (S0.cell _).trans (L.get hx (j := 1) (by decide))
  have d2 := (S0.cell _).trans (L.get hx (j := 2) (by decide))
  simp only [Qe.enc, List.getElem?_cons_zero, List.getElem?_cons_succ, Nat.add_zero] at d0 d1 d2
  have k0 : w.cell? ⟨g, t * 2, none⟩ = some (.slice (some ⟨gi, 0, none⟩) F.length cap) := (S0.swap.cell (t * 2)).trans hc0
  have hdel := fun {W : World} {l' : List Asrt} (S : Sat G W (ownS 24 3 (.slice (some ⟨gi, 0, none⟩) F.length cap) F.length (encs Qe.enc F) :: l')) => del_one S hi (qe_one hok) (by omega)
  have S1 := (H.newBlk #[.int .i64 0, .slice none 0 0, .slice none 0 0] 24).newBlk #[.int .i64 xn, .slice A h.length a, .slice D b.length d] 24
  simp only [World.size_alloc] at S1
  have hcs0 : t * 2 < cur.size := (Array.getElem?_eq_some_iff.1 hc0).1
  have hcs1 : t * 2 + 1 < cur.size := (Array.getElem?_eq_some_iff.1 hc1).1
  have dd0 : (w.alloc (.cells #[.int .i64 0, .slice none 0 0, .slice none 0 0] 24)).cell? ⟨g, t * 2, none⟩ = some (.slice (some ⟨gi, 0, none⟩) F.length cap) := by rw [World.cell?_alloc_some _ _ _ (by rw [k0]; rfl)]; exact k0
  have dd1 : (w.alloc (.cells #[.int .i64 0, .slice none 0 0, .slice none 0 0] 24)).cell? ⟨gi, i * 3, none⟩ = some (.int .i64 xn) := by rw [World.cell?_alloc_some _ _ _ (by rw [d0]; rfl)]; exact d0
  have dd2 : (w.alloc (.cells #[.int .i64 0, .slice none 0 0, .slice none 0 0] 24)).cell? ⟨gi, i * 3 + 1, none⟩ = some (.slice A h.length a) := by rw [World.cell?_alloc_some _ _ _ (by rw [d1]; rfl)]; exact d1
  have dd3 : (w.alloc (.cells #[.int .i64 0, .slice none 0 0, .slice none 0 0] 24)).cell? ⟨gi, i * 3 + 2, none⟩ = some (.slice D b.length d) := by rw [World.cell?_alloc_some _ _ _ (by rw [d2]; rfl)]; exact d2
  generalize hF2 : F.take i ++ F.drop (i + 1) = F2 at *
  clear L S0 H d0 d1 d2 k0 hF2 hx hok hsz
  obtain ⟨N, hN⟩ : ∃ N, N = F.length := ⟨_, rfl⟩
  rw [← hN] at dd0 hdel S1 hi hlc hl hc0
  have HN := Lib.hid hN
  clear hN
  go_enter Try.func24, Try.ntmps24
  go_upto_region 2 with fail
  generalize w.heap.size + 1 = y at *
  generalize w.heap.size = r at *
  refine wp_world S1 fun w1 S2 => ?_
  clear S1 dd0 dd1 dd2 dd3
  have k0 : w1.cell? ⟨g, t * 2, none⟩ = some (.slice (some ⟨gi, 0, none⟩) N cap) := (S2.pull3.cell (t * 2)).trans hc0
  have hd2 := hdel S2.pull2
  rw [show ((i + 1 : Nat) : Int) = (i : Int) + 1 from rfl] at hd2
  have hwr : IntKind.i64.wrap ((i : Int) + 1) = (i : Int) + 1 := IntWalk.i64_in _ (by omega)
  clear hdel S2
  go_wp2_with fail
  (with_reducible refine hd2.mono ?_)
  clear hd2 k0
  rintro e w2 ⟨v', rfl, S3⟩
  have S4 := S3.pull3
  obtain ⟨A', c', rfl, -, -, -⟩ := S3.ownSlice
  have k0 := (S4.cell (t * 2)).trans hc0
  have f0 := S4.frozen (t * 2)
  have S5 := S4.setCell (t * 2) (.slice A' F2.length c')
  clear S3 S4
  go_upto_region 3 with fail
  refine wp_world S5 fun w3 S6 => ?_
  clear S5 k0 f0
  obtain ⟨cur2, hcur2⟩ : ∃ cur2, cur2 = cur.setIfInBounds (t * 2) (.slice A' F2.length c') := ⟨_, rfl⟩
  rw [← hcur2] at S6 
  have HC2 : Hid (cur2[t * 2 + 1]? = some (.int .i64 z)) := Lib.hid (by rw [hcur2, Array.getElem?_setIfInBounds_ne (by omega)]; exact hc1)
  have hsz2 : t * 2 + 1 < cur2.size := by rw [hcur2]; simpa using hcs1
  have HCU := Lib.hid hcur2
  clear hcur2
  obtain ⟨sx, hsx⟩ : ∃ sx, sx = h.length + b.length := ⟨_, rfl⟩
  rw [← hsx] at hz hK
  have HSX := Lib.hid hsx.symm
  have hsb : h.length + b.length ≤ 9223372036854775807 := by omega
  clear hsx
  have hwz : IntKind.i64.wrap ((z : Int) - sx) = ((z - sx : Nat) : Int) := by rw [IntWalk.i64_in _ (by omega)]; omega
  obtain ⟨zz, hzz⟩ : ∃ zz, zz = z - sx := ⟨_, rfl⟩
  rw [← hzz] at hwz hK
  clear hzz
  have S7 := S6.push3
  have S8 := S7.re [3, 1, 0, 2]
  clear S6 S7
  refine wp_act fun a0 ha0 => ?_
  have HSZ : a0.tmps.size = 34 := by rw [ha0]; rfl
  have E0 : a0.eval (.tmp 0) = .pointer (some ⟨g, t * 2, none⟩) := by rw [ha0]; rfl
  have E5 : a0.eval (.tmp 5) = .pointer (some ⟨y, 0, none⟩) := by rw [ha0]; rfl
  refine wp_region_J (by kernel_rfl) 10 (by kernel_rfl) [[], [0], [1], [2], [], [4], [3, 5], [0, 0, 1, 2, 3, 4, 5, 6], [7, 0, 1, 2, 3, 4, 5, 6], [8, 6, 5, 0, 1, 2, 3, 4, 5, 6]] (by kernel_rfl) (by kernel_rfl) (fun f a' W => HG9 f ∧ a' = acts [(0, 24, .pointer (some ⟨g, t * 2, none⟩)), (1, 25, .pointer (some ⟨g, t * 2, none⟩)), (2, 26, .pointer (some ⟨g, t * 2 + 1, none⟩)), (3, 27, .int .i64 z), (4, 28, .agg #[.int .i64 xn, .slice A h.length a, .slice D b.length d]), (5, 29, .int .i64 sx), (6, 30, .int .i64 zz), (7, 31, .pointer (some ⟨g, t * 2, none⟩)), (8, 32, .pointer (some ⟨g, t * 2 + 1, none⟩))] f a0 ∧ Sat G W (blk g (cond (f 9) (cur2.setIfInBounds (t * 2 + 1) (.int .i64 zz)) cur2) 62 :: blk y #[.int .i64 xn, .slice A h.length a, .slice D b.length d] 24 :: ownS 24 3 (.slice A' F2.length c') F2.length (encs Qe.enc F2) :: blk r #[.int .i64 0, .slice none 0 0, .slice none 0 0] 24 :: l)) ?_ ?_ ?_
  · exact ⟨by unfold HG9; decide, rfl, S8.drew⟩
  · refine ⟨?_, ?_, ?_, ?_, ?_, ?_, ?_, ?_, ?_, ?_, trivial⟩
    · rintro f a' W h0 hd ⟨hh, rfl, S⟩
      refine wpOp_run (v := .pointer (some ⟨g, t * 2, none⟩)) rfl rfl (fun ρ hρ => ?_) ⟨hh, (acts_some 0 rfl (by kernel_rfl) (by kernel_rfl)).symm, S⟩
      have e0 : ρ (.tmp 0) = .pointer (some ⟨g, t * 2, none⟩) := by rw [hρ]; exact (acts_eval_tmp 0 (by kernel_rfl)).trans E0
      clear hρ
      go_simp
    · rintro f a' W h1 hd ⟨hh, rfl, S⟩
      refine wpOp_run (v := .pointer (some ⟨g, t * 2, none⟩)) rfl rfl (fun ρ hρ => ?_) ⟨hh, (acts_some 1 rfl (by kernel_rfl) (by kernel_rfl)).symm, S⟩
      have e0 : ρ (.tmp 24) = .pointer (some ⟨g, t * 2, none⟩) := by rw [hρ]; exact acts_eval_hit 0 rfl hd.1 (by rw [HSZ]; rfl) (by kernel_rfl)
      clear hρ
      go_simp
    · rintro f a' W h2 hd ⟨hh, rfl, S⟩
      refine wpOp_run (v := .pointer (some ⟨g, t * 2 + 1, none⟩)) rfl rfl (fun ρ hρ => ?_) ⟨hh, (acts_some 2 rfl (by kernel_rfl) (by kernel_rfl)).symm, S⟩
      have e0 : ρ (.tmp 25) = .pointer (some ⟨g, t * 2, none⟩) := by rw [hρ]; exact acts_eval_hit 1 rfl hd.1 (by rw [HSZ]; rfl) (by kernel_rfl)
      clear hρ
      go_simp
    · rintro f a' W h3 hd ⟨hh, rfl, S⟩
      (have z9 := no_of hh h3)
      refine wpOp_run (v := .int .i64 z) rfl rfl (fun ρ hρ => ?_) ⟨fun _ => rfl, (acts_some 3 rfl (by kernel_rfl) (by kernel_rfl)).symm, S⟩
      have e0 : ρ (.tmp 26) = .pointer (some ⟨g, t * 2 + 1, none⟩) := by rw [hρ]; exact acts_eval_hit 2 rfl hd.1 (by rw [HSZ]; rfl) (by kernel_rfl)
      clear hρ
      (have hcl : W.cell? ⟨g, t * 2 + 1, none⟩ = some (.int .i64 z) := (by have := S.cell (t * 2 + 1); rw [z9] at this; exact this.trans HC2.out))
      go_simp
    · rintro f a' W h4 hd ⟨hh, rfl, S⟩
      refine wpOp_run (v := .agg #[.int .i64 xn, .slice A h.length a, .slice D b.length d]) rfl rfl (fun ρ hρ => ?_) ⟨hh, (acts_some 4 rfl (by kernel_rfl) (by kernel_rfl)).symm, S⟩
      have e0 : ρ (.tmp 5) = .pointer (some ⟨y, 0, none⟩) := by rw [hρ]; exact (acts_eval_tmp 5 (by kernel_rfl)).trans E5
      clear hρ
      (have hz0 : W.cell? ⟨y, 0, none⟩ = some (.int .i64 xn) := S.swap.cell 0; have hz1 : W.cell? ⟨y, 1, none⟩ = some (.slice A h.length a) := S.swap.cell 1; have hz2 : W.cell? ⟨y, 2, none⟩ = some (.slice D b.length d) := S.swap.cell 2)
      go_simp
    · rintro f a' W h5 hd ⟨hh, rfl, S⟩
      refine wpOp_call rfl rfl (fun ρ hρ => ?_) (it_size S xn A D h.length a b.length d hsb) ?_
      · skip
        have e0 : ρ (.tmp 28) = .agg #[.int .i64 xn, .slice A h.length a, .slice D b.length d] := by rw [hρ]; exact acts_eval_hit 4 rfl hd.1 (by rw [HSZ]; rfl) (by kernel_rfl)
        have ef : ρ (.func 12) = .func (.func 12) #[] #[] := by rw [hρ]; rfl
        clear hρ
        go_simp
      · (rintro x W' ⟨rfl, S'⟩; rw [HSX.out]; exact ⟨_, rfl, hh, (acts_some 5 rfl (by kernel_rfl) (by kernel_rfl)).symm, S'⟩)
    · rintro f a' W h6 hd ⟨hh, rfl, S⟩
      refine wpOp_run (v := .int .i64 zz) rfl rfl (fun ρ hρ => ?_) ⟨hh, (acts_some 6 rfl (by kernel_rfl) (by kernel_rfl)).symm, S⟩
      have e0 : ρ (.tmp 27) = .int .i64 z := by rw [hρ]; exact acts_eval_hit 3 rfl hd.1 (by rw [HSZ]; rfl) (by kernel_rfl)
      have e1 : ρ (.tmp 29) = .int .i64 sx := by rw [hρ]; exact acts_eval_hit 5 rfl hd.2.1 (by rw [HSZ]; rfl) (by kernel_rfl)
      clear hρ
      go_simp
    · rintro f a' W h7 hd ⟨hh, rfl, S⟩
      refine wpOp_run (v := .pointer (some ⟨g, t * 2, none⟩)) rfl rfl (fun ρ hρ => ?_) ⟨hh, (acts_some 7 rfl (by kernel_rfl) (by kernel_rfl)).symm, S⟩
      have e0 : ρ (.tmp 24) = .pointer (some ⟨g, t * 2, none⟩) := by rw [hρ]; exact acts_eval_hit 0 rfl hd.1 (by rw [HSZ]; rfl) (by kernel_rfl)
      clear hρ
      go_simp
    · rintro f a' W h8 hd ⟨hh, rfl, S⟩
      refine wpOp_run (v := .pointer (some ⟨g, t * 2 + 1, none⟩)) rfl rfl (fun ρ hρ => ?_) ⟨hh, (acts_some 8 rfl (by kernel_rfl) (by kernel_rfl)).symm, S⟩
      have e0 : ρ (.tmp 31) = .pointer (some ⟨g, t * 2, none⟩) := by rw [hρ]; exact acts_eval_hit 7 rfl hd.1 (by rw [HSZ]; rfl) (by kernel_rfl)
      clear hρ
      go_simp
    · rintro f a' W h9 hd ⟨hh, rfl, S⟩
      have q32 : (acts [(0, 24, .pointer (some ⟨g, t * 2, none⟩)), (1, 25, .pointer (some ⟨g, t * 2, none⟩)), (2, 26, .pointer (some ⟨g, t * 2 + 1, none⟩)), (3, 27, .int .i64 z), (4, 28, .agg #[.int .i64 xn, .slice A h.length a, .slice D b.length d]), (5, 29, .int .i64 sx), (6, 30, .int .i64 zz), (7, 31, .pointer (some ⟨g, t * 2, none⟩)), (8, 32, .pointer (some ⟨g, t * 2 + 1, none⟩))] f a0).eval (.tmp 32) = .pointer (some ⟨g, t * 2 + 1, none⟩) := acts_eval_hit 8 rfl hd.1 (by rw [HSZ]; rfl) (by kernel_rfl)
      have q30 : (acts [(0, 24, .pointer (some ⟨g, t * 2, none⟩)), (1, 25, .pointer (some ⟨g, t * 2, none⟩)), (2, 26, .pointer (some ⟨g, t * 2 + 1, none⟩)), (3, 27, .int .i64 z), (4, 28, .agg #[.int .i64 xn, .slice A h.length a, .slice D b.length d]), (5, 29, .int .i64 sx), (6, 30, .int .i64 zz), (7, 31, .pointer (some ⟨g, t * 2, none⟩)), (8, 32, .pointer (some ⟨g, t * 2 + 1, none⟩))] f a0).eval (.tmp 30) = .int .i64 zz := acts_eval_hit 6 rfl hd.2.1 (by rw [HSZ]; rfl) (by kernel_rfl)
      (rw [h9] at S; refine wpOp_list rfl ?_; refine st_set rfl _ _ _ rfl _ _ _ q32 q30 rfl _ _ S (by kernel_rfl) hsz2 fun W' S' => ?_; exact ⟨fun _ => hd.2.2.2.2.2.2.1, (acts_none 9 (by kernel_rfl)).symm, S'⟩)
  rintro a' W2 ⟨-, rfl, S11⟩
  subst ha0
  simp only [acts, if_true, Act.put, List.setIfInBounds_toArray, List.set_cons_succ, List.set_cons_zero]
  change Sat _ _ (blk g (cur2.setIfInBounds (t * 2 + 1) (.int .i64 zz)) _ :: _) at S11
  have T := S11.pull3
  have d0 := T.pull2.cell 0
  have d1 := T.pull2.cell 1
  have d2 := T.pull2.cell 2
  have r0 := T.cell 0
  have r1 := T.cell 1
  have r2 := T.cell 2
  have f0 := T.frozen 0
  have f1 := T.frozen 1
  have f2 := T.frozen 2
  have T2 := ((T.setCell 0 (.int .i64 xn)).setCell 1 (.slice A h.length a)).setCell 2 (.slice D b.length d)
  change Sat _ _ (blk r #[.int .i64 xn, .slice A h.length a, .slice D b.length d] _ :: _) at T2
  have HT2 := Lib.hid T2
  clear S11 S8 T T2 HSZ E0 E5
  go_wp2_with fail
  refine ret_cell HT2.out 4 24 rfl _ rfl Try.underlying24 rfl (by kernel_rfl) rfl ?_
  have T3 := HT2.out.drop.pull2.pull2.drop
  rw [HCU.out] at T3
  exact hK.out _ _ ⟨_, rfl, T3⟩
end
end Go.Proofs.Ytidaafpfkbfiaaa
