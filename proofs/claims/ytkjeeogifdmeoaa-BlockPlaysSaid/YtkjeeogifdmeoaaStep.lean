/- The walk over step. -/
import Derived.Test.YtkjeeogifdmeoaaAlone
import Derived.Test.YtkjeeogifdmeoaaRefO
set_option linter.unusedSimpArgs false
set_option linter.unusedVariables false
namespace Go.Proofs.Ytkjeeogifdmeoaa
open Go.RowKit

theorem on_cases (lim : Int) (b : BSt) (x : ItD) (t : List UInt8) : ((asOn lim b x t).bad = true ∧ (asOn lim b x t).ok = false) ∨ ((asOn lim b x t).bad = false ∧ (asOn lim b x t).ok = true) ∨ ((asOn lim b x t).bad = false ∧ (asOn lim b x t).ok = false) := by
  cases h : (asOn lim b x t).bad with
  | true => exact .inl ⟨rfl, (on_bad lim b x t h).2⟩
  | false =>
    cases h2 : (asOn lim b x t).ok with
    | true => exact .inr (.inl ⟨rfl, rfl⟩)
    | false => exact .inr (.inr ⟨rfl, rfl⟩)
theorem on_lim (lim : Int) (b : BSt) (x : ItD) (t : List UInt8) (h0 : 0 ≤ lim) (h : (b.t.length : Int) ≤ lim) : ((asOn lim b x t).st.t.length : Int) ≤ lim := by
  unfold asOn
  repeat' split
  all_goals first | exact h | (simp [idle]; omega) | skip
  all_goals simp only [List.length_append]; omega
theorem on_st (lim : Int) (b : BSt) (x : ItD) (t : List UInt8) (hi : b.w = !(b.s == 0)) (hx : 1 ≤ x.s) : (asOn lim b x t).st.w = !((asOn lim b x t).st.s == 0) := by
  unfold asOn
  cases hm : mayB b x.k x.s with
  | false => simpa using hi
  | true =>
    simp only [if_true]
    by_cases hk : x.k = 1 ∨ x.k = 9
    · rw [if_pos hk]
      split
      · simpa using hi
      · split
        · simp [idle]
        · have hs : (nextB b x).s ≠ 0 := by
            unfold nextB
            split
            · simp only; omega
            · rename_i h1
              have h9 : x.k = 9 := by omega
              unfold mayB at hm
              rw [h9] at hm
              rw [hi] at hm
              cases hb : (b.s == 0) with
              | true => rw [hb] at hm; simp at hm
              | false => simpa using hb
          simp [hs]
    · rw [if_neg hk]
      simpa using hi
theorem law_numberB (b : Bool) (w : World) : Calls Try.prog 20 #[.bool b] w fun e w' => e = .returned (.int .i64 (num b)) ∧ Below w.heap.size w w' :=
  (law_number b w).mono (by rintro e w' ⟨rfl, rfl⟩; exact ⟨rfl, Below.refl _ _⟩)
theorem law_wrong_no {G : Gnd} {w : World} {l : List Asrt} (H : Sat G w l) : Calls Try.prog 14 #[.agg #[.int .i64 0, .bool false]] w fun e w' => e = .returned (.bool false) ∧ Sat G w' l :=
  (law_wrong 0 false w).mono (by rintro e w' ⟨rfl, hb⟩; exact ⟨rfl, H.below hb⟩)
theorem fault_ok_yes {G : Gnd} {w : World} {l : List Asrt} (H : Sat G w l) : Calls Try.prog 15 #[.agg #[.int .i64 0, .bool false]] w fun e w' => e = .returned (.bool true) ∧ Sat G w' l :=
  (fault_ok 0 false w).mono (by rintro e w' ⟨rfl, hb⟩; exact ⟨rfl, H.below hb⟩)
def HS2 (f : Nat → Bool) : Prop := (f 22 = true → f 20 = true) ∧ (f 23 = true → f 21 = true)
section
variable {G : Gnd} {w : World} {l : List Asrt} {p : Nat} {lim : Int} {b : BSt}
set_option maxHeartbeats 8000000 in
set_option maxRecDepth 100000 in
theorem law_step (H : Sat G w (asA p lim b :: l)) (x : ItD) (t : List UInt8) (hx : x.ok) (ht : SlB (cellR G.ro) x.v t) (hl : b.t.length + t.length ≤ 1000000000) (hi : b.w = !(b.s == 0)) (hl0 : 0 ≤ lim) (hbl : (b.t.length : Int) ≤ lim) :
    Calls Try.prog 10 #[.pointer (some ⟨p, 0, none⟩), stA b, .int .i64 lim, .agg x.cells] w fun e w' => ∃ G', G.le G' ∧ e = .returned (.tuple #[stA (asOn lim b x t).st, .bool true]) ∧ Sat G' w' (asA p lim (asOn lim b x t).st :: l) := by
  refine calls_any fun K hK => ?_
  obtain ⟨⟨V, n, cv, hv⟩, B, m, d, hq⟩ := id hx
  obtain ⟨V', cv', hv', -, -, -⟩ := ht.form
  rw [hv] at hv'
  cases hv'
  have hcs : x.cells = #[.int .i64 x.k, .int .i64 x.s, .slice V t.length cv, .bool x.e, .bool x.l, .bool x.a, .int .i64 x.n1, .int .i64 x.n2, .int .i64 x.n3, .int .i64 x.n4, .int .i64 x.n5, .int .i64 x.n6, .bool x.b1, .bool x.b2, .slice B m d] := by unfold ItD.cells; rw [hv, hq]
  have S1 := ((H.newBlk #[.int .i64 b.s, .string (bstr b.t), .int .i64 (num b.e)] 30).newBlk #[.int .i64 x.k, .int .i64 x.s, .slice V t.length cv, .bool x.e, .bool x.l, .bool x.a, .int .i64 x.n1, .int .i64 x.n2, .int .i64 x.n3, .int .i64 x.n4, .int .i64 x.n5, .int .i64 x.n6, .bool x.b1, .bool x.b2, .slice B m d] 34).newBlk #[.int .i64 0, .string (ByteArray.mk #[]), .int .i64 0] 30
  simp only [World.size_alloc] at S1
  have hon := as_on (S1.re [3, 0, 1, 2]) x t hx ht hl
  have hlim := on_lim lim b x t hl0 hbl
  have hca := on_cases lim b x t
  have hrf := fun (G : Gnd) (w : World) (l : List Asrt) (S : Sat G w l) => ref_on S b lim x t hi hl
  generalize asOn lim b x t = r at *
  have HLIM := Lib.hid hlim
  have HCA := Lib.hid hca
  obtain ⟨rs, ro, rb, rd⟩ := r
  simp only [stA] at hon hlim hca hrf hK
  have HRF := Lib.hid hrf
  have ht2 := ht
  rw [hv] at ht2
  have HT := Lib.hid ht2
  rw [hcs] at hon ⊢
  clear H hi hl hlim hca hrf ht ht2 hcs hv hq hl0 hbl hx
  unfold stA
  go_enter Try.func10, Try.ntmps10
  have y0 := (S1.re [1, 0]).cell 0
  have y1 := (S1.re [1, 0]).cell 1
  have y2 := (S1.re [1, 0]).cell 2
  have y3 := (S1.re [1, 0]).cell 3
  have y4 := (S1.re [1, 0]).cell 4
  have y5 := (S1.re [1, 0]).cell 5
  have y6 := (S1.re [1, 0]).cell 6
  have y7 := (S1.re [1, 0]).cell 7
  have y8 := (S1.re [1, 0]).cell 8
  have y9 := (S1.re [1, 0]).cell 9
  have y10 := (S1.re [1, 0]).cell 10
  have y11 := (S1.re [1, 0]).cell 11
  have y12 := (S1.re [1, 0]).cell 12
  have y13 := (S1.re [1, 0]).cell 13
  have y14 := (S1.re [1, 0]).cell 14
  clear S1
  go_wp2_with fail
  (with_reducible refine hon.mono ?_)
  clear hon
  clear y0 y1 y2 y3 y4 y5 y6 y7 y8 y9 y10 y11 y12 y13 y14
  rintro e w1 ⟨G1, u, hG1, rfl, hu, S2⟩
  obtain ⟨U, cu, rfl, -, -, -⟩ := hu.form
  have S3 := (S2.newBlk #[.int .i64 rb.s, .slice U rb.t.length cu, .bool rb.e] 41).newBlk #[.int .i64 (if rd = true then 101 else 0), .bool rd] 43
  simp only [World.size_alloc] at S3
  clear S2
  have HU := Lib.hid hu
  clear hu
  go_upto_region 2 with fail
  refine wp_world S3 fun w2 S4 => ?_
  clear S3
  generalize w.heap.size + 1 + 1 = a8 at *
  generalize w.heap.size + 1 = aI at *
  generalize w.heap.size = aS at *
  generalize w1.heap.size + 1 = aF at *
  generalize w1.heap.size = aB at *
  have S5 : Sat G1 w2 (asA p lim rs :: blk aI #[.int .i64 x.k, .int .i64 x.s, .slice V t.length cv, .bool x.e, .bool x.l, .bool x.a, .int .i64 x.n1, .int .i64 x.n2, .int .i64 x.n3, .int .i64 x.n4, .int .i64 x.n5, .int .i64 x.n6, .bool x.b1, .bool x.b2, .slice B m d] 34 :: blk aS #[.int .i64 b.s, .string (bstr b.t), .int .i64 (num b.e)] 30 :: blk a8 #[.int .i64 0, .string (ByteArray.mk #[]), .int .i64 0] 30 :: blk aB #[.int .i64 rb.s, .slice U rb.t.length cu, .bool rb.e] 41 :: blk aF #[.int .i64 (if rd = true then 101 else 0), .bool rd] 43 :: l) := S4.re [2, 4, 5, 3, 1, 0]
  clear S4
  refine wp_act fun a0 ha0 => ?_
  have HSZ : a0.tmps.size = 99 := by rw [ha0]; rfl
  have E5 : a0.eval (.tmp 5) = .pointer (some ⟨aS, 0, none⟩) := by rw [ha0]; rfl
  have E2 : a0.eval (.tmp 2) = .int .i64 lim := by rw [ha0]; rfl
  have E7 : a0.eval (.tmp 7) = .pointer (some ⟨aI, 0, none⟩) := by rw [ha0]; rfl
  refine wp_region_J (by kernel_rfl) 25 (by kernel_rfl) [[], [], [], [2], [], [4], [], [6], [7], [], [9], [10], [], [12], [13, 11], [0, 1, 3, 5, 8, 11, 14, 14], [15], [16], [16], [16], [], [], [20, 17, 15, 0, 1, 2, 3, 4, 5, 6, 7, 8, 9, 10, 11, 12, 13, 14, 15, 16, 17, 20, 21], [21, 18, 22, 0, 1, 2, 3, 4, 5, 6, 7, 8, 9, 10, 11, 12, 13, 14, 15, 16, 17, 18, 20, 21, 22], [19, 23, 0, 1, 2, 3, 4, 5, 6, 7, 8, 9, 10, 11, 12, 13, 14, 15, 16, 17, 18, 19, 20, 21, 22, 23]] (by kernel_rfl) (by kernel_rfl) (fun f a' W => ∃ p13 p14, HS2 f ∧ a' = acts [(0, 24, .agg #[.int .i64 b.s, .string (bstr b.t), .int .i64 (num b.e)]), (1, 25, .int .i64 lim), (2, 26, .pointer (some ⟨aI, 0, none⟩)), (3, 27, .int .i64 x.k), (4, 28, .pointer (some ⟨aI, 1, none⟩)), (5, 29, .int .i64 x.s), (6, 30, .pointer (some ⟨aI, 2, none⟩)), (7, 31, .slice V t.length cv), (8, 32, .string (bstr t)), (9, 33, .pointer (some ⟨aI, 3, none⟩)), (10, 34, .bool x.e), (11, 35, .int .i64 (num x.e)), (12, 36, .pointer (some ⟨aI, 4, none⟩)), (13, 37, .bool x.l), (14, 38, .int .i64 (num x.l)), (15, 39, .tuple #[.agg #[.int .i64 rs.s, .string (bstr rs.t), .int .i64 (num rs.e)], .agg #[.int .i64 rb.s, .string (bstr rb.t), .int .i64 (num rb.e)], .int .i64 (what ⟨rs, ro, rb, rd⟩)]), (16, 23, .tuple #[.agg #[.int .i64 rs.s, .string (bstr rs.t), .int .i64 (num rs.e)], .agg #[.int .i64 rb.s, .string (bstr rb.t), .int .i64 (num rb.e)], .int .i64 (what ⟨rs, ro, rb, rd⟩)]), (17, 40, .agg #[.int .i64 rs.s, .string (bstr rs.t), .int .i64 (num rs.e)]), (18, 41, .agg #[.int .i64 rb.s, .string (bstr rb.t), .int .i64 (num rb.e)]), (19, 42, .int .i64 (what ⟨rs, ro, rb, rd⟩)), (20, 13, .pointer (some ⟨p13, 0, none⟩)), (21, 14, .pointer (some ⟨p14, 0, none⟩)), (24, 15, .int .i64 (what ⟨rs, ro, rb, rd⟩))] f a0 ∧ Sat G1 W (opt (f 20) (blk p13 (cond (f 22) #[.int .i64 rs.s, .string (bstr rs.t), .int .i64 (num rs.e)] #[.int .i64 0, .string (ByteArray.mk #[]), .int .i64 0]) 30) :: opt (f 21) (blk p14 (cond (f 23) #[.int .i64 rb.s, .string (bstr rb.t), .int .i64 (num rb.e)] #[.int .i64 0, .string (ByteArray.mk #[]), .int .i64 0]) 30) :: asA p lim rs :: blk aI #[.int .i64 x.k, .int .i64 x.s, .slice V t.length cv, .bool x.e, .bool x.l, .bool x.a, .int .i64 x.n1, .int .i64 x.n2, .int .i64 x.n3, .int .i64 x.n4, .int .i64 x.n5, .int .i64 x.n6, .bool x.b1, .bool x.b2, .slice B m d] 34 :: blk aS #[.int .i64 b.s, .string (bstr b.t), .int .i64 (num b.e)] 30 :: blk a8 #[.int .i64 0, .string (ByteArray.mk #[]), .int .i64 0] 30 :: blk aB #[.int .i64 rb.s, .slice U rb.t.length cu, .bool rb.e] 41 :: blk aF #[.int .i64 (if rd = true then 101 else 0), .bool rd] 43 :: l)) ?_ ?_ ?_
  · exact ⟨0, 0, (by unfold HS2; decide), rfl, S5.drew.opt0.opt0⟩
  · refine ⟨?_, ?_, ?_, ?_, ?_, ?_, ?_, ?_, ?_, ?_, ?_, ?_, ?_, ?_, ?_, ?_, ?_, ?_, ?_, ?_, ?_, ?_, ?_, ?_, ?_, trivial⟩
    · rintro f a' W h0 hd ⟨p13, p14, hh, rfl, S⟩
      refine wpOp_list rfl ?_
      refine st_load rfl _ _ rfl _ ((acts_eval_tmp 5 (by kernel_rfl)).trans E5) _ _ ((S.re [4, 0, 1, 2, 3])) _ rfl rfl rfl ?_
      exact ⟨p13, p14, hh, (acts_some 0 rfl (by kernel_rfl) (by kernel_rfl)).symm, S⟩
    · rintro f a' W h1 hd ⟨p13, p14, hh, rfl, S⟩
      refine wpOp_run (v := .int .i64 lim) rfl rfl (fun ρ hρ => ?_) ⟨p13, p14, hh, (acts_some 1 rfl (by kernel_rfl) (by kernel_rfl)).symm, S⟩
      have e0 : ρ (.tmp 2) = .int .i64 lim := by rw [hρ]; exact (acts_eval_tmp 2 (by kernel_rfl)).trans E2
      clear hρ
      go_simp
    · rintro f a' W h2 hd ⟨p13, p14, hh, rfl, S⟩
      refine wpOp_run (v := .pointer (some ⟨aI, 0, none⟩)) rfl rfl (fun ρ hρ => ?_) ⟨p13, p14, hh, (acts_some 2 rfl (by kernel_rfl) (by kernel_rfl)).symm, S⟩
      have e0 : ρ (.tmp 7) = .pointer (some ⟨aI, 0, none⟩) := by rw [hρ]; exact (acts_eval_tmp 7 (by kernel_rfl)).trans E7
      clear hρ
      go_simp
    · rintro f a' W h3 hd ⟨p13, p14, hh, rfl, S⟩
      refine wpOp_run (v := .int .i64 x.k) rfl rfl (fun ρ hρ => ?_) ⟨p13, p14, hh, (acts_some 3 rfl (by kernel_rfl) (by kernel_rfl)).symm, S⟩
      have e0 : ρ (.tmp 26) = .pointer (some ⟨aI, 0, none⟩) := by rw [hρ]; exact acts_eval_hit 2 rfl hd.1 (by rw [HSZ]; rfl) (by kernel_rfl)
      clear hρ
      (have hcl : W.cell? ⟨aI, 0, none⟩ = some (.int .i64 x.k) := (S.re [3, 0, 1, 2]).cell 0)
      go_simp
    · rintro f a' W h4 hd ⟨p13, p14, hh, rfl, S⟩
      refine wpOp_run (v := .pointer (some ⟨aI, 1, none⟩)) rfl rfl (fun ρ hρ => ?_) ⟨p13, p14, hh, (acts_some 4 rfl (by kernel_rfl) (by kernel_rfl)).symm, S⟩
      have e0 : ρ (.tmp 7) = .pointer (some ⟨aI, 0, none⟩) := by rw [hρ]; exact (acts_eval_tmp 7 (by kernel_rfl)).trans E7
      clear hρ
      go_simp
    · rintro f a' W h5 hd ⟨p13, p14, hh, rfl, S⟩
      refine wpOp_run (v := .int .i64 x.s) rfl rfl (fun ρ hρ => ?_) ⟨p13, p14, hh, (acts_some 5 rfl (by kernel_rfl) (by kernel_rfl)).symm, S⟩
      have e0 : ρ (.tmp 28) = .pointer (some ⟨aI, 1, none⟩) := by rw [hρ]; exact acts_eval_hit 4 rfl hd.1 (by rw [HSZ]; rfl) (by kernel_rfl)
      clear hρ
      (have hcl : W.cell? ⟨aI, 1, none⟩ = some (.int .i64 x.s) := (S.re [3, 0, 1, 2]).cell 1)
      go_simp
    · rintro f a' W h6 hd ⟨p13, p14, hh, rfl, S⟩
      refine wpOp_run (v := .pointer (some ⟨aI, 2, none⟩)) rfl rfl (fun ρ hρ => ?_) ⟨p13, p14, hh, (acts_some 6 rfl (by kernel_rfl) (by kernel_rfl)).symm, S⟩
      have e0 : ρ (.tmp 7) = .pointer (some ⟨aI, 0, none⟩) := by rw [hρ]; exact (acts_eval_tmp 7 (by kernel_rfl)).trans E7
      clear hρ
      go_simp
    · rintro f a' W h7 hd ⟨p13, p14, hh, rfl, S⟩
      refine wpOp_run (v := .slice V t.length cv) rfl rfl (fun ρ hρ => ?_) ⟨p13, p14, hh, (acts_some 7 rfl (by kernel_rfl) (by kernel_rfl)).symm, S⟩
      have e0 : ρ (.tmp 30) = .pointer (some ⟨aI, 2, none⟩) := by rw [hρ]; exact acts_eval_hit 6 rfl hd.1 (by rw [HSZ]; rfl) (by kernel_rfl)
      clear hρ
      (have hcl : W.cell? ⟨aI, 2, none⟩ = some (.slice V t.length cv) := (S.re [3, 0, 1, 2]).cell 2)
      go_simp
    · rintro f a' W h8 hd ⟨p13, p14, hh, rfl, S⟩
      refine wpOp_run (v := .string (bstr t)) rfl rfl (fun ρ hρ => ?_) ⟨p13, p14, hh, (acts_some 8 rfl (by kernel_rfl) (by kernel_rfl)).symm, S⟩
      have e0 : ρ (.tmp 31) = .slice V t.length cv := by rw [hρ]; exact acts_eval_hit 7 rfl hd.1 (by rw [HSZ]; rfl) (by kernel_rfl)
      clear hρ
      (have hcv := conv_bytes _ t W ((HT.out.mono hG1).sat S).1)
      go_simp
    · rintro f a' W h9 hd ⟨p13, p14, hh, rfl, S⟩
      refine wpOp_run (v := .pointer (some ⟨aI, 3, none⟩)) rfl rfl (fun ρ hρ => ?_) ⟨p13, p14, hh, (acts_some 9 rfl (by kernel_rfl) (by kernel_rfl)).symm, S⟩
      have e0 : ρ (.tmp 7) = .pointer (some ⟨aI, 0, none⟩) := by rw [hρ]; exact (acts_eval_tmp 7 (by kernel_rfl)).trans E7
      clear hρ
      go_simp
    · rintro f a' W h10 hd ⟨p13, p14, hh, rfl, S⟩
      refine wpOp_run (v := .bool x.e) rfl rfl (fun ρ hρ => ?_) ⟨p13, p14, hh, (acts_some 10 rfl (by kernel_rfl) (by kernel_rfl)).symm, S⟩
      have e0 : ρ (.tmp 33) = .pointer (some ⟨aI, 3, none⟩) := by rw [hρ]; exact acts_eval_hit 9 rfl hd.1 (by rw [HSZ]; rfl) (by kernel_rfl)
      clear hρ
      (have hcl : W.cell? ⟨aI, 3, none⟩ = some (.bool x.e) := (S.re [3, 0, 1, 2]).cell 3)
      go_simp
    · rintro f a' W h11 hd ⟨p13, p14, hh, rfl, S⟩
      refine wpOp_call rfl rfl (fun ρ hρ => ?_) (law_numberB x.e W) ?_
      · skip
        have e0 : ρ (.tmp 34) = .bool x.e := by rw [hρ]; exact acts_eval_hit 10 rfl hd.1 (by rw [HSZ]; rfl) (by kernel_rfl)
        have ef : ρ (.func 20) = .func (.func 20) #[] #[] := by rw [hρ]; rfl
        clear hρ
        go_simp
      · rintro e W' ⟨rfl, hb⟩
        exact ⟨_, rfl, p13, p14, hh, (acts_some 11 rfl (by kernel_rfl) (by kernel_rfl)).symm, S.below hb⟩
    · rintro f a' W h12 hd ⟨p13, p14, hh, rfl, S⟩
      refine wpOp_run (v := .pointer (some ⟨aI, 4, none⟩)) rfl rfl (fun ρ hρ => ?_) ⟨p13, p14, hh, (acts_some 12 rfl (by kernel_rfl) (by kernel_rfl)).symm, S⟩
      have e0 : ρ (.tmp 7) = .pointer (some ⟨aI, 0, none⟩) := by rw [hρ]; exact (acts_eval_tmp 7 (by kernel_rfl)).trans E7
      clear hρ
      go_simp
    · rintro f a' W h13 hd ⟨p13, p14, hh, rfl, S⟩
      refine wpOp_run (v := .bool x.l) rfl rfl (fun ρ hρ => ?_) ⟨p13, p14, hh, (acts_some 13 rfl (by kernel_rfl) (by kernel_rfl)).symm, S⟩
      have e0 : ρ (.tmp 36) = .pointer (some ⟨aI, 4, none⟩) := by rw [hρ]; exact acts_eval_hit 12 rfl hd.1 (by rw [HSZ]; rfl) (by kernel_rfl)
      clear hρ
      (have hcl : W.cell? ⟨aI, 4, none⟩ = some (.bool x.l) := (S.re [3, 0, 1, 2]).cell 4)
      go_simp
    · rintro f a' W h14 hd ⟨p13, p14, hh, rfl, S⟩
      refine wpOp_call rfl rfl (fun ρ hρ => ?_) (law_numberB x.l W) ?_
      · skip
        have e0 : ρ (.tmp 37) = .bool x.l := by rw [hρ]; exact acts_eval_hit 13 rfl hd.1 (by rw [HSZ]; rfl) (by kernel_rfl)
        have ef : ρ (.func 20) = .func (.func 20) #[] #[] := by rw [hρ]; rfl
        clear hρ
        go_simp
      · rintro e W' ⟨rfl, hb⟩
        exact ⟨_, rfl, p13, p14, hh, (acts_some 14 rfl (by kernel_rfl) (by kernel_rfl)).symm, S.below hb⟩
    · rintro f a' W h15 hd ⟨p13, p14, hh, rfl, S⟩
      refine wpOp_call rfl rfl (fun ρ hρ => ?_) (HRF.out _ _ _ S) ?_
      · skip
        have e0 : ρ (.tmp 24) = .agg #[.int .i64 b.s, .string (bstr b.t), .int .i64 (num b.e)] := by rw [hρ]; exact acts_eval_hit 0 rfl hd.1 (by rw [HSZ]; rfl) (by kernel_rfl)
        have e1 : ρ (.tmp 25) = .int .i64 lim := by rw [hρ]; exact acts_eval_hit 1 rfl hd.2.1 (by rw [HSZ]; rfl) (by kernel_rfl)
        have e2 : ρ (.tmp 27) = .int .i64 x.k := by rw [hρ]; exact acts_eval_hit 3 rfl hd.2.2.1 (by rw [HSZ]; rfl) (by kernel_rfl)
        have e3 : ρ (.tmp 29) = .int .i64 x.s := by rw [hρ]; exact acts_eval_hit 5 rfl hd.2.2.2.1 (by rw [HSZ]; rfl) (by kernel_rfl)
        have e4 : ρ (.tmp 32) = .string (bstr t) := by rw [hρ]; exact acts_eval_hit 8 rfl hd.2.2.2.2.1 (by rw [HSZ]; rfl) (by kernel_rfl)
        have e5 : ρ (.tmp 35) = .int .i64 (num x.e) := by rw [hρ]; exact acts_eval_hit 11 rfl hd.2.2.2.2.2.1 (by rw [HSZ]; rfl) (by kernel_rfl)
        have e6 : ρ (.tmp 38) = .int .i64 (num x.l) := by rw [hρ]; exact acts_eval_hit 14 rfl hd.2.2.2.2.2.2.1 (by rw [HSZ]; rfl) (by kernel_rfl)
        have ef : ρ (.func 19) = .func (.func 19) #[] #[] := by rw [hρ]; rfl
        clear hρ
        go_simp
      · (rintro e W' ⟨rfl, S'⟩; exact ⟨_, rfl, p13, p14, hh, acts_swap rfl (k := 15) rfl (by kernel_rfl) (by kernel_rfl), S'⟩)
    · rintro f a' W h16 hd ⟨p13, p14, hh, rfl, S⟩
      refine wpOp_run (v := .tuple #[.agg #[.int .i64 rs.s, .string (bstr rs.t), .int .i64 (num rs.e)], .agg #[.int .i64 rb.s, .string (bstr rb.t), .int .i64 (num rb.e)], .int .i64 (what ⟨rs, ro, rb, rd⟩)]) rfl rfl (fun ρ hρ => ?_) ⟨p13, p14, hh, (acts_some 16 rfl (by kernel_rfl) (by kernel_rfl)).symm, S⟩
      have e0 : ρ (.tmp 39) = .tuple #[.agg #[.int .i64 rs.s, .string (bstr rs.t), .int .i64 (num rs.e)], .agg #[.int .i64 rb.s, .string (bstr rb.t), .int .i64 (num rb.e)], .int .i64 (what ⟨rs, ro, rb, rd⟩)] := by rw [hρ]; exact acts_eval_hit 15 rfl hd.1 (by rw [HSZ]; rfl) (by kernel_rfl)
      clear hρ
      go_simp
    · rintro f a' W h17 hd ⟨p13, p14, hh, rfl, S⟩
      refine wpOp_run (v := .agg #[.int .i64 rs.s, .string (bstr rs.t), .int .i64 (num rs.e)]) rfl rfl (fun ρ hρ => ?_) ⟨p13, p14, hh, (acts_some 17 rfl (by kernel_rfl) (by kernel_rfl)).symm, S⟩
      have e0 : ρ (.tmp 23) = .tuple #[.agg #[.int .i64 rs.s, .string (bstr rs.t), .int .i64 (num rs.e)], .agg #[.int .i64 rb.s, .string (bstr rb.t), .int .i64 (num rb.e)], .int .i64 (what ⟨rs, ro, rb, rd⟩)] := by rw [hρ]; exact acts_eval_hit 16 rfl hd.1 (by rw [HSZ]; rfl) (by kernel_rfl)
      clear hρ
      go_simp
    · rintro f a' W h18 hd ⟨p13, p14, hh, rfl, S⟩
      refine wpOp_run (v := .agg #[.int .i64 rb.s, .string (bstr rb.t), .int .i64 (num rb.e)]) rfl rfl (fun ρ hρ => ?_) ⟨p13, p14, hh, (acts_some 18 rfl (by kernel_rfl) (by kernel_rfl)).symm, S⟩
      have e0 : ρ (.tmp 23) = .tuple #[.agg #[.int .i64 rs.s, .string (bstr rs.t), .int .i64 (num rs.e)], .agg #[.int .i64 rb.s, .string (bstr rb.t), .int .i64 (num rb.e)], .int .i64 (what ⟨rs, ro, rb, rd⟩)] := by rw [hρ]; exact acts_eval_hit 16 rfl hd.1 (by rw [HSZ]; rfl) (by kernel_rfl)
      clear hρ
      go_simp
    · rintro f a' W h19 hd ⟨p13, p14, hh, rfl, S⟩
      refine wpOp_run (v := .int .i64 (what ⟨rs, ro, rb, rd⟩)) rfl rfl (fun ρ hρ => ?_) ⟨p13, p14, hh, (acts_some 19 rfl (by kernel_rfl) (by kernel_rfl)).symm, S⟩
      have e0 : ρ (.tmp 23) = .tuple #[.agg #[.int .i64 rs.s, .string (bstr rs.t), .int .i64 (num rs.e)], .agg #[.int .i64 rb.s, .string (bstr rb.t), .int .i64 (num rb.e)], .int .i64 (what ⟨rs, ro, rb, rd⟩)] := by rw [hρ]; exact acts_eval_hit 16 rfl hd.1 (by rw [HSZ]; rfl) (by kernel_rfl)
      clear hρ
      go_simp
    · rintro f a' W h20 hd ⟨p13, p14, hh, rfl, S⟩
      refine wpOp_mem (v := .pointer (some ⟨W.heap.size, 0, none⟩)) (w' := W.alloc (.cells #[.int .i64 0, .string (ByteArray.mk #[]), .int .i64 0] 30)) rfl rfl (fun ρ hρ => ?_) (⟨W.heap.size, p14, ⟨fun _ => rfl, hh.2⟩, acts_swap (by simp only [acts, h20, Bool.false_eq_true, if_false]) (k := 20) rfl (by kernel_rfl) (by kernel_rfl), Sat.optI rfl (by show Sat G1 _ (blk _ (cond (f 22) _ _) _ :: _); rw [no_of hh.1 h20]; exact (S.newBlk _ _).drop2)⟩)
      clear hρ
      go_simp
    · rintro f a' W h21 hd ⟨p13, p14, hh, rfl, S⟩
      refine wpOp_mem (v := .pointer (some ⟨W.heap.size, 0, none⟩)) (w' := W.alloc (.cells #[.int .i64 0, .string (ByteArray.mk #[]), .int .i64 0] 30)) rfl rfl (fun ρ hρ => ?_) (⟨p13, W.heap.size, ⟨hh.1, fun _ => rfl⟩, acts_swap (by simp only [acts, h21, Bool.false_eq_true, if_false]) (k := 21) rfl (by kernel_rfl) (by kernel_rfl), (Sat.optI rfl (by show Sat G1 _ (blk _ (cond (f 23) _ _) _ :: _); rw [no_of hh.2 h21]; exact ((S.newBlk _ _).re [2, 0, 1]).drop)).swap⟩)
      clear hρ
      go_simp
    · rintro f a' W h22 hd ⟨p13, p14, hh, rfl, S⟩
      rw [h22] at S
      refine wpOp_list rfl ?_
      refine st_store rfl _ _ _ rfl _ _ (acts_eval_hit 20 rfl hd.1 (by rw [HSZ]; rfl) (by kernel_rfl)) (acts_eval_hit 17 rfl hd.2.1 (by rw [HSZ]; rfl) (by kernel_rfl)) _ _ ((Sat.optE hd.1 S)) rfl rfl (by simp [Value.oneCell']) fun W' S' => ?_
      exact ⟨p13, p14, ⟨fun _ => hd.1, hh.2⟩, (acts_none 22 (by kernel_rfl)).symm, Sat.optI hd.1 S'⟩
    · rintro f a' W h23 hd ⟨p13, p14, hh, rfl, S⟩
      rw [h23] at S
      refine wpOp_list rfl ?_
      refine st_store rfl _ _ _ rfl _ _ (acts_eval_hit 21 rfl hd.1 (by rw [HSZ]; rfl) (by kernel_rfl)) (acts_eval_hit 18 rfl hd.2.1 (by rw [HSZ]; rfl) (by kernel_rfl)) _ _ ((Sat.optE hd.1 S.swap)) rfl rfl (by simp [Value.oneCell']) fun W' S' => ?_
      exact ⟨p13, p14, ⟨hh.1, fun _ => hd.1⟩, (acts_none 23 (by kernel_rfl)).symm, (Sat.optI hd.1 S').swap⟩
    · rintro f a' W h24 hd ⟨p13, p14, hh, rfl, S⟩
      refine wpOp_run (v := .int .i64 (what ⟨rs, ro, rb, rd⟩)) rfl rfl (fun ρ hρ => ?_) ⟨p13, p14, hh, (acts_some 22 rfl (by kernel_rfl) (by kernel_rfl)).symm, S⟩
      have e0 : ρ (.tmp 42) = .int .i64 (what ⟨rs, ro, rb, rd⟩) := by rw [hρ]; exact acts_eval_hit 19 rfl hd.1 (by rw [HSZ]; rfl) (by kernel_rfl)
      clear hρ
      go_simp
  · rintro a' W ⟨p13, p14, -, rfl, S6⟩
    subst ha0
    simp only [acts, if_true, Act.put, List.setIfInBounds_toArray, List.set_cons_succ, List.set_cons_zero]
    have S7 : Sat G1 W (blk p14 #[.int .i64 rb.s, .string (bstr rb.t), .int .i64 (num rb.e)] 30 :: blk p13 #[.int .i64 rs.s, .string (bstr rs.t), .int .i64 (num rs.e)] 30 :: asA p lim rs :: blk aI #[.int .i64 x.k, .int .i64 x.s, .slice V t.length cv, .bool x.e, .bool x.l, .bool x.a, .int .i64 x.n1, .int .i64 x.n2, .int .i64 x.n3, .int .i64 x.n4, .int .i64 x.n5, .int .i64 x.n6, .bool x.b1, .bool x.b2, .slice B m d] 34 :: blk aS #[.int .i64 b.s, .string (bstr b.t), .int .i64 (num b.e)] 30 :: blk a8 #[.int .i64 0, .string (ByteArray.mk #[]), .int .i64 0] 30 :: blk aB #[.int .i64 rb.s, .slice U rb.t.length cu, .bool rb.e] 41 :: blk aF #[.int .i64 (if rd = true then 101 else 0), .bool rd] 43 :: l) := Sat.optE rfl (Sat.optE rfl S6).swap
    clear S5 S6 HSZ E5 E2 E7
    have g0 : (rb.s != rb.s) = false := by simp
    have g1 : ((bstr rb.t).toList == (bstr rb.t).toList) = true := by simp
    have g4 : ((bstr rb.t).toList != (bstr rb.t).toList) = false := by simp
    have g2 : (num rb.e == 1) = rb.e := by cases rb.e <;> rfl
    have g3 : (rb.e != rb.e) = false := by simp
    rcases HCA.out with ⟨rfl, rfl⟩ | ⟨rfl, rfl⟩ | ⟨rfl, rfl⟩
    · rw [show what ⟨rs, false, rb, true⟩ = 2 from rfl]
      simp only [if_true] at S7
      have f0 := (S7.re [7, 0, 1, 2, 3, 4, 5, 6]).cell 0
      have f1 := (S7.re [7, 0, 1, 2, 3, 4, 5, 6]).cell 1
      have hwr := law_wrong_at S7
      clear S7
      go_wp2_with fail
      (with_reducible refine hwr.mono ?_)
      clear hwr f0 f1
      rintro e w5 ⟨rfl, S7⟩
      have b0 := (S7.re [6, 0, 1, 2, 3, 4, 5]).cell 0
      have b1 := (S7.re [6, 0, 1, 2, 3, 4, 5]).cell 1
      have b2 := (S7.re [6, 0, 1, 2, 3, 4, 5]).cell 2
      have n0 := S7.cell 0
      have n1 := S7.cell 1
      have n2 := S7.cell 2
      have hcv := conv_bytes _ rb.t _ (HU.out.sat S7).1
      go_upto_region 7 with fail
      clear b0 b1 b2 n0 n1 n2 hcv g0 g1 g2 g3 g4
      refine wp_world S7 fun w7 S8 => ?_
      clear S7
      refine wp_act fun a0 ha0 => ?_
      have HSZ : a0.tmps.size = 99 := by rw [ha0]; rfl
      have E13 : a0.eval (.tmp 13) = .pointer (some ⟨p13, 0, none⟩) := by rw [ha0]; rfl
      have E0 : a0.eval (.tmp 0) = .pointer (some ⟨p, 0, none⟩) := by rw [ha0]; rfl
      have E2 : a0.eval (.tmp 2) = .int .i64 lim := by rw [ha0]; rfl
      have E8 : a0.eval (.tmp 8) = .pointer (some ⟨a8, 0, none⟩) := by rw [ha0]; rfl
      refine wp_region_J (by kernel_rfl) 15 (by kernel_rfl) [[], [], [1], [], [3], [4], [2, 5], [6, 2], [7], [8, 7, 7], [7], [9, 10, 7], [7, 11], [0, 9, 0], [12, 13, 0, 1, 2, 3, 4, 5, 6, 7, 8, 9, 10, 11, 12, 13]] (by kernel_rfl) (by kernel_rfl) (fun f a' W => a' = acts [(0, 86, .agg #[.int .i64 rs.s, .string (bstr rs.t), .int .i64 (num rs.e)]), (1, 87, .pointer (some ⟨p, 0, none⟩)), (2, 88, .int .i64 rs.t.length), (3, 89, .pointer (some ⟨p13, 1, none⟩)), (4, 90, .string (bstr rs.t)), (5, 91, .int .i64 rs.t.length), (6, 92, .bool true), (7, 93, .bool true), (8, 94, .pointer (some ⟨p, 0, none⟩)), (9, 95, .int .i64 rs.t.length), (10, 96, .int .i64 lim), (11, 97, .bool true), (12, 98, .bool true), (14, 9, .bool true)] f a0 ∧ Sat G1 W (asA p lim rs :: blk p13 #[.int .i64 rs.s, .string (bstr rs.t), .int .i64 (num rs.e)] 30 :: blk a8 (cond (f 13) #[.int .i64 rs.s, .string (bstr rs.t), .int .i64 (num rs.e)] #[.int .i64 0, .string (ByteArray.mk #[]), .int .i64 0]) 30 :: l)) ?_ ?_ ?_
      · exact ⟨rfl, (S8.re [2, 1, 5, 0, 3, 4, 6, 7]).drew.re [0, 1, 2, 3] |> fun S => ((((((S.re [3, 4, 5, 6, 7, 0, 1, 2]).drop).drop).drop).drop).drop)⟩
      · refine ⟨?_, ?_, ?_, ?_, ?_, ?_, ?_, ?_, ?_, ?_, ?_, ?_, ?_, ?_, ?_, trivial⟩
        · rintro f a' W h0 hd ⟨rfl, S⟩
          refine wpOp_list rfl ?_
          refine st_load rfl _ _ rfl _ ((acts_eval_tmp 13 (by kernel_rfl)).trans E13) _ _ (S.swap) _ rfl rfl rfl ?_
          exact ⟨(acts_some 0 rfl (by kernel_rfl) (by kernel_rfl)).symm, S⟩
        · rintro f a' W h1 hd ⟨rfl, S⟩
          refine wpOp_run (v := .pointer (some ⟨p, 0, none⟩)) rfl rfl (fun ρ hρ => ?_) ⟨(acts_some 1 rfl (by kernel_rfl) (by kernel_rfl)).symm, S⟩
          have e0 : ρ (.tmp 0) = .pointer (some ⟨p, 0, none⟩) := by rw [hρ]; exact (acts_eval_tmp 0 (by kernel_rfl)).trans E0
          clear hρ
          go_simp
        · rintro f a' W h2 hd ⟨rfl, S⟩
          refine wpOp_call rfl rfl (fun ρ hρ => ?_) (as_waiting S) ?_
          · skip
            have e0 : ρ (.tmp 87) = .pointer (some ⟨p, 0, none⟩) := by rw [hρ]; exact acts_eval_hit 1 rfl hd.1 (by rw [HSZ]; rfl) (by kernel_rfl)
            have ef : ρ (.func 13) = .func (.func 13) #[] #[] := by rw [hρ]; rfl
            clear hρ
            go_simp
          · (rintro e W' ⟨rfl, rfl⟩; exact ⟨_, rfl, acts_swap rfl (k := 2) rfl (by kernel_rfl) (by kernel_rfl), S⟩)
        · rintro f a' W h3 hd ⟨rfl, S⟩
          refine wpOp_run (v := .pointer (some ⟨p13, 1, none⟩)) rfl rfl (fun ρ hρ => ?_) ⟨(acts_some 3 rfl (by kernel_rfl) (by kernel_rfl)).symm, S⟩
          have e0 : ρ (.tmp 13) = .pointer (some ⟨p13, 0, none⟩) := by rw [hρ]; exact (acts_eval_tmp 13 (by kernel_rfl)).trans E13
          clear hρ
          go_simp
        · rintro f a' W h4 hd ⟨rfl, S⟩
          refine wpOp_run (v := .string (bstr rs.t)) rfl rfl (fun ρ hρ => ?_) ⟨(acts_some 4 rfl (by kernel_rfl) (by kernel_rfl)).symm, S⟩
          have e0 : ρ (.tmp 89) = .pointer (some ⟨p13, 1, none⟩) := by rw [hρ]; exact acts_eval_hit 3 rfl hd.1 (by rw [HSZ]; rfl) (by kernel_rfl)
          clear hρ
          (have hcl : W.cell? ⟨p13, 1, none⟩ = some (.string (bstr rs.t)) := S.swap.cell 1)
          go_simp
        · rintro f a' W h5 hd ⟨rfl, S⟩
          refine wpOp_run (v := .int .i64 rs.t.length) rfl rfl (fun ρ hρ => ?_) ⟨(acts_some 5 rfl (by kernel_rfl) (by kernel_rfl)).symm, S⟩
          have e0 : ρ (.tmp 90) = .string (bstr rs.t) := by rw [hρ]; exact acts_eval_hit 4 rfl hd.1 (by rw [HSZ]; rfl) (by kernel_rfl)
          clear hρ
          (have hsz := bstr_size rs.t)
          go_simp
        · rintro f a' W h6 hd ⟨rfl, S⟩
          refine wpOp_run (v := .bool true) rfl rfl (fun ρ hρ => ?_) ⟨(acts_some 6 rfl (by kernel_rfl) (by kernel_rfl)).symm, S⟩
          have e0 : ρ (.tmp 88) = .int .i64 rs.t.length := by rw [hρ]; exact acts_eval_hit 2 rfl hd.1 (by rw [HSZ]; rfl) (by kernel_rfl)
          have e1 : ρ (.tmp 91) = .int .i64 rs.t.length := by rw [hρ]; exact acts_eval_hit 5 rfl hd.2.1 (by rw [HSZ]; rfl) (by kernel_rfl)
          clear hρ
          go_simp
        · rintro f a' W h7 hd ⟨rfl, S⟩
          refine wpOp_run (v := .bool true) rfl rfl (fun ρ hρ => ?_) ⟨(acts_some 7 rfl (by kernel_rfl) (by kernel_rfl)).symm, S⟩
          have e0 : ρ (.tmp 92) = .bool true := by rw [hρ]; exact acts_eval_hit 6 rfl hd.1 (by rw [HSZ]; rfl) (by kernel_rfl)
          clear hρ
          go_simp
        · rintro f a' W h8 hd ⟨rfl, S⟩
          refine wpOp_runG (v := .pointer (some ⟨p, 0, none⟩)) rfl ?_ (fun ρ hρ => ?_) ⟨(acts_some 8 rfl (by kernel_rfl) (by kernel_rfl)).symm, S⟩
          · exact wanted_hit (t := 93) rfl rfl (acts_eval_hit 7 rfl hd.1 (by rw [HSZ]; rfl) (by kernel_rfl))
          · skip
            have e0 : ρ (.tmp 0) = .pointer (some ⟨p, 0, none⟩) := by rw [hρ]; exact (acts_eval_tmp 0 (by kernel_rfl)).trans E0
            clear hρ
            go_simp
        · rintro f a' W h9 hd ⟨rfl, S⟩
          refine wpOp_callG rfl (wanted_hit (t := 93) rfl rfl (acts_eval_hit 7 rfl hd.2.1 (by rw [HSZ]; rfl) (by kernel_rfl))) (fun ρ hρ => ?_) (as_waiting S) ?_
          · skip
            have e0 : ρ (.tmp 94) = .pointer (some ⟨p, 0, none⟩) := by rw [hρ]; exact acts_eval_hit 8 rfl hd.1 (by rw [HSZ]; rfl) (by kernel_rfl)
            have ef : ρ (.func 13) = .func (.func 13) #[] #[] := by rw [hρ]; rfl
            clear hρ
            go_simp
          · (rintro e W' ⟨rfl, rfl⟩; exact ⟨_, rfl, acts_swap rfl (k := 9) rfl (by kernel_rfl) (by kernel_rfl), S⟩)
        · rintro f a' W h10 hd ⟨rfl, S⟩
          refine wpOp_runG (v := .int .i64 lim) rfl ?_ (fun ρ hρ => ?_) ⟨(acts_some 10 rfl (by kernel_rfl) (by kernel_rfl)).symm, S⟩
          · exact wanted_hit (t := 93) rfl rfl (acts_eval_hit 7 rfl hd.1 (by rw [HSZ]; rfl) (by kernel_rfl))
          · skip
            have e0 : ρ (.tmp 2) = .int .i64 lim := by rw [hρ]; exact (acts_eval_tmp 2 (by kernel_rfl)).trans E2
            clear hρ
            go_simp
        · rintro f a' W h11 hd ⟨rfl, S⟩
          refine wpOp_runG (v := .bool true) rfl ?_ (fun ρ hρ => ?_) ⟨(acts_some 11 rfl (by kernel_rfl) (by kernel_rfl)).symm, S⟩
          · exact wanted_hit (t := 93) rfl rfl (acts_eval_hit 7 rfl hd.2.2.1 (by rw [HSZ]; rfl) (by kernel_rfl))
          · skip
            have e0 : ρ (.tmp 95) = .int .i64 rs.t.length := by rw [hρ]; exact acts_eval_hit 9 rfl hd.1 (by rw [HSZ]; rfl) (by kernel_rfl)
            have e1 : ρ (.tmp 96) = .int .i64 lim := by rw [hρ]; exact acts_eval_hit 10 rfl hd.2.1 (by rw [HSZ]; rfl) (by kernel_rfl)
            clear hρ
            (have hlm := decide_eq_true HLIM.out)
            go_simp
        · rintro f a' W h12 hd ⟨rfl, S⟩
          refine wpOp_run (v := .bool true) rfl rfl (fun ρ hρ => ?_) ⟨(acts_some 12 rfl (by kernel_rfl) (by kernel_rfl)).symm, S⟩
          have e0 : ρ (.tmp 93) = .bool true := by rw [hρ]; exact acts_eval_hit 7 rfl hd.1 (by rw [HSZ]; rfl) (by kernel_rfl)
          have e1 : ρ (.tmp 97) = .bool true := by rw [hρ]; exact acts_eval_hit 11 rfl hd.2.1 (by rw [HSZ]; rfl) (by kernel_rfl)
          have ec : ∀ v, ρ (.const v) = v := by rw [hρ]; exact fun _ => rfl
          clear hρ
          go_simp
        · rintro f a' W h13 hd ⟨rfl, S⟩
          rw [h13] at S
          refine wpOp_list rfl ?_
          refine st_store rfl _ _ _ rfl _ _ ((acts_eval_tmp 8 (by kernel_rfl)).trans E8) (acts_eval_hit 0 rfl hd.1 (by rw [HSZ]; rfl) (by kernel_rfl)) _ _ (S.pull2) rfl rfl (by simp [Value.oneCell']) fun W' S' => ?_
          exact ⟨(acts_none 13 (by kernel_rfl)).symm, S'.push2⟩
        · rintro f a' W h14 hd ⟨rfl, S⟩
          refine wpOp_run (v := .bool true) rfl rfl (fun ρ hρ => ?_) ⟨(acts_some 13 rfl (by kernel_rfl) (by kernel_rfl)).symm, S⟩
          have e0 : ρ (.tmp 98) = .bool true := by rw [hρ]; exact acts_eval_hit 12 rfl hd.1 (by rw [HSZ]; rfl) (by kernel_rfl)
          clear hρ
          go_simp
      · rintro a' W ⟨rfl, S9⟩
        subst ha0
        simp only [acts, if_true, Act.put, List.setIfInBounds_toArray, List.set_cons_succ, List.set_cons_zero]
        have HS := Lib.hid S9
        clear S8 S9 HSZ E13 E0 E2 E8
        go_wp2_with fail
        refine bodyPost_ret (results_cell_t rfl _ _ _ _ _ _ rfl (HS.out.pull2).blk_at Try.underlying30 rfl (by kernel_rfl)) rfl ?_
        exact hK.out _ _ ⟨G1, hG1, rfl, HS.out.drop2.drop2⟩
    · rw [show what ⟨rs, true, rb, false⟩ = 1 from rfl]
      simp only [Bool.false_eq_true, if_false] at S7
      have f0 := (S7.re [7, 0, 1, 2, 3, 4, 5, 6]).cell 0
      have f1 := (S7.re [7, 0, 1, 2, 3, 4, 5, 6]).cell 1
      have hwr := law_wrong_no S7
      clear S7
      go_wp2_with fail
      (with_reducible refine hwr.mono ?_)
      clear hwr f0 f1
      rintro e w5 ⟨rfl, S7⟩
      have f0 := (S7.re [7, 0, 1, 2, 3, 4, 5, 6]).cell 0
      have f1 := (S7.re [7, 0, 1, 2, 3, 4, 5, 6]).cell 1
      have hwr := fault_ok_yes S7
      clear S7
      go_wp2_with fail
      (with_reducible refine hwr.mono ?_)
      clear hwr f0 f1
      rintro e w6 ⟨rfl, S7⟩
      have b0 := (S7.re [6, 0, 1, 2, 3, 4, 5]).cell 0
      have b1 := (S7.re [6, 0, 1, 2, 3, 4, 5]).cell 1
      have b2 := (S7.re [6, 0, 1, 2, 3, 4, 5]).cell 2
      have n0 := S7.cell 0
      have n1 := S7.cell 1
      have n2 := S7.cell 2
      have hcv := conv_bytes _ rb.t _ (HU.out.sat S7).1
      go_upto_region 7 with fail
      clear b0 b1 b2 n0 n1 n2 hcv g0 g1 g2 g3 g4
      refine wp_world S7 fun w7 S8 => ?_
      clear S7
      refine wp_act fun a0 ha0 => ?_
      have HSZ : a0.tmps.size = 99 := by rw [ha0]; rfl
      have E13 : a0.eval (.tmp 13) = .pointer (some ⟨p13, 0, none⟩) := by rw [ha0]; rfl
      have E0 : a0.eval (.tmp 0) = .pointer (some ⟨p, 0, none⟩) := by rw [ha0]; rfl
      have E2 : a0.eval (.tmp 2) = .int .i64 lim := by rw [ha0]; rfl
      have E8 : a0.eval (.tmp 8) = .pointer (some ⟨a8, 0, none⟩) := by rw [ha0]; rfl
      refine wp_region_J (by kernel_rfl) 15 (by kernel_rfl) [[], [], [1], [], [3], [4], [2, 5], [6, 2], [7], [8, 7, 7], [7], [9, 10, 7], [7, 11], [0, 9, 0], [12, 13, 0, 1, 2, 3, 4, 5, 6, 7, 8, 9, 10, 11, 12, 13]] (by kernel_rfl) (by kernel_rfl) (fun f a' W => a' = acts [(0, 86, .agg #[.int .i64 rs.s, .string (bstr rs.t), .int .i64 (num rs.e)]), (1, 87, .pointer (some ⟨p, 0, none⟩)), (2, 88, .int .i64 rs.t.length), (3, 89, .pointer (some ⟨p13, 1, none⟩)), (4, 90, .string (bstr rs.t)), (5, 91, .int .i64 rs.t.length), (6, 92, .bool true), (7, 93, .bool true), (8, 94, .pointer (some ⟨p, 0, none⟩)), (9, 95, .int .i64 rs.t.length), (10, 96, .int .i64 lim), (11, 97, .bool true), (12, 98, .bool true), (14, 9, .bool true)] f a0 ∧ Sat G1 W (asA p lim rs :: blk p13 #[.int .i64 rs.s, .string (bstr rs.t), .int .i64 (num rs.e)] 30 :: blk a8 (cond (f 13) #[.int .i64 rs.s, .string (bstr rs.t), .int .i64 (num rs.e)] #[.int .i64 0, .string (ByteArray.mk #[]), .int .i64 0]) 30 :: l)) ?_ ?_ ?_
      · exact ⟨rfl, (S8.re [2, 1, 5, 0, 3, 4, 6, 7]).drew.re [0, 1, 2, 3] |> fun S => ((((((S.re [3, 4, 5, 6, 7, 0, 1, 2]).drop).drop).drop).drop).drop)⟩
      · refine ⟨?_, ?_, ?_, ?_, ?_, ?_, ?_, ?_, ?_, ?_, ?_, ?_, ?_, ?_, ?_, trivial⟩
        · rintro f a' W h0 hd ⟨rfl, S⟩
          refine wpOp_list rfl ?_
          refine st_load rfl _ _ rfl _ ((acts_eval_tmp 13 (by kernel_rfl)).trans E13) _ _ (S.swap) _ rfl rfl rfl ?_
          exact ⟨(acts_some 0 rfl (by kernel_rfl) (by kernel_rfl)).symm, S⟩
        · rintro f a' W h1 hd ⟨rfl, S⟩
          refine wpOp_run (v := .pointer (some ⟨p, 0, none⟩)) rfl rfl (fun ρ hρ => ?_) ⟨(acts_some 1 rfl (by kernel_rfl) (by kernel_rfl)).symm, S⟩
          have e0 : ρ (.tmp 0) = .pointer (some ⟨p, 0, none⟩) := by rw [hρ]; exact (acts_eval_tmp 0 (by kernel_rfl)).trans E0
          clear hρ
          go_simp
        · rintro f a' W h2 hd ⟨rfl, S⟩
          refine wpOp_call rfl rfl (fun ρ hρ => ?_) (as_waiting S) ?_
          · skip
            have e0 : ρ (.tmp 87) = .pointer (some ⟨p, 0, none⟩) := by rw [hρ]; exact acts_eval_hit 1 rfl hd.1 (by rw [HSZ]; rfl) (by kernel_rfl)
            have ef : ρ (.func 13) = .func (.func 13) #[] #[] := by rw [hρ]; rfl
            clear hρ
            go_simp
          · (rintro e W' ⟨rfl, rfl⟩; exact ⟨_, rfl, acts_swap rfl (k := 2) rfl (by kernel_rfl) (by kernel_rfl), S⟩)
        · rintro f a' W h3 hd ⟨rfl, S⟩
          refine wpOp_run (v := .pointer (some ⟨p13, 1, none⟩)) rfl rfl (fun ρ hρ => ?_) ⟨(acts_some 3 rfl (by kernel_rfl) (by kernel_rfl)).symm, S⟩
          have e0 : ρ (.tmp 13) = .pointer (some ⟨p13, 0, none⟩) := by rw [hρ]; exact (acts_eval_tmp 13 (by kernel_rfl)).trans E13
          clear hρ
          go_simp
        · rintro f a' W h4 hd ⟨rfl, S⟩
          refine wpOp_run (v := .string (bstr rs.t)) rfl rfl (fun ρ hρ => ?_) ⟨(acts_some 4 rfl (by kernel_rfl) (by kernel_rfl)).symm, S⟩
          have e0 : ρ (.tmp 89) = .pointer (some ⟨p13, 1, none⟩) := by rw [hρ]; exact acts_eval_hit 3 rfl hd.1 (by rw [HSZ]; rfl) (by kernel_rfl)
          clear hρ
          (have hcl : W.cell? ⟨p13, 1, none⟩ = some (.string (bstr rs.t)) := S.swap.cell 1)
          go_simp
        · rintro f a' W h5 hd ⟨rfl, S⟩
          refine wpOp_run (v := .int .i64 rs.t.length) rfl rfl (fun ρ hρ => ?_) ⟨(acts_some 5 rfl (by kernel_rfl) (by kernel_rfl)).symm, S⟩
          have e0 : ρ (.tmp 90) = .string (bstr rs.t) := by rw [hρ]; exact acts_eval_hit 4 rfl hd.1 (by rw [HSZ]; rfl) (by kernel_rfl)
          clear hρ
          (have hsz := bstr_size rs.t)
          go_simp
        · rintro f a' W h6 hd ⟨rfl, S⟩
          refine wpOp_run (v := .bool true) rfl rfl (fun ρ hρ => ?_) ⟨(acts_some 6 rfl (by kernel_rfl) (by kernel_rfl)).symm, S⟩
          have e0 : ρ (.tmp 88) = .int .i64 rs.t.length := by rw [hρ]; exact acts_eval_hit 2 rfl hd.1 (by rw [HSZ]; rfl) (by kernel_rfl)
          have e1 : ρ (.tmp 91) = .int .i64 rs.t.length := by rw [hρ]; exact acts_eval_hit 5 rfl hd.2.1 (by rw [HSZ]; rfl) (by kernel_rfl)
          clear hρ
          go_simp
        · rintro f a' W h7 hd ⟨rfl, S⟩
          refine wpOp_run (v := .bool true) rfl rfl (fun ρ hρ => ?_) ⟨(acts_some 7 rfl (by kernel_rfl) (by kernel_rfl)).symm, S⟩
          have e0 : ρ (.tmp 92) = .bool true := by rw [hρ]; exact acts_eval_hit 6 rfl hd.1 (by rw [HSZ]; rfl) (by kernel_rfl)
          clear hρ
          go_simp
        · rintro f a' W h8 hd ⟨rfl, S⟩
          refine wpOp_runG (v := .pointer (some ⟨p, 0, none⟩)) rfl ?_ (fun ρ hρ => ?_) ⟨(acts_some 8 rfl (by kernel_rfl) (by kernel_rfl)).symm, S⟩
          · exact wanted_hit (t := 93) rfl rfl (acts_eval_hit 7 rfl hd.1 (by rw [HSZ]; rfl) (by kernel_rfl))
          · skip
            have e0 : ρ (.tmp 0) = .pointer (some ⟨p, 0, none⟩) := by rw [hρ]; exact (acts_eval_tmp 0 (by kernel_rfl)).trans E0
            clear hρ
            go_simp
        · rintro f a' W h9 hd ⟨rfl, S⟩
          refine wpOp_callG rfl (wanted_hit (t := 93) rfl rfl (acts_eval_hit 7 rfl hd.2.1 (by rw [HSZ]; rfl) (by kernel_rfl))) (fun ρ hρ => ?_) (as_waiting S) ?_
          · skip
            have e0 : ρ (.tmp 94) = .pointer (some ⟨p, 0, none⟩) := by rw [hρ]; exact acts_eval_hit 8 rfl hd.1 (by rw [HSZ]; rfl) (by kernel_rfl)
            have ef : ρ (.func 13) = .func (.func 13) #[] #[] := by rw [hρ]; rfl
            clear hρ
            go_simp
          · (rintro e W' ⟨rfl, rfl⟩; exact ⟨_, rfl, acts_swap rfl (k := 9) rfl (by kernel_rfl) (by kernel_rfl), S⟩)
        · rintro f a' W h10 hd ⟨rfl, S⟩
          refine wpOp_runG (v := .int .i64 lim) rfl ?_ (fun ρ hρ => ?_) ⟨(acts_some 10 rfl (by kernel_rfl) (by kernel_rfl)).symm, S⟩
          · exact wanted_hit (t := 93) rfl rfl (acts_eval_hit 7 rfl hd.1 (by rw [HSZ]; rfl) (by kernel_rfl))
          · skip
            have e0 : ρ (.tmp 2) = .int .i64 lim := by rw [hρ]; exact (acts_eval_tmp 2 (by kernel_rfl)).trans E2
            clear hρ
            go_simp
        · rintro f a' W h11 hd ⟨rfl, S⟩
          refine wpOp_runG (v := .bool true) rfl ?_ (fun ρ hρ => ?_) ⟨(acts_some 11 rfl (by kernel_rfl) (by kernel_rfl)).symm, S⟩
          · exact wanted_hit (t := 93) rfl rfl (acts_eval_hit 7 rfl hd.2.2.1 (by rw [HSZ]; rfl) (by kernel_rfl))
          · skip
            have e0 : ρ (.tmp 95) = .int .i64 rs.t.length := by rw [hρ]; exact acts_eval_hit 9 rfl hd.1 (by rw [HSZ]; rfl) (by kernel_rfl)
            have e1 : ρ (.tmp 96) = .int .i64 lim := by rw [hρ]; exact acts_eval_hit 10 rfl hd.2.1 (by rw [HSZ]; rfl) (by kernel_rfl)
            clear hρ
            (have hlm := decide_eq_true HLIM.out)
            go_simp
        · rintro f a' W h12 hd ⟨rfl, S⟩
          refine wpOp_run (v := .bool true) rfl rfl (fun ρ hρ => ?_) ⟨(acts_some 12 rfl (by kernel_rfl) (by kernel_rfl)).symm, S⟩
          have e0 : ρ (.tmp 93) = .bool true := by rw [hρ]; exact acts_eval_hit 7 rfl hd.1 (by rw [HSZ]; rfl) (by kernel_rfl)
          have e1 : ρ (.tmp 97) = .bool true := by rw [hρ]; exact acts_eval_hit 11 rfl hd.2.1 (by rw [HSZ]; rfl) (by kernel_rfl)
          have ec : ∀ v, ρ (.const v) = v := by rw [hρ]; exact fun _ => rfl
          clear hρ
          go_simp
        · rintro f a' W h13 hd ⟨rfl, S⟩
          rw [h13] at S
          refine wpOp_list rfl ?_
          refine st_store rfl _ _ _ rfl _ _ ((acts_eval_tmp 8 (by kernel_rfl)).trans E8) (acts_eval_hit 0 rfl hd.1 (by rw [HSZ]; rfl) (by kernel_rfl)) _ _ (S.pull2) rfl rfl (by simp [Value.oneCell']) fun W' S' => ?_
          exact ⟨(acts_none 13 (by kernel_rfl)).symm, S'.push2⟩
        · rintro f a' W h14 hd ⟨rfl, S⟩
          refine wpOp_run (v := .bool true) rfl rfl (fun ρ hρ => ?_) ⟨(acts_some 13 rfl (by kernel_rfl) (by kernel_rfl)).symm, S⟩
          have e0 : ρ (.tmp 98) = .bool true := by rw [hρ]; exact acts_eval_hit 12 rfl hd.1 (by rw [HSZ]; rfl) (by kernel_rfl)
          clear hρ
          go_simp
      · rintro a' W ⟨rfl, S9⟩
        subst ha0
        simp only [acts, if_true, Act.put, List.setIfInBounds_toArray, List.set_cons_succ, List.set_cons_zero]
        have HS := Lib.hid S9
        clear S8 S9 HSZ E13 E0 E2 E8
        go_wp2_with fail
        refine bodyPost_ret (results_cell_t rfl _ _ _ _ _ _ rfl (HS.out.pull2).blk_at Try.underlying30 rfl (by kernel_rfl)) rfl ?_
        exact hK.out _ _ ⟨G1, hG1, rfl, HS.out.drop2.drop2⟩
    · rw [show what ⟨rs, false, rb, false⟩ = 0 from rfl]
      simp only [Bool.false_eq_true, if_false] at S7
      have f0 := (S7.re [7, 0, 1, 2, 3, 4, 5, 6]).cell 0
      have f1 := (S7.re [7, 0, 1, 2, 3, 4, 5, 6]).cell 1
      have hwr := law_wrong_no S7
      clear S7
      go_wp2_with fail
      (with_reducible refine hwr.mono ?_)
      clear hwr f0 f1
      rintro e w5 ⟨rfl, S7⟩
      have f0 := (S7.re [7, 0, 1, 2, 3, 4, 5, 6]).cell 0
      have f1 := (S7.re [7, 0, 1, 2, 3, 4, 5, 6]).cell 1
      have hwr := fault_ok_yes S7
      clear S7
      go_wp2_with fail
      (with_reducible refine hwr.mono ?_)
      clear hwr f0 f1
      rintro e w6 ⟨rfl, S7⟩
      have b0 := (S7.re [6, 0, 1, 2, 3, 4, 5]).cell 0
      have b1 := (S7.re [6, 0, 1, 2, 3, 4, 5]).cell 1
      have b2 := (S7.re [6, 0, 1, 2, 3, 4, 5]).cell 2
      have n0 := S7.cell 0
      have n1 := S7.cell 1
      have n2 := S7.cell 2
      have hcv := conv_bytes _ rb.t _ (HU.out.sat S7).1
      go_upto_region 7 with fail
      clear b0 b1 b2 n0 n1 n2 hcv g0 g1 g2 g3 g4
      refine wp_world S7 fun w7 S8 => ?_
      clear S7
      refine wp_act fun a0 ha0 => ?_
      have HSZ : a0.tmps.size = 99 := by rw [ha0]; rfl
      have E13 : a0.eval (.tmp 13) = .pointer (some ⟨p13, 0, none⟩) := by rw [ha0]; rfl
      have E0 : a0.eval (.tmp 0) = .pointer (some ⟨p, 0, none⟩) := by rw [ha0]; rfl
      have E2 : a0.eval (.tmp 2) = .int .i64 lim := by rw [ha0]; rfl
      have E8 : a0.eval (.tmp 8) = .pointer (some ⟨a8, 0, none⟩) := by rw [ha0]; rfl
      refine wp_region_J (by kernel_rfl) 15 (by kernel_rfl) [[], [], [1], [], [3], [4], [2, 5], [6, 2], [7], [8, 7, 7], [7], [9, 10, 7], [7, 11], [0, 9, 0], [12, 13, 0, 1, 2, 3, 4, 5, 6, 7, 8, 9, 10, 11, 12, 13]] (by kernel_rfl) (by kernel_rfl) (fun f a' W => a' = acts [(0, 86, .agg #[.int .i64 rs.s, .string (bstr rs.t), .int .i64 (num rs.e)]), (1, 87, .pointer (some ⟨p, 0, none⟩)), (2, 88, .int .i64 rs.t.length), (3, 89, .pointer (some ⟨p13, 1, none⟩)), (4, 90, .string (bstr rs.t)), (5, 91, .int .i64 rs.t.length), (6, 92, .bool true), (7, 93, .bool true), (8, 94, .pointer (some ⟨p, 0, none⟩)), (9, 95, .int .i64 rs.t.length), (10, 96, .int .i64 lim), (11, 97, .bool true), (12, 98, .bool true), (14, 9, .bool true)] f a0 ∧ Sat G1 W (asA p lim rs :: blk p13 #[.int .i64 rs.s, .string (bstr rs.t), .int .i64 (num rs.e)] 30 :: blk a8 (cond (f 13) #[.int .i64 rs.s, .string (bstr rs.t), .int .i64 (num rs.e)] #[.int .i64 0, .string (ByteArray.mk #[]), .int .i64 0]) 30 :: l)) ?_ ?_ ?_
      · exact ⟨rfl, (S8.re [2, 1, 5, 0, 3, 4, 6, 7]).drew.re [0, 1, 2, 3] |> fun S => ((((((S.re [3, 4, 5, 6, 7, 0, 1, 2]).drop).drop).drop).drop).drop)⟩
      · refine ⟨?_, ?_, ?_, ?_, ?_, ?_, ?_, ?_, ?_, ?_, ?_, ?_, ?_, ?_, ?_, trivial⟩
        · rintro f a' W h0 hd ⟨rfl, S⟩
          refine wpOp_list rfl ?_
          refine st_load rfl _ _ rfl _ ((acts_eval_tmp 13 (by kernel_rfl)).trans E13) _ _ (S.swap) _ rfl rfl rfl ?_
          exact ⟨(acts_some 0 rfl (by kernel_rfl) (by kernel_rfl)).symm, S⟩
        · rintro f a' W h1 hd ⟨rfl, S⟩
          refine wpOp_run (v := .pointer (some ⟨p, 0, none⟩)) rfl rfl (fun ρ hρ => ?_) ⟨(acts_some 1 rfl (by kernel_rfl) (by kernel_rfl)).symm, S⟩
          have e0 : ρ (.tmp 0) = .pointer (some ⟨p, 0, none⟩) := by rw [hρ]; exact (acts_eval_tmp 0 (by kernel_rfl)).trans E0
          clear hρ
          go_simp
        · rintro f a' W h2 hd ⟨rfl, S⟩
          refine wpOp_call rfl rfl (fun ρ hρ => ?_) (as_waiting S) ?_
          · skip
            have e0 : ρ (.tmp 87) = .pointer (some ⟨p, 0, none⟩) := by rw [hρ]; exact acts_eval_hit 1 rfl hd.1 (by rw [HSZ]; rfl) (by kernel_rfl)
            have ef : ρ (.func 13) = .func (.func 13) #[] #[] := by rw [hρ]; rfl
            clear hρ
            go_simp
          · (rintro e W' ⟨rfl, rfl⟩; exact ⟨_, rfl, acts_swap rfl (k := 2) rfl (by kernel_rfl) (by kernel_rfl), S⟩)
        · rintro f a' W h3 hd ⟨rfl, S⟩
          refine wpOp_run (v := .pointer (some ⟨p13, 1, none⟩)) rfl rfl (fun ρ hρ => ?_) ⟨(acts_some 3 rfl (by kernel_rfl) (by kernel_rfl)).symm, S⟩
          have e0 : ρ (.tmp 13) = .pointer (some ⟨p13, 0, none⟩) := by rw [hρ]; exact (acts_eval_tmp 13 (by kernel_rfl)).trans E13
          clear hρ
          go_simp
        · rintro f a' W h4 hd ⟨rfl, S⟩
          refine wpOp_run (v := .string (bstr rs.t)) rfl rfl (fun ρ hρ => ?_) ⟨(acts_some 4 rfl (by kernel_rfl) (by kernel_rfl)).symm, S⟩
          have e0 : ρ (.tmp 89) = .pointer (some ⟨p13, 1, none⟩) := by rw [hρ]; exact acts_eval_hit 3 rfl hd.1 (by rw [HSZ]; rfl) (by kernel_rfl)
          clear hρ
          (have hcl : W.cell? ⟨p13, 1, none⟩ = some (.string (bstr rs.t)) := S.swap.cell 1)
          go_simp
        · rintro f a' W h5 hd ⟨rfl, S⟩
          refine wpOp_run (v := .int .i64 rs.t.length) rfl rfl (fun ρ hρ => ?_) ⟨(acts_some 5 rfl (by kernel_rfl) (by kernel_rfl)).symm, S⟩
          have e0 : ρ (.tmp 90) = .string (bstr rs.t) := by rw [hρ]; exact acts_eval_hit 4 rfl hd.1 (by rw [HSZ]; rfl) (by kernel_rfl)
          clear hρ
          (have hsz := bstr_size rs.t)
          go_simp
        · rintro f a' W h6 hd ⟨rfl, S⟩
          refine wpOp_run (v := .bool true) rfl rfl (fun ρ hρ => ?_) ⟨(acts_some 6 rfl (by kernel_rfl) (by kernel_rfl)).symm, S⟩
          have e0 : ρ (.tmp 88) = .int .i64 rs.t.length := by rw [hρ]; exact acts_eval_hit 2 rfl hd.1 (by rw [HSZ]; rfl) (by kernel_rfl)
          have e1 : ρ (.tmp 91) = .int .i64 rs.t.length := by rw [hρ]; exact acts_eval_hit 5 rfl hd.2.1 (by rw [HSZ]; rfl) (by kernel_rfl)
          clear hρ
          go_simp
        · rintro f a' W h7 hd ⟨rfl, S⟩
          refine wpOp_run (v := .bool true) rfl rfl (fun ρ hρ => ?_) ⟨(acts_some 7 rfl (by kernel_rfl) (by kernel_rfl)).symm, S⟩
          have e0 : ρ (.tmp 92) = .bool true := by rw [hρ]; exact acts_eval_hit 6 rfl hd.1 (by rw [HSZ]; rfl) (by kernel_rfl)
          clear hρ
          go_simp
        · rintro f a' W h8 hd ⟨rfl, S⟩
          refine wpOp_runG (v := .pointer (some ⟨p, 0, none⟩)) rfl ?_ (fun ρ hρ => ?_) ⟨(acts_some 8 rfl (by kernel_rfl) (by kernel_rfl)).symm, S⟩
          · exact wanted_hit (t := 93) rfl rfl (acts_eval_hit 7 rfl hd.1 (by rw [HSZ]; rfl) (by kernel_rfl))
          · skip
            have e0 : ρ (.tmp 0) = .pointer (some ⟨p, 0, none⟩) := by rw [hρ]; exact (acts_eval_tmp 0 (by kernel_rfl)).trans E0
            clear hρ
            go_simp
        · rintro f a' W h9 hd ⟨rfl, S⟩
          refine wpOp_callG rfl (wanted_hit (t := 93) rfl rfl (acts_eval_hit 7 rfl hd.2.1 (by rw [HSZ]; rfl) (by kernel_rfl))) (fun ρ hρ => ?_) (as_waiting S) ?_
          · skip
            have e0 : ρ (.tmp 94) = .pointer (some ⟨p, 0, none⟩) := by rw [hρ]; exact acts_eval_hit 8 rfl hd.1 (by rw [HSZ]; rfl) (by kernel_rfl)
            have ef : ρ (.func 13) = .func (.func 13) #[] #[] := by rw [hρ]; rfl
            clear hρ
            go_simp
          · (rintro e W' ⟨rfl, rfl⟩; exact ⟨_, rfl, acts_swap rfl (k := 9) rfl (by kernel_rfl) (by kernel_rfl), S⟩)
        · rintro f a' W h10 hd ⟨rfl, S⟩
          refine wpOp_runG (v := .int .i64 lim) rfl ?_ (fun ρ hρ => ?_) ⟨(acts_some 10 rfl (by kernel_rfl) (by kernel_rfl)).symm, S⟩
          · exact wanted_hit (t := 93) rfl rfl (acts_eval_hit 7 rfl hd.1 (by rw [HSZ]; rfl) (by kernel_rfl))
          · skip
            have e0 : ρ (.tmp 2) = .int .i64 lim := by rw [hρ]; exact (acts_eval_tmp 2 (by kernel_rfl)).trans E2
            clear hρ
            go_simp
        · rintro f a' W h11 hd ⟨rfl, S⟩
          refine wpOp_runG (v := .bool true) rfl ?_ (fun ρ hρ => ?_) ⟨(acts_some 11 rfl (by kernel_rfl) (by kernel_rfl)).symm, S⟩
          · exact wanted_hit (t := 93) rfl rfl (acts_eval_hit 7 rfl hd.2.2.1 (by rw [HSZ]; rfl) (by kernel_rfl))
          · skip
            have e0 : ρ (.tmp 95) = .int .i64 rs.t.length := by rw [hρ]; exact acts_eval_hit 9 rfl hd.1 (by rw [HSZ]; rfl) (by kernel_rfl)
            have e1 : ρ (.tmp 96) = .int .i64 lim := by rw [hρ]; exact acts_eval_hit 10 rfl hd.2.1 (by rw [HSZ]; rfl) (by kernel_rfl)
            clear hρ
            (have hlm := decide_eq_true HLIM.out)
            go_simp
        · rintro f a' W h12 hd ⟨rfl, S⟩
          refine wpOp_run (v := .bool true) rfl rfl (fun ρ hρ => ?_) ⟨(acts_some 12 rfl (by kernel_rfl) (by kernel_rfl)).symm, S⟩
          have e0 : ρ (.tmp 93) = .bool true := by rw [hρ]; exact acts_eval_hit 7 rfl hd.1 (by rw [HSZ]; rfl) (by kernel_rfl)
          have e1 : ρ (.tmp 97) = .bool true := by rw [hρ]; exact acts_eval_hit 11 rfl hd.2.1 (by rw [HSZ]; rfl) (by kernel_rfl)
          have ec : ∀ v, ρ (.const v) = v := by rw [hρ]; exact fun _ => rfl
          clear hρ
          go_simp
        · rintro f a' W h13 hd ⟨rfl, S⟩
          rw [h13] at S
          refine wpOp_list rfl ?_
          refine st_store rfl _ _ _ rfl _ _ ((acts_eval_tmp 8 (by kernel_rfl)).trans E8) (acts_eval_hit 0 rfl hd.1 (by rw [HSZ]; rfl) (by kernel_rfl)) _ _ (S.pull2) rfl rfl (by simp [Value.oneCell']) fun W' S' => ?_
          exact ⟨(acts_none 13 (by kernel_rfl)).symm, S'.push2⟩
        · rintro f a' W h14 hd ⟨rfl, S⟩
          refine wpOp_run (v := .bool true) rfl rfl (fun ρ hρ => ?_) ⟨(acts_some 13 rfl (by kernel_rfl) (by kernel_rfl)).symm, S⟩
          have e0 : ρ (.tmp 98) = .bool true := by rw [hρ]; exact acts_eval_hit 12 rfl hd.1 (by rw [HSZ]; rfl) (by kernel_rfl)
          clear hρ
          go_simp
      · rintro a' W ⟨rfl, S9⟩
        subst ha0
        simp only [acts, if_true, Act.put, List.setIfInBounds_toArray, List.set_cons_succ, List.set_cons_zero]
        have HS := Lib.hid S9
        clear S8 S9 HSZ E13 E0 E2 E8
        go_wp2_with fail
        refine bodyPost_ret (results_cell_t rfl _ _ _ _ _ _ rfl (HS.out.pull2).blk_at Try.underlying30 rfl (by kernel_rfl)) rfl ?_
        exact hK.out _ _ ⟨G1, hG1, rfl, HS.out.drop2.drop2⟩
end
end Go.Proofs.Ytkjeeogifdmeoaa
