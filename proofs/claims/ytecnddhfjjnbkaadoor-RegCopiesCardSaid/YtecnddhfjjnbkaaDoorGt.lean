/- reg: Get, Copy: the walks. -/
import Derived.Test.YtecnddhfjjnbkaaDoorIt
import Derived.Laws.Cover3
set_option linter.unusedSimpArgs false
set_option linter.unusedVariables false
namespace Go.Proofs.YtecnddhfjjnbkaaDoor
open Go.RowKit

section
variable {G : Gnd} {w : World} {l : List Asrt} {g : Nat} {ten quo last : Int} {F : List Ent} {L : List Int}
set_option maxHeartbeats 4000000 in
set_option maxRecDepth 100000 in
theorem rg_get_none (H : Sat G w (rgA g ten quo F L last :: l)) (hF : Rising F) (hn : F.length ≤ 10000) (id : Int) (hno : ∀ x ∈ F, x.id ≠ id) :
    Calls Tryd.prog 18 #[.pointer (some ⟨g, 0, none⟩), .int .i64 id] w fun e w' => e = .returned (.tuple #[.agg #[.int .i64 0, .int .i64 0, .int .i64 0], .int .i64 14]) ∧ Sat G w' (rgA g ten quo F L last :: l) := by
  refine calls_any fun K hK => ?_
  have S1 := H.newBlk #[.int .i64 0, .int .i64 0, .int .i64 0] 52
  have hf := rg_find S1.swap hF (by omega) id
  clear H S1
  go_enter Tryd.func18, Tryd.ntmps18
  go_wp2_with fail
  (with_reducible refine hf.mono ?_)
  clear hf
  rintro e w1 ⟨i, ok, rfl, hi, hfo, S2⟩
  cases ok with
  | true =>
    obtain ⟨x, hx, he⟩ := hfo
    exact absurd he (hno x (List.mem_of_getElem? hx))
  | false =>
    generalize w.heap.size = a at *
    have S3 := S2.swap
    clear S2 hfo hno
    have d0 := S3.cell 0
    have d1 := S3.cell 1
    have d2 := S3.cell 2
    have f0 := S3.frozen 0
    have f1 := S3.frozen 1
    have f2 := S3.frozen 2
    have HS := Lib.hid (((S3.setCell 0 (.int .i64 0)).setCell 1 (.int .i64 0)).setCell 2 (.int .i64 0))
    clear S3
    go_wp2_with fail
    refine bodyPost_ret (results_cell_t rfl _ _ _ _ _ _ rfl (HS.out).blk_at Tryd.underlying52 rfl (by kernel_rfl)) rfl ?_
    exact hK.out _ _ ⟨rfl, HS.out.drop⟩
set_option maxHeartbeats 4000000 in
set_option maxRecDepth 100000 in
theorem rg_get_some (H : Sat G w (rgA g ten quo F L last :: l)) (hF : Rising F) (hn : F.length ≤ 10000) (i : Nat) (x : Ent) (hx : F[i]? = some x) :
    Calls Tryd.prog 18 #[.pointer (some ⟨g, 0, none⟩), .int .i64 x.id] w fun e w' => e = .returned (.tuple #[.agg (eenc (absF ten x)), .int .i64 0]) ∧ Sat G w' (rgA g ten quo F L last :: l) := by
  refine calls_any fun K hK => ?_
  have S1 := H.newBlk #[.int .i64 0, .int .i64 0, .int .i64 0] 52
  have hf := rg_find S1.swap hF (by omega) x.id
  clear H S1
  go_enter Tryd.func18, Tryd.ntmps18
  go_wp2_with fail
  (with_reducible refine hf.mono ?_)
  clear hf
  rintro e w1 ⟨j, ok, rfl, hj, hfo, S2⟩
  cases ok with
  | false => exact absurd rfl (hfo x (List.mem_of_getElem? hx))
  | true =>
    obtain ⟨x', hx', he⟩ := hfo
    have hij : j = i := by
      have e1 := atE_some hF hx
      have e2 := atE_some hF hx'
      rw [he, e1] at e2
      exact (Option.some.inj e2).symm
    subst hij
    generalize w.heap.size = a at *
    obtain ⟨v, u, S3⟩ := rg_iff.1 S2
    have hjl := (List.getElem?_eq_some_iff.1 hx).1
    obtain ⟨bb, cap, cur, rfl, hcap, La, S4⟩ := (S3.swap).layOpen ent_len (by omega)
    obtain ⟨e0, e1, e2, e3, e4, e5, e6, e7, e8, hC⟩ := nine x.hC
    obtain ⟨d0, d1, d2, d3, d4, d5, d6, d7, d8, d9, d10⟩ := one_cells La S4 hx hC
    have c2 := S3.cell 2
    have hent := rg_entry (ten := ten) (g := g) S3 (fun W S => S.cell 0) x
    have hxe : x.enc = [.int .i64 x.id, .int .i64 x.n, .int .i64 e0, .int .i64 e1, .int .i64 e2, .int .i64 e3, .int .i64 e4, .int .i64 e5, .int .i64 e6, .int .i64 e7, .int .i64 e8] := by simp [Ent.enc, ints, hC]
    rw [hxe] at hent
    have hcl : F.length ≤ cap := La.len
    have hcm : cap ≤ 9223372036854775807 := hcap
    obtain ⟨N, hN⟩ : ∃ N, N = F.length := ⟨_, rfl⟩
    have hjN : j < N := by omega
    have hjN2 : (j : Int) < (N : Int) := by omega
    have HCL : Hid (∀ W, Sat G W (blk g #[.int .i64 ten, .int .i64 quo, .slice (some ⟨bb, 0, none⟩) N cap, u, .int .i64 last] 67 :: ownS 72 11 (.slice (some ⟨bb, 0, none⟩) N cap) N (encs Ent.enc F) :: ownS 3 1 u L.length (encs lenc L) :: l) → Sat G W (rgA g ten quo F L last :: l)) := Lib.hid fun W S => by
      rw [hN] at S
      exact rg_iff.2 ⟨_, _, S⟩
    rw [← hN] at hent c2 hcl
    clear S2 S3 S4 La hx hx' he hxe hC hj hjl hN
    go_wp2_with fail
    (with_reducible refine hent.mono ?_)
    clear hent d0 d1 d2 d3 d4 d5 d6 d7 d8 d9 d10 c2
    rintro e w2 ⟨rfl, S5⟩
    have S6 := S5.re [3, 0, 1, 2]
    have g0 := S6.cell 0
    have g1 := S6.cell 1
    have g2 := S6.cell 2
    have f0 := S6.frozen 0
    have f1 := S6.frozen 1
    have f2 := S6.frozen 2
    have HS := Lib.hid (((S6.setCell 0 (.int .i64 x.id)).setCell 1 (.int .i64 (ownT x.id ten))).setCell 2 (.int .i64 x.n))
    clear S5 S6
    unfold eenc absF
    go_wp2_with fail
    refine bodyPost_ret (results_cell_t rfl _ _ _ _ _ _ rfl (HS.out).blk_at Tryd.underlying52 rfl (by kernel_rfl)) rfl ?_
    exact hK.out _ _ ⟨rfl, HCL.out _ HS.out.drop⟩
theorem oslice_is_nil (A : Option Addr) (n c : Nat) (w : World) : (binOp .eql 65 (.slice A n c) (.slice none 0 0)).run Tryd.prog w = .ok (.bool A.isNone) w := by
  simp [binOp, run_equal_slice_nil w 65 72 A n c Tryd.underlying65]
theorem islice_is_nil (A : Option Addr) (n c : Nat) (w : World) : (binOp .eql 64 (.slice A n c) (.slice none 0 0)).run Tryd.prog w = .ok (.bool A.isNone) w := by
  simp [binOp, run_equal_slice_nil w 64 3 A n c Tryd.underlying64]
theorem info_in : (Tryd.prog.info? 3).map (fun i => (i.zero, i.size, i.bytes)) = some (some (.int .i64 0), 1, 8) := by kernel_rfl
theorem ent_one (F : List Ent) : (encs Ent.enc F).all (·.oneCell') = true := by
  rw [List.all_eq_true]
  intro u hu
  obtain ⟨x, -, hx⟩ := List.mem_flatMap.1 hu
  simp only [Ent.enc, List.mem_cons, ints, List.mem_map] at hx
  rcases hx with rfl | rfl | ⟨z, -, rfl⟩ <;> rfl
theorem int_one (L : List Int) : (encs lenc L).all (·.oneCell') = true := by
  rw [List.all_eq_true]
  intro u hu
  obtain ⟨x, -, hx⟩ := List.mem_flatMap.1 hu
  simp only [lenc, List.mem_cons, List.not_mem_nil, or_false] at hx
  rw [hx]; rfl
theorem own_cells {e : TypeId} {size n c : Nat} {A : Option Addr} {xs : List Value} {g o : Nat} (S : Sat G w (ownS e size (.slice (some ⟨g, o, none⟩) n c) n xs :: l)) : ∀ k u, xs[k]? = some u → w.cell? ((⟨g, o, none⟩ : Addr).add k) = some u := by
  intro k u hk
  obtain ⟨hl, ⟨e1, -⟩ | ⟨g', cap, cur, e1, hc, hm, hs, ht, H⟩⟩ := own_iff.1 S
  · cases e1
  · cases e1
    have ea : (⟨g, 0, none⟩ : Addr).add k = ⟨g, k, none⟩ := by unfold Addr.add; split <;> simp_all
    rw [ea, H.cell]
    have hlt := (List.getElem?_eq_some_iff.1 hk).1
    rw [← ht, List.getElem?_take] at hk
    split at hk
    · simpa using hk
    · cases hk
set_option maxHeartbeats 2000000 in
theorem one_clone {v : Value} {F : List Ent} (H : Sat G w (ownS 72 11 v F.length (encs Ent.enc F) :: l)) (h1 : F.length ≤ 100000) :
    Calls Tryd.prog 36 #[v] w fun e w' => ∃ A c, e = .returned (.slice A F.length c) ∧ Sat G w' (ownS 72 11 (.slice A F.length c) F.length (encs Ent.enc F) :: ownS 72 11 v F.length (encs Ent.enc F) :: l) := by
  refine calls_any fun K hK => ?_
  obtain ⟨hl, ⟨rfl, hn0, S0⟩ | ⟨b, cap, cur, rfl, hc, hm, hs, ht, S0⟩⟩ := own_iff.1 H
  · have hF : F = [] := List.eq_nil_of_length_eq_zero hn0
    subst hF
    have hnil := oslice_is_nil none 0 0 w
    have HS := Lib.hid H
    clear H S0 hl hn0
    go_enter Tryd.func36, Tryd.ntmps36
    go_wp2_with fail
    exact hK.out _ _ ⟨none, 0, rfl, HS.out.ownNil _ _⟩
  · have hnil := oslice_is_nil (some ⟨b, 0, none⟩) F.length cap w
    have S1 := (H.newBlk #[] 72).ownBlk (size := 11) 0 rfl (Nat.zero_le _)
    have hw : Hid (∀ j u, (encs Ent.enc F)[j]? = some u → (w.alloc (.cells #[] 72)).cell? ((⟨b, 0, none⟩ : Addr).add j) = some u) := Lib.hid fun j u hj => own_cells (A := none) S1.swap j u hj
    have HL1 : Hid ((encs Ent.enc F).length = F.length * 11) := Lib.hid hl
    have HL3 := Lib.hid (ent_one F)
    obtain ⟨N, hN⟩ : ∃ N, N = F.length := ⟨_, rfl⟩
    rw [← hN] at hK HL1 S1 h1 hnil hc ⊢
    generalize encs Ent.enc F = E at *
    clear H hl hs ht S0 hN
    go_enter Tryd.func36, Tryd.ntmps36
    go_wp2_with (at_builtin; refine st_append rfl _ _ 65 rfl 72 (.agg #[.int .i64 0, .int .i64 0, .int .i64 0, .int .i64 0, .int .i64 0, .int .i64 0, .int .i64 0, .int .i64 0, .int .i64 0, .int .i64 0, .int .i64 0]) 11 88 Tryd.underlying65 info_one rfl (by omega) _ 0 [] rfl S1 ⟨b, 0, none⟩ N cap E rfl HL1.out hw.out HL3.out (Nat.le_trans (show 0 + N ≤ 100000 by omega) (by decide)) (by omega) ?_; intro v' w' S')
    have S2 : Sat G w' (ownS 72 11 v' N E :: ownS 72 11 (.slice (some ⟨b, 0, none⟩) N cap) N E :: l) := by simpa using S'
    obtain ⟨A, c', rfl, -⟩ := S2.ownSlice
    exact hK.out _ _ ⟨A, c', rfl, S2⟩
set_option maxHeartbeats 2000000 in
theorem int_clone {v : Value} {F : List Int} (H : Sat G w (ownS 3 1 v F.length (encs lenc F) :: l)) (h1 : F.length ≤ 100000) :
    Calls Tryd.prog 37 #[v] w fun e w' => ∃ A c, e = .returned (.slice A F.length c) ∧ Sat G w' (ownS 3 1 (.slice A F.length c) F.length (encs lenc F) :: ownS 3 1 v F.length (encs lenc F) :: l) := by
  refine calls_any fun K hK => ?_
  obtain ⟨hl, ⟨rfl, hn0, S0⟩ | ⟨b, cap, cur, rfl, hc, hm, hs, ht, S0⟩⟩ := own_iff.1 H
  · have hF : F = [] := List.eq_nil_of_length_eq_zero hn0
    subst hF
    have hnil := islice_is_nil none 0 0 w
    have HS := Lib.hid H
    clear H S0 hl hn0
    go_enter Tryd.func37, Tryd.ntmps37
    go_wp2_with fail
    exact hK.out _ _ ⟨none, 0, rfl, HS.out.ownNil _ _⟩
  · have hnil := islice_is_nil (some ⟨b, 0, none⟩) F.length cap w
    have S1 := (H.newBlk #[] 3).ownBlk (size := 1) 0 rfl (Nat.zero_le _)
    have hw : Hid (∀ j u, (encs lenc F)[j]? = some u → (w.alloc (.cells #[] 3)).cell? ((⟨b, 0, none⟩ : Addr).add j) = some u) := Lib.hid fun j u hj => own_cells (A := none) S1.swap j u hj
    have HL1 : Hid ((encs lenc F).length = F.length * 1) := Lib.hid hl
    have HL3 := Lib.hid (int_one F)
    obtain ⟨N, hN⟩ : ∃ N, N = F.length := ⟨_, rfl⟩
    rw [← hN] at hK HL1 S1 h1 hnil hc ⊢
    generalize encs lenc F = E at *
    clear H hl hs ht S0 hN
    go_enter Tryd.func37, Tryd.ntmps37
    go_wp2_with (at_builtin; refine st_append rfl _ _ 64 rfl 3 (.int .i64 0) 1 8 Tryd.underlying64 info_in rfl (by omega) _ 0 [] rfl S1 ⟨b, 0, none⟩ N cap E rfl HL1.out hw.out HL3.out (Nat.le_trans (show 0 + N ≤ 100000 by omega) (by decide)) (by omega) ?_; intro v' w' S')
    have S2 : Sat G w' (ownS 3 1 v' N E :: ownS 3 1 (.slice (some ⟨b, 0, none⟩) N cap) N E :: l) := by simpa using S'
    obtain ⟨A, c', rfl, -⟩ := S2.ownSlice
    exact hK.out _ _ ⟨A, c', rfl, S2⟩
def HCg (f : Nat → Bool) : Prop := (f 11 = true → f 4 = true) ∧ (f 13 = true → f 9 = true)
set_option maxHeartbeats 8000000 in
set_option maxRecDepth 100000 in
theorem rg_copy (H : Sat G w (rgA g ten quo F L last :: l)) (hf : F.length ≤ 10000) (hL : L.length ≤ 10000) : Calls Tryd.prog 20 #[.pointer (some ⟨g, 0, none⟩)] w fun e w' => ∃ q, e = .returned (.pointer (some ⟨q, 0, none⟩)) ∧ Sat G w' (rgA q ten quo F L last :: rgA g ten quo F L last :: l) := by
  refine calls_any fun K hK => ?_
  obtain ⟨v, u, S1⟩ := rg_iff.1 H
  clear H
  obtain ⟨A, c, rfl, hnc, hcm, -⟩ := S1.swap.ownSlice
  obtain ⟨B, c', rfl, hnc', hcm', -⟩ := (S1.re [2, 0, 1]).ownSlice
  have HO := fun (W : World) (l : List Asrt) (S : Sat G W (ownS 72 11 (.slice A F.length c) F.length (encs Ent.enc F) :: l)) => one_clone S (by omega)
  have HI := fun (W : World) (l : List Asrt) (S : Sat G W (ownS 3 1 (.slice B L.length c') L.length (encs lenc L) :: l)) => int_clone S (by omega)
  have HCL : Hid (∀ (W : World) (q : Nat) (A1 A2 : Option Addr) (c1 c2 : Nat), Sat G W (ownS 72 11 (.slice A1 F.length c1) F.length (encs Ent.enc F) :: ownS 3 1 (.slice A2 L.length c2) L.length (encs lenc L) :: blk q #[.int .i64 ten, .int .i64 quo, .slice A1 F.length c1, .slice A2 L.length c2, .int .i64 last] 67 :: blk g #[.int .i64 ten, .int .i64 quo, .slice A F.length c, .slice B L.length c', .int .i64 last] 67 :: ownS 72 11 (.slice A F.length c) F.length (encs Ent.enc F) :: ownS 3 1 (.slice B L.length c') L.length (encs lenc L) :: l) → Sat G W (rgA q ten quo F L last :: rgA g ten quo F L last :: l)) := Lib.hid fun W q A1 A2 c1 c2 S => by
    have S2 : Sat G W (rgA q ten quo F L last :: blk g #[.int .i64 ten, .int .i64 quo, .slice A F.length c, .slice B L.length c', .int .i64 last] 67 :: ownS 72 11 (.slice A F.length c) F.length (encs Ent.enc F) :: ownS 3 1 (.slice B L.length c') L.length (encs lenc L) :: l) := rg_iff.2 ⟨_, _, S.re [2, 0, 1]⟩
    have S3 : Sat G W (rgA g ten quo F L last :: rgA q ten quo F L last :: l) := rg_iff.2 ⟨_, _, S2.re [1, 2, 3, 0]⟩
    exact S3.swap
  have HO := Lib.hid HO
  have HI := Lib.hid HI
  generalize encs Ent.enc F = E at *
  generalize encs lenc L = D at *
  generalize F.length = N at *
  generalize L.length = M at *
  have c0 := S1.cell 0
  have c1 := S1.cell 1
  have c2 := S1.cell 2
  have c3 := S1.cell 3
  have c4 := S1.cell 4
  have S2 := S1.newBlk #[.int .i64 ten, .int .i64 quo, .slice A N c, .slice B M c', .int .i64 last] 67
  clear hnc hnc' hcm hcm' S1
  go_enter Tryd.func20, Tryd.ntmps20
  go_upto_region 2 with fail
  generalize w.heap.size = q at *
  refine wp_world S2 fun W2 S3 => ?_
  clear S2 c0 c1 c2 c3 c4
  refine wp_act fun a0 ha0 => ?_
  have HSZ : a0.tmps.size = 19 := by rw [ha0]; rfl
  have E0 : a0.eval (.tmp 0) = .pointer (some ⟨g, 0, none⟩) := by rw [ha0]; rfl
  have E3 : a0.eval (.tmp 3) = .pointer (some ⟨q, 0, none⟩) := by rw [ha0]; rfl
  refine wp_region_J (by kernel_rfl) 14 (by kernel_rfl) [[], [0], [1], [2], [3], [], [5], [6], [7], [8, 4], [0, 1, 2, 3, 4, 8, 9], [10, 4, 9, 0, 1, 2, 3, 4, 8, 9], [0, 1, 2, 3, 4, 5, 6, 7, 8, 9, 10, 11], [12, 9, 11, 0, 1, 2, 3, 4, 5, 6, 7, 8, 9, 10, 11]] (by kernel_rfl) (by kernel_rfl) (fun f a' W => ∃ A1 c1 A2 c2, HCg f ∧ a' = acts [(0, 7, .pointer (some ⟨g, 0, none⟩)), (1, 8, .pointer (some ⟨g, 0, none⟩)), (2, 9, .pointer (some ⟨g, 2, none⟩)), (3, 10, .slice A N c), (4, 11, .slice A1 N c1), (5, 12, .pointer (some ⟨g, 0, none⟩)), (6, 13, .pointer (some ⟨g, 0, none⟩)), (7, 14, .pointer (some ⟨g, 3, none⟩)), (8, 15, .slice B M c'), (9, 16, .slice A2 M c2), (10, 17, .pointer (some ⟨q, 2, none⟩)), (12, 18, .pointer (some ⟨q, 3, none⟩))] f a0 ∧ Sat G W (opt (f 4) (ownS 72 11 (.slice A1 N c1) N E) :: opt (f 9) (ownS 3 1 (.slice A2 M c2) M D) :: blk q #[.int .i64 ten, .int .i64 quo, cond (f 11) (.slice A1 N c1) (.slice A N c), cond (f 13) (.slice A2 M c2) (.slice B M c'), .int .i64 last] 67 :: blk g #[.int .i64 ten, .int .i64 quo, .slice A N c, .slice B M c', .int .i64 last] 67 :: ownS 72 11 (.slice A N c) N E :: ownS 3 1 (.slice B M c') M D :: l)) ?_ ?_ ?_
  · exact ⟨none, 0, none, 0, (by unfold HCg; decide), rfl, S3.drew.opt0.opt0⟩
  · refine ⟨?_, ?_, ?_, ?_, ?_, ?_, ?_, ?_, ?_, ?_, ?_, ?_, ?_, ?_, trivial⟩
    · rintro f a' W h0 hd ⟨A1, c1, A2, c2, hh, rfl, S⟩
      refine wpOp_run (v := .pointer (some ⟨g, 0, none⟩)) rfl rfl (fun ρ hρ => ?_) ⟨A1, c1, A2, c2, hh, (acts_some 0 rfl (by kernel_rfl) (by kernel_rfl)).symm, S⟩
      have e0 : ρ (.tmp 0) = .pointer (some ⟨g, 0, none⟩) := by rw [hρ]; exact (acts_eval_tmp 0 (by kernel_rfl)).trans E0
      clear hρ
      go_simp
    · rintro f a' W h1 hd ⟨A1, c1, A2, c2, hh, rfl, S⟩
      refine wpOp_run (v := .pointer (some ⟨g, 0, none⟩)) rfl rfl (fun ρ hρ => ?_) ⟨A1, c1, A2, c2, hh, (acts_some 1 rfl (by kernel_rfl) (by kernel_rfl)).symm, S⟩
      have e0 : ρ (.tmp 7) = .pointer (some ⟨g, 0, none⟩) := by rw [hρ]; exact acts_eval_hit 0 rfl hd.1 (by rw [HSZ]; rfl) (by kernel_rfl)
      clear hρ
      go_simp
    · rintro f a' W h2 hd ⟨A1, c1, A2, c2, hh, rfl, S⟩
      refine wpOp_run (v := .pointer (some ⟨g, 2, none⟩)) rfl rfl (fun ρ hρ => ?_) ⟨A1, c1, A2, c2, hh, (acts_some 2 rfl (by kernel_rfl) (by kernel_rfl)).symm, S⟩
      have e0 : ρ (.tmp 8) = .pointer (some ⟨g, 0, none⟩) := by rw [hρ]; exact acts_eval_hit 1 rfl hd.1 (by rw [HSZ]; rfl) (by kernel_rfl)
      clear hρ
      go_simp
    · rintro f a' W h3 hd ⟨A1, c1, A2, c2, hh, rfl, S⟩
      refine wpOp_run (v := .slice A N c) rfl rfl (fun ρ hρ => ?_) ⟨A1, c1, A2, c2, hh, (acts_some 3 rfl (by kernel_rfl) (by kernel_rfl)).symm, S⟩
      have e0 : ρ (.tmp 9) = .pointer (some ⟨g, 2, none⟩) := by rw [hρ]; exact acts_eval_hit 2 rfl hd.1 (by rw [HSZ]; rfl) (by kernel_rfl)
      clear hρ
      (have z : W.cell? ⟨g, 2, none⟩ = some (.slice A N c) := S.pull3.cell 2)
      go_simp
    · rintro f a' W h4 hd ⟨A1, c1, A2, c2, hh, rfl, S⟩
      refine wpOp_call rfl rfl (fun ρ hρ => ?_) ((HO.out W _ (S.re [4, 0, 1, 2, 3]))) ?_
      · skip
        have e0 : ρ (.tmp 10) = .slice A N c := by rw [hρ]; exact acts_eval_hit 3 rfl hd.1 (by rw [HSZ]; rfl) (by kernel_rfl)
        have ef : ρ (.func 36) = .func (.func 36) #[] #[] := by rw [hρ]; rfl
        clear hρ
        go_simp
      · (rintro e W' ⟨A3, c3, rfl, S'⟩; have z11 := no_of hh.1 h4; refine ⟨_, rfl, A3, c3, A2, c2, ⟨fun _ => rfl, hh.2⟩, acts_swap (by simp only [acts, h4, Bool.false_eq_true, if_false]) (k := 4) rfl (by kernel_rfl) (by kernel_rfl), ?_⟩; have T := (S'.re [2, 0, 3, 4, 5, 1, 6]).drop; rw [z11] at T; show Sat G W' (opt true _ :: opt (f 9) _ :: blk q #[.int .i64 ten, .int .i64 quo, cond (f 11) _ _, _, .int .i64 last] _ :: _); rw [z11]; exact opt_iff.2 T)
    · rintro f a' W h5 hd ⟨A1, c1, A2, c2, hh, rfl, S⟩
      refine wpOp_run (v := .pointer (some ⟨g, 0, none⟩)) rfl rfl (fun ρ hρ => ?_) ⟨A1, c1, A2, c2, hh, (acts_some 5 rfl (by kernel_rfl) (by kernel_rfl)).symm, S⟩
      have e0 : ρ (.tmp 0) = .pointer (some ⟨g, 0, none⟩) := by rw [hρ]; exact (acts_eval_tmp 0 (by kernel_rfl)).trans E0
      clear hρ
      go_simp
    · rintro f a' W h6 hd ⟨A1, c1, A2, c2, hh, rfl, S⟩
      refine wpOp_run (v := .pointer (some ⟨g, 0, none⟩)) rfl rfl (fun ρ hρ => ?_) ⟨A1, c1, A2, c2, hh, (acts_some 6 rfl (by kernel_rfl) (by kernel_rfl)).symm, S⟩
      have e0 : ρ (.tmp 12) = .pointer (some ⟨g, 0, none⟩) := by rw [hρ]; exact acts_eval_hit 5 rfl hd.1 (by rw [HSZ]; rfl) (by kernel_rfl)
      clear hρ
      go_simp
    · rintro f a' W h7 hd ⟨A1, c1, A2, c2, hh, rfl, S⟩
      refine wpOp_run (v := .pointer (some ⟨g, 3, none⟩)) rfl rfl (fun ρ hρ => ?_) ⟨A1, c1, A2, c2, hh, (acts_some 7 rfl (by kernel_rfl) (by kernel_rfl)).symm, S⟩
      have e0 : ρ (.tmp 13) = .pointer (some ⟨g, 0, none⟩) := by rw [hρ]; exact acts_eval_hit 6 rfl hd.1 (by rw [HSZ]; rfl) (by kernel_rfl)
      clear hρ
      go_simp
    · rintro f a' W h8 hd ⟨A1, c1, A2, c2, hh, rfl, S⟩
      refine wpOp_run (v := .slice B M c') rfl rfl (fun ρ hρ => ?_) ⟨A1, c1, A2, c2, hh, (acts_some 8 rfl (by kernel_rfl) (by kernel_rfl)).symm, S⟩
      have e0 : ρ (.tmp 14) = .pointer (some ⟨g, 3, none⟩) := by rw [hρ]; exact acts_eval_hit 7 rfl hd.1 (by rw [HSZ]; rfl) (by kernel_rfl)
      clear hρ
      (have z : W.cell? ⟨g, 3, none⟩ = some (.slice B M c') := S.pull3.cell 3)
      go_simp
    · rintro f a' W h9 hd ⟨A1, c1, A2, c2, hh, rfl, S⟩
      refine wpOp_call rfl rfl (fun ρ hρ => ?_) ((HI.out W _ (S.re [5, 0, 1, 2, 3, 4]))) ?_
      · skip
        have e0 : ρ (.tmp 15) = .slice B M c' := by rw [hρ]; exact acts_eval_hit 8 rfl hd.1 (by rw [HSZ]; rfl) (by kernel_rfl)
        have ef : ρ (.func 37) = .func (.func 37) #[] #[] := by rw [hρ]; rfl
        clear hρ
        go_simp
      · (rintro e W' ⟨A3, c3, rfl, S'⟩; have z13 := no_of hh.2 h9; refine ⟨_, rfl, A1, c1, A3, c3, ⟨hh.1, fun _ => rfl⟩, acts_swap (by simp only [acts, h9, Bool.false_eq_true, if_false]) (k := 9) rfl (by kernel_rfl) (by kernel_rfl), ?_⟩; have T := (S'.re [3, 0, 2, 4, 5, 6, 1]).drop; rw [z13] at T; show Sat G W' (opt (f 4) _ :: opt true _ :: blk q #[.int .i64 ten, .int .i64 quo, _, cond (f 13) _ _, .int .i64 last] _ :: _); rw [z13]; exact (opt_iff.2 T).swap)
    · rintro f a' W h10 hd ⟨A1, c1, A2, c2, hh, rfl, S⟩
      refine wpOp_run (v := .pointer (some ⟨q, 2, none⟩)) rfl rfl (fun ρ hρ => ?_) ⟨A1, c1, A2, c2, hh, (acts_some 10 rfl (by kernel_rfl) (by kernel_rfl)).symm, S⟩
      have e0 : ρ (.tmp 3) = .pointer (some ⟨q, 0, none⟩) := by rw [hρ]; exact (acts_eval_tmp 3 (by kernel_rfl)).trans E3
      clear hρ
      go_simp
    · rintro f a' W h11 hd ⟨A1, c1, A2, c2, hh, rfl, S⟩
      have q17 : (acts [(0, 7, .pointer (some ⟨g, 0, none⟩)), (1, 8, .pointer (some ⟨g, 0, none⟩)), (2, 9, .pointer (some ⟨g, 2, none⟩)), (3, 10, .slice A N c), (4, 11, .slice A1 N c1), (5, 12, .pointer (some ⟨g, 0, none⟩)), (6, 13, .pointer (some ⟨g, 0, none⟩)), (7, 14, .pointer (some ⟨g, 3, none⟩)), (8, 15, .slice B M c'), (9, 16, .slice A2 M c2), (10, 17, .pointer (some ⟨q, 2, none⟩)), (12, 18, .pointer (some ⟨q, 3, none⟩))] f a0).eval (.tmp 17) = .pointer (some ⟨q, 2, none⟩) := acts_eval_hit 10 rfl hd.1 (by rw [HSZ]; rfl) (by kernel_rfl)
      have q11 : (acts [(0, 7, .pointer (some ⟨g, 0, none⟩)), (1, 8, .pointer (some ⟨g, 0, none⟩)), (2, 9, .pointer (some ⟨g, 2, none⟩)), (3, 10, .slice A N c), (4, 11, .slice A1 N c1), (5, 12, .pointer (some ⟨g, 0, none⟩)), (6, 13, .pointer (some ⟨g, 0, none⟩)), (7, 14, .pointer (some ⟨g, 3, none⟩)), (8, 15, .slice B M c'), (9, 16, .slice A2 M c2), (10, 17, .pointer (some ⟨q, 2, none⟩)), (12, 18, .pointer (some ⟨q, 3, none⟩))] f a0).eval (.tmp 11) = .slice A1 N c1 := acts_eval_hit 4 rfl hd.2.1 (by rw [HSZ]; rfl) (by kernel_rfl)
      (rw [h11] at S; refine wpOp_list rfl ?_; refine st_set rfl _ _ _ rfl _ _ _ q17 q11 rfl _ _ S.pull2 (by kernel_rfl) (by simp) fun W' S' => ?_; exact ⟨A1, c1, A2, c2, ⟨fun _ => hd.2.1, hh.2⟩, (acts_none 11 (by kernel_rfl)).symm, S'.push2⟩)
    · rintro f a' W h12 hd ⟨A1, c1, A2, c2, hh, rfl, S⟩
      refine wpOp_run (v := .pointer (some ⟨q, 3, none⟩)) rfl rfl (fun ρ hρ => ?_) ⟨A1, c1, A2, c2, hh, (acts_some 11 rfl (by kernel_rfl) (by kernel_rfl)).symm, S⟩
      have e0 : ρ (.tmp 3) = .pointer (some ⟨q, 0, none⟩) := by rw [hρ]; exact (acts_eval_tmp 3 (by kernel_rfl)).trans E3
      clear hρ
      go_simp
    · rintro f a' W h13 hd ⟨A1, c1, A2, c2, hh, rfl, S⟩
      have q18 : (acts [(0, 7, .pointer (some ⟨g, 0, none⟩)), (1, 8, .pointer (some ⟨g, 0, none⟩)), (2, 9, .pointer (some ⟨g, 2, none⟩)), (3, 10, .slice A N c), (4, 11, .slice A1 N c1), (5, 12, .pointer (some ⟨g, 0, none⟩)), (6, 13, .pointer (some ⟨g, 0, none⟩)), (7, 14, .pointer (some ⟨g, 3, none⟩)), (8, 15, .slice B M c'), (9, 16, .slice A2 M c2), (10, 17, .pointer (some ⟨q, 2, none⟩)), (12, 18, .pointer (some ⟨q, 3, none⟩))] f a0).eval (.tmp 18) = .pointer (some ⟨q, 3, none⟩) := acts_eval_hit 11 rfl hd.1 (by rw [HSZ]; rfl) (by kernel_rfl)
      have q16 : (acts [(0, 7, .pointer (some ⟨g, 0, none⟩)), (1, 8, .pointer (some ⟨g, 0, none⟩)), (2, 9, .pointer (some ⟨g, 2, none⟩)), (3, 10, .slice A N c), (4, 11, .slice A1 N c1), (5, 12, .pointer (some ⟨g, 0, none⟩)), (6, 13, .pointer (some ⟨g, 0, none⟩)), (7, 14, .pointer (some ⟨g, 3, none⟩)), (8, 15, .slice B M c'), (9, 16, .slice A2 M c2), (10, 17, .pointer (some ⟨q, 2, none⟩)), (12, 18, .pointer (some ⟨q, 3, none⟩))] f a0).eval (.tmp 16) = .slice A2 M c2 := acts_eval_hit 9 rfl hd.2.1 (by rw [HSZ]; rfl) (by kernel_rfl)
      (rw [h13] at S; refine wpOp_list rfl ?_; refine st_set rfl _ _ _ rfl _ _ _ q18 q16 rfl _ _ S.pull2 (by kernel_rfl) (by simp) fun W' S' => ?_; exact ⟨A1, c1, A2, c2, ⟨hh.1, fun _ => hd.2.1⟩, (acts_none 13 (by kernel_rfl)).symm, S'.push2⟩)
  · rintro a' W ⟨A1, c1, A2, c2, -, rfl, S4⟩
    subst ha0
    simp only [acts, if_true, Act.put, List.setIfInBounds_toArray, List.set_cons_succ, List.set_cons_zero]
    have S5 := HCL.out W q A1 A2 c1 c2 ((opt_iff.1 ((opt_iff.1 S4).swap)).swap)
    have HS := Lib.hid S5
    clear S4 S5 HCL HO HI S3 HSZ E0 E3
    go_wp2_with fail
    exact hK.out _ _ ⟨q, rfl, HS.out⟩
end
end Go.Proofs.YtecnddhfjjnbkaaDoor
