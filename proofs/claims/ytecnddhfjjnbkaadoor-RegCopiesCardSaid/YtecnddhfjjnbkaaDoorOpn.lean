/- reg: New and Open, walked. -/
import Derived.Test.YtecnddhfjjnbkaaDoorReg
import Derived.Test.YtecnddhfjjnbkaaDoorOpt
import Derived.Deep.Cut
set_option linter.unusedSimpArgs false
set_option linter.unusedVariables false
namespace Go.Proofs.YtecnddhfjjnbkaaDoor
open Go.RowKit

theorem no_of {f : Nat → Bool} {i j : Nat} (h : f i = true → f j = true) (hj : f j = false) : f i = false := by
  cases hx : f i with
  | false => rfl
  | true => rw [h hx] at hj; cases hj
theorem info_one : (Tryd.prog.info? 72).map (fun i => (i.zero, i.size, i.bytes)) = some (some (.agg #[.int .i64 0, .int .i64 0, .int .i64 0, .int .i64 0, .int .i64 0, .int .i64 0, .int .i64 0, .int .i64 0, .int .i64 0, .int .i64 0, .int .i64 0]), 11, 88) := by kernel_rfl
theorem info_int : (Tryd.prog.info? 3).map (fun i => (i.zero, i.size, i.bytes)) = some (some (.int .i64 0), 1, 8) := by kernel_rfl
/-- A stream that was opened. -/
def newE (id : Int) : Ent := ⟨id, 1, [1, 0, 0, 0, 0, 0, 0, 0, 0], rfl⟩
def rRight (ten quo : Int) : Bool := decide (1 ≤ ten ∧ ten ≤ 64 ∧ 1 ≤ quo ∧ quo ≤ 65536)
/-- What a registry may hold. -/
structure RWf (ten quo : Int) (F : List Ent) (L : List Int) (last : Int) : Prop where
  t0 : 1 ≤ ten
  t1 : ten ≤ 64
  q0 : 1 ≤ quo
  q1 : quo ≤ 65536
  len : (L.length : Int) = ten
  few : F.length ≤ 10000
  lo : ∀ x ∈ L, -10000 ≤ x ∧ x ≤ 1000000
  last0 : 0 ≤ last
structure OpnRes where
  F : List Ent
  L : List Int
  last : Int
  id : Int
  err : Int
def rOpen (ten quo : Int) (F : List Ent) (L : List Int) (last tick : Int) : OpnRes :=
  if idOf tick = 0 then ⟨F, L, last, 0, 11⟩
  else if idOf tick ≤ last then ⟨F, L, last, 0, 25⟩
  else if quo ≤ liveAt L (ownT (idOf tick) ten) then ⟨F, L, last, 0, 33⟩
  else ⟨F ++ [newE (idOf tick)], L.set (ownT (idOf tick) ten).toNat (liveAt L (ownT (idOf tick) ten) + 1), idOf tick, idOf tick, 0⟩
section
variable {G : Gnd} {w w' : World} {l : List Asrt} {g : Nat} {ten quo last : Int} {F : List Ent} {L : List Int}
theorem rg_new_not (t q : Int) (h : rRight t q = false) (w : World) : Calls Tryd.prog 11 #[.int .i64 t, .int .i64 q] w fun e w' => e = .returned (.tuple #[.pointer none, .int .i64 11]) ∧ w = w' := by
  refine calls_any fun K hK => ?_
  have h := of_decide_eq_false h
  have hs := rg_some t w
  by_cases a1 : 1 ≤ t ∧ t ≤ 64
  · rw [decide_eq_true a1] at hs
    by_cases a2 : q < 1
    · go_enter Tryd.func11, Tryd.ntmps11
      go_wp2_with fail
      (with_reducible refine hs.mono ?_)
      rintro e w1 ⟨rfl, rfl⟩
      go_wp2_with fail
      exact hK.out _ _ ⟨rfl, rfl⟩
    · have a3 : 65536 < q := by omega
      go_enter Tryd.func11, Tryd.ntmps11
      go_wp2_with fail
      (with_reducible refine hs.mono ?_)
      rintro e w1 ⟨rfl, rfl⟩
      go_wp2_with fail
      exact hK.out _ _ ⟨rfl, rfl⟩
  · rw [decide_eq_false a1] at hs
    go_enter Tryd.func11, Tryd.ntmps11
    go_wp2_with fail
    (with_reducible refine hs.mono ?_)
    rintro e w1 ⟨rfl, rfl⟩
    go_wp2_with fail
    exact hK.out _ _ ⟨rfl, rfl⟩
set_option maxHeartbeats 1000000 in
theorem rg_new (H : Sat G w l) (t : Nat) (q : Int) (h : rRight t q = true) : Calls Tryd.prog 11 #[.int .i64 t, .int .i64 q] w fun e w' => ∃ g, e = .returned (.tuple #[.pointer (some ⟨g, 0, none⟩), .int .i64 0]) ∧ Sat G w' (rgA g t q [] (List.replicate t 0) 0 :: l) := by
  refine calls_any fun K hK => ?_
  obtain ⟨a1, a2, a3, a4⟩ := of_decide_eq_true h
  clear h
  have hs := rg_some t w
  rw [decide_eq_true ⟨a1, a2⟩] at hs
  have hmk := run_make_any (P := Tryd.prog) 64 3 (.int .i64 0) 1 8 Tryd.underlying64 info_int t (by omega) (by omega)
  have S1 := H.newBlk (madeCells #[.int .i64 0] t) 3
  have hme := made_encs lenc_len (by decide) (0 : Int) #[.int .i64 0] rfl t
  rw [Nat.mul_one] at hme
  have S2 := (S1.ownBlk (size := 1) t (by simp [madeCells]) (Nat.le_trans (show t ≤ 64 by omega) (by decide))).newBlk #[.int .i64 t, .int .i64 q, .slice none 0 0, .slice (some ⟨w.heap.size, 0, none⟩) t t, .int .i64 0] 67
  rw [hme] at S2
  simp only [World.size_alloc] at S2
  have HS : Hid (Sat G _ (rgA _ t q [] (List.replicate t 0) 0 :: l)) := Lib.hid (rg_iff.2 ⟨.slice none 0 0, .slice (some ⟨w.heap.size, 0, none⟩) t t, by
    rw [List.length_replicate]
    exact (S2.swap.ownNil 72 11).re [2, 0, 1]⟩)
  clear S1 S2 hme
  go_enter Tryd.func11, Tryd.ntmps11
  go_wp2_with fail
  (with_reducible refine hs.mono ?_)
  rintro e w1 ⟨rfl, rfl⟩
  go_wp2_with fail
  exact hK.out _ _ ⟨_, rfl, HS.out⟩
def HNo (f : Nat → Bool) : Prop := (f 7 = true → f 6 = true) ∧ (f 7 = true → f 4 = true) ∧ (f 10 = true → f 7 = true)
theorem rg_open_early (H : Sat G w (rgA g ten quo F L last :: l)) (tick : Int) (h : idOf tick = 0 ∨ idOf tick ≤ last) (hl0 : 0 ≤ last) : Calls Tryd.prog 12 #[.pointer (some ⟨g, 0, none⟩), .int .i64 tick] w fun e w' => e = .returned (.tuple #[.int .i64 (rOpen ten quo F L last tick).id, .int .i64 (rOpen ten quo F L last tick).err]) ∧ w = w' := by
  refine calls_any fun K hK => ?_
  have hid := rg_id tick w
  unfold rOpen at hK
  generalize idOf tick = id at *
  obtain ⟨v, u, S⟩ := rg_iff.1 H
  have c4 := S.cell 4
  clear H S
  by_cases h0 : id = 0
  · rw [if_pos h0] at hK
    subst h0
    clear h
    go_enter Tryd.func12, Tryd.ntmps12
    go_wp2_with fail
    (with_reducible refine hid.mono ?_)
    rintro e w1 ⟨rfl, rfl⟩
    go_wp2_with fail
    exact hK.out _ _ ⟨rfl, rfl⟩
  · have h1 : id ≤ last := by omega
    rw [if_neg h0, if_pos h1] at hK
    have h0b : (id == 0) = false := beq_eq_false_iff_ne.2 h0
    clear h
    go_enter Tryd.func12, Tryd.ntmps12
    go_wp2_with fail
    (with_reducible refine hid.mono ?_)
    rintro e w1 ⟨rfl, rfl⟩
    go_wp2_with fail
    exact hK.out _ _ ⟨rfl, rfl⟩
set_option maxHeartbeats 8000000 in
set_option maxRecDepth 100000 in
theorem rg_open_full (H : Sat G w (rgA g ten quo F L last :: l)) (hw : RWf ten quo F L last) (ht : TabG G) (tick : Int) (h0 : ¬ idOf tick = 0) (h1 : ¬ idOf tick ≤ last) (h2 : quo ≤ liveAt L (ownT (idOf tick) ten)) : Calls Tryd.prog 12 #[.pointer (some ⟨g, 0, none⟩), .int .i64 tick] w fun e w' => e = .returned (.tuple #[.int .i64 (rOpen ten quo F L last tick).id, .int .i64 (rOpen ten quo F L last tick).err]) ∧ Sat G w' (rgA g ten quo (rOpen ten quo F L last tick).F (rOpen ten quo F L last tick).L (rOpen ten quo F L last tick).last :: l) := by
  refine calls_any fun K hK => ?_
  have hid := rg_id tick w
  have HID := Lib.hid (show idOf tick = 2 * tick + 1 ∧ 0 ≤ tick ∧ tick ≤ 1073741823 by unfold idOf at h0 ⊢; split at h0 <;> simp_all)
  unfold rOpen at hK
  rw [if_neg h0, if_neg h1, if_pos h2] at hK
  generalize idOf tick = id at *
  have HFW := Lib.hid hw.few
  have HLAST := Lib.hid hw.last0
  have h0b : (id == 0) = false := beq_eq_false_iff_ne.2 h0
  have hlt : ¬ id ≤ last := h1
  have htn := hw.t0
  have hlen := hw.len
  obtain ⟨T, hT⟩ : ∃ T : Nat, ownT id ten = T := ⟨(ownT id ten).toNat, by
    have : 0 ≤ ownT id ten := by
      unfold ownT
      split
      · exact Int.emod_nonneg _ (by omega)
      · omega
    omega⟩
  have hTl : T < L.length := by
    have : ownT id ten < ten := by
      unfold ownT
      split
      · exact Int.emod_lt_of_pos _ (by omega)
      · omega
    omega
  obtain ⟨x, hx⟩ : ∃ x, L[T]? = some x := ⟨_, List.getElem?_eq_getElem hTl⟩
  have hla : liveAt L (ownT id ten) = x := by
    unfold liveAt
    rw [hT, if_pos (by omega), List.getD_eq_getElem?_getD, show (T : Int).toNat = T by omega, hx]; rfl
  rw [hla] at h2
  try rw [hla] at hK
  have hxb := hw.lo x (List.mem_of_getElem? hx)
  obtain ⟨v, u, S⟩ := rg_iff.1 H
  obtain ⟨b, cap, cur, rfl, hcap, La, S2⟩ := (S.re [2, 0, 1]).layOpen lenc_len (by omega)
  have HCX := Lib.hid (La.get hx (j := 0) (by decide))
  simp only [Nat.mul_one, Nat.add_zero, lenc, List.getElem?_cons_zero] at HCX
  have hTc := La.room hTl
  have HLA := Lib.hid La
  have HCP := Lib.hid hcap
  have HTC : Hid (T < cur.size) := Lib.hid (by omega)
  have c4 := S2.swap.cell 4
  obtain ⟨N, hN⟩ : ∃ N, N = L.length := ⟨_, rfl⟩
  rw [← hN] at S2 c4
  have a4 : (T : Int) < (N : Int) := by omega
  have a5 : T < N := by omega
  have HN := Lib.hid hN
  have HOT := Lib.hid hT
  have HX := Lib.hid hx
  have HTL := Lib.hid hTl
  have HTAB := Lib.hid ht
  replace S2 := S2.re [1, 0, 2]
  clear H S La hcap hTc hN hT hx hw hlen hla hTl ht h0 h1
  obtain ⟨hx0, hx1⟩ := hxb
  go_enter Tryd.func12, Tryd.ntmps12
  go_wp2_with fail
  (with_reducible refine hid.mono ?_)
  rintro e w1 ⟨rfl, rfl⟩
  go_upto_region 6 with fail
  clear hid c4
  have hge : decide (x ≥ quo) = true := decide_eq_true (by omega)
  refine wp_act fun a0 ha0 => ?_
  have HSZ : a0.tmps.size = 65 := by rw [ha0]; rfl
  have E0 : a0.eval (.tmp 0) = .pointer (some ⟨g, 0, none⟩) := by rw [ha0]; rfl
  have E6 : a0.eval (.tmp 6) = .int .i64 id := by rw [ha0]; rfl
  refine wp_region_J (by kernel_rfl) 15 (by kernel_rfl) [[], [0], [1], [2], [], [], [4, 5], [3, 6], [7], [], [9], [10], [11], [8, 12], [13, 6]] (by kernel_rfl) (by kernel_rfl) (fun f a' W => a' = acts [(0, 21, .pointer (some ⟨g, 0, none⟩)), (1, 22, .pointer (some ⟨g, 0, none⟩)), (2, 23, .pointer (some ⟨g, 3, none⟩)), (3, 24, .slice (some ⟨b, 0, none⟩) N cap), (4, 25, .pointer (some ⟨g, 0, none⟩)), (5, 26, .int .i64 id), (6, 27, .int .i64 T), (7, 28, .pointer (some ⟨b, T, none⟩)), (8, 29, .int .i64 x), (9, 30, .pointer (some ⟨g, 0, none⟩)), (10, 31, .pointer (some ⟨g, 0, none⟩)), (11, 32, .pointer (some ⟨g, 1, none⟩)), (12, 33, .int .i64 quo), (13, 34, .bool true), (14, 20, .bool true)] f a0 ∧ Sat G W (blk g #[.int .i64 ten, .int .i64 quo, v, .slice (some ⟨b, 0, none⟩) N cap, .int .i64 last] 67 :: blk b cur 3 :: ownS 72 11 v F.length (encs Ent.enc F) :: l)) ?_ ?_ ?_
  · exact ⟨rfl, S2.drew⟩
  · refine ⟨?_, ?_, ?_, ?_, ?_, ?_, ?_, ?_, ?_, ?_, ?_, ?_, ?_, ?_, ?_, trivial⟩
    · rintro f a' W h0 hd ⟨rfl, S⟩
      refine wpOp_run (v := .pointer (some ⟨g, 0, none⟩)) rfl rfl (fun ρ hρ => ?_) ⟨(acts_some 0 rfl (by kernel_rfl) (by kernel_rfl)).symm, S⟩
      have e0 : ρ (.tmp 0) = .pointer (some ⟨g, 0, none⟩) := by rw [hρ]; exact (acts_eval_tmp 0 (by kernel_rfl)).trans E0
      clear hρ
      go_simp
    · rintro f a' W h1 hd ⟨rfl, S⟩
      refine wpOp_run (v := .pointer (some ⟨g, 0, none⟩)) rfl rfl (fun ρ hρ => ?_) ⟨(acts_some 1 rfl (by kernel_rfl) (by kernel_rfl)).symm, S⟩
      have e0 : ρ (.tmp 21) = .pointer (some ⟨g, 0, none⟩) := by rw [hρ]; exact acts_eval_hit 0 rfl hd.1 (by rw [HSZ]; rfl) (by kernel_rfl)
      clear hρ
      go_simp
    · rintro f a' W h2 hd ⟨rfl, S⟩
      refine wpOp_run (v := .pointer (some ⟨g, 3, none⟩)) rfl rfl (fun ρ hρ => ?_) ⟨(acts_some 2 rfl (by kernel_rfl) (by kernel_rfl)).symm, S⟩
      have e0 : ρ (.tmp 22) = .pointer (some ⟨g, 0, none⟩) := by rw [hρ]; exact acts_eval_hit 1 rfl hd.1 (by rw [HSZ]; rfl) (by kernel_rfl)
      clear hρ
      go_simp
    · rintro f a' W h3 hd ⟨rfl, S⟩
      refine wpOp_run (v := .slice (some ⟨b, 0, none⟩) N cap) rfl rfl (fun ρ hρ => ?_) ⟨(acts_some 3 rfl (by kernel_rfl) (by kernel_rfl)).symm, S⟩
      have e0 : ρ (.tmp 23) = .pointer (some ⟨g, 3, none⟩) := by rw [hρ]; exact acts_eval_hit 2 rfl hd.1 (by rw [HSZ]; rfl) (by kernel_rfl)
      clear hρ
      (have z : W.cell? ⟨g, 3, none⟩ = some (.slice (some ⟨b, 0, none⟩) N cap) := S.cell 3)
      go_simp
    · rintro f a' W h4 hd ⟨rfl, S⟩
      refine wpOp_run (v := .pointer (some ⟨g, 0, none⟩)) rfl rfl (fun ρ hρ => ?_) ⟨(acts_some 4 rfl (by kernel_rfl) (by kernel_rfl)).symm, S⟩
      have e0 : ρ (.tmp 0) = .pointer (some ⟨g, 0, none⟩) := by rw [hρ]; exact (acts_eval_tmp 0 (by kernel_rfl)).trans E0
      clear hρ
      go_simp
    · rintro f a' W h5 hd ⟨rfl, S⟩
      refine wpOp_run (v := .int .i64 id) rfl rfl (fun ρ hρ => ?_) ⟨(acts_some 5 rfl (by kernel_rfl) (by kernel_rfl)).symm, S⟩
      have e0 : ρ (.tmp 6) = .int .i64 id := by rw [hρ]; exact (acts_eval_tmp 6 (by kernel_rfl)).trans E6
      clear hρ
      go_simp
    · rintro f a' W h6 hd ⟨rfl, S⟩
      refine wpOp_call rfl rfl (fun ρ hρ => ?_) ((rg_owner (S.cell 0) id)) ?_
      · skip
        have e0 : ρ (.tmp 25) = .pointer (some ⟨g, 0, none⟩) := by rw [hρ]; exact acts_eval_hit 4 rfl hd.1 (by rw [HSZ]; rfl) (by kernel_rfl)
        have e1 : ρ (.tmp 26) = .int .i64 id := by rw [hρ]; exact acts_eval_hit 5 rfl hd.2.1 (by rw [HSZ]; rfl) (by kernel_rfl)
        have ef : ρ (.func 23) = .func (.func 23) #[] #[] := by rw [hρ]; rfl
        clear hρ
        go_simp
      · (rintro e W' ⟨rfl, rfl⟩; rw [HOT.out]; exact ⟨_, rfl, acts_swap rfl (k := 6) rfl (by kernel_rfl) (by kernel_rfl), S⟩)
    · rintro f a' W h7 hd ⟨rfl, S⟩
      refine wpOp_run (v := .pointer (some ⟨b, T, none⟩)) rfl rfl (fun ρ hρ => ?_) ⟨(acts_some 7 rfl (by kernel_rfl) (by kernel_rfl)).symm, S⟩
      have e0 : ρ (.tmp 24) = .slice (some ⟨b, 0, none⟩) N cap := by rw [hρ]; exact acts_eval_hit 3 rfl hd.1 (by rw [HSZ]; rfl) (by kernel_rfl)
      have e1 : ρ (.tmp 27) = .int .i64 T := by rw [hρ]; exact acts_eval_hit 6 rfl hd.2.1 (by rw [HSZ]; rfl) (by kernel_rfl)
      clear hρ
      go_simp
    · rintro f a' W h8 hd ⟨rfl, S⟩
      refine wpOp_run (v := .int .i64 x) rfl rfl (fun ρ hρ => ?_) ⟨(acts_some 8 rfl (by kernel_rfl) (by kernel_rfl)).symm, S⟩
      have e0 : ρ (.tmp 28) = .pointer (some ⟨b, T, none⟩) := by rw [hρ]; exact acts_eval_hit 7 rfl hd.1 (by rw [HSZ]; rfl) (by kernel_rfl)
      clear hρ
      (have z : W.cell? ⟨b, T, none⟩ = some (.int .i64 x) := (S.swap.cell T).trans HCX.out)
      go_simp
    · rintro f a' W h9 hd ⟨rfl, S⟩
      refine wpOp_run (v := .pointer (some ⟨g, 0, none⟩)) rfl rfl (fun ρ hρ => ?_) ⟨(acts_some 9 rfl (by kernel_rfl) (by kernel_rfl)).symm, S⟩
      have e0 : ρ (.tmp 0) = .pointer (some ⟨g, 0, none⟩) := by rw [hρ]; exact (acts_eval_tmp 0 (by kernel_rfl)).trans E0
      clear hρ
      go_simp
    · rintro f a' W h10 hd ⟨rfl, S⟩
      refine wpOp_run (v := .pointer (some ⟨g, 0, none⟩)) rfl rfl (fun ρ hρ => ?_) ⟨(acts_some 10 rfl (by kernel_rfl) (by kernel_rfl)).symm, S⟩
      have e0 : ρ (.tmp 30) = .pointer (some ⟨g, 0, none⟩) := by rw [hρ]; exact acts_eval_hit 9 rfl hd.1 (by rw [HSZ]; rfl) (by kernel_rfl)
      clear hρ
      go_simp
    · rintro f a' W h11 hd ⟨rfl, S⟩
      refine wpOp_run (v := .pointer (some ⟨g, 1, none⟩)) rfl rfl (fun ρ hρ => ?_) ⟨(acts_some 11 rfl (by kernel_rfl) (by kernel_rfl)).symm, S⟩
      have e0 : ρ (.tmp 31) = .pointer (some ⟨g, 0, none⟩) := by rw [hρ]; exact acts_eval_hit 10 rfl hd.1 (by rw [HSZ]; rfl) (by kernel_rfl)
      clear hρ
      go_simp
    · rintro f a' W h12 hd ⟨rfl, S⟩
      refine wpOp_run (v := .int .i64 quo) rfl rfl (fun ρ hρ => ?_) ⟨(acts_some 12 rfl (by kernel_rfl) (by kernel_rfl)).symm, S⟩
      have e0 : ρ (.tmp 32) = .pointer (some ⟨g, 1, none⟩) := by rw [hρ]; exact acts_eval_hit 11 rfl hd.1 (by rw [HSZ]; rfl) (by kernel_rfl)
      clear hρ
      (have z : W.cell? ⟨g, 1, none⟩ = some (.int .i64 quo) := S.cell 1)
      go_simp
    · rintro f a' W h13 hd ⟨rfl, S⟩
      refine wpOp_run (v := .bool true) rfl rfl (fun ρ hρ => ?_) ⟨(acts_some 13 rfl (by kernel_rfl) (by kernel_rfl)).symm, S⟩
      have e0 : ρ (.tmp 29) = .int .i64 x := by rw [hρ]; exact acts_eval_hit 8 rfl hd.1 (by rw [HSZ]; rfl) (by kernel_rfl)
      have e1 : ρ (.tmp 33) = .int .i64 quo := by rw [hρ]; exact acts_eval_hit 12 rfl hd.2.1 (by rw [HSZ]; rfl) (by kernel_rfl)
      clear hρ
      go_simp
    · rintro f a' W h14 hd ⟨rfl, S⟩
      refine wpOp_run (v := .bool true) rfl rfl (fun ρ hρ => ?_) ⟨(acts_some 14 rfl (by kernel_rfl) (by kernel_rfl)).symm, S⟩
      have e0 : ρ (.tmp 34) = .bool true := by rw [hρ]; exact acts_eval_hit 13 rfl hd.1 (by rw [HSZ]; rfl) (by kernel_rfl)
      clear hρ
      go_simp
  rintro a' W ⟨rfl, S3⟩
  subst ha0
  simp only [acts, if_true, Act.put, List.setIfInBounds_toArray, List.set_cons_succ, List.set_cons_zero]
  clear S2 HSZ E0 E6
  go_wp2_with fail
  refine hK.out _ _ ⟨rfl, rg_iff.2 ⟨v, .slice (some ⟨b, 0, none⟩) N cap, ?_⟩⟩
  exact ((S3.re [1, 0, 2]).layClose HLA.out HCP.out N HN.out).re [1, 2, 0]
set_option maxHeartbeats 8000000 in
set_option maxRecDepth 100000 in
theorem rg_open_ok (H : Sat G w (rgA g ten quo F L last :: l)) (hw : RWf ten quo F L last) (ht : TabG G) (tick : Int) (h0 : ¬ idOf tick = 0) (h1 : ¬ idOf tick ≤ last) (h2 : ¬ quo ≤ liveAt L (ownT (idOf tick) ten)) : Calls Tryd.prog 12 #[.pointer (some ⟨g, 0, none⟩), .int .i64 tick] w fun e w' => e = .returned (.tuple #[.int .i64 (rOpen ten quo F L last tick).id, .int .i64 (rOpen ten quo F L last tick).err]) ∧ Sat G w' (rgA g ten quo (rOpen ten quo F L last tick).F (rOpen ten quo F L last tick).L (rOpen ten quo F L last tick).last :: l) := by
  refine calls_any fun K hK => ?_
  have hid := rg_id tick w
  have HID := Lib.hid (show idOf tick = 2 * tick + 1 ∧ 0 ≤ tick ∧ tick ≤ 1073741823 by unfold idOf at h0 ⊢; split at h0 <;> simp_all)
  unfold rOpen at hK
  rw [if_neg h0, if_neg h1, if_neg h2] at hK
  generalize idOf tick = id at *
  have HFW := Lib.hid hw.few
  have HLAST := Lib.hid hw.last0
  have h0b : (id == 0) = false := beq_eq_false_iff_ne.2 h0
  have hlt : ¬ id ≤ last := h1
  have htn := hw.t0
  have hlen := hw.len
  obtain ⟨T, hT⟩ : ∃ T : Nat, ownT id ten = T := ⟨(ownT id ten).toNat, by
    have : 0 ≤ ownT id ten := by
      unfold ownT
      split
      · exact Int.emod_nonneg _ (by omega)
      · omega
    omega⟩
  have hTl : T < L.length := by
    have : ownT id ten < ten := by
      unfold ownT
      split
      · exact Int.emod_lt_of_pos _ (by omega)
      · omega
    omega
  obtain ⟨x, hx⟩ : ∃ x, L[T]? = some x := ⟨_, List.getElem?_eq_getElem hTl⟩
  have hla : liveAt L (ownT id ten) = x := by
    unfold liveAt
    rw [hT, if_pos (by omega), List.getD_eq_getElem?_getD, show (T : Int).toNat = T by omega, hx]; rfl
  rw [hla] at h2
  try rw [hla] at hK
  have hxb := hw.lo x (List.mem_of_getElem? hx)
  obtain ⟨v, u, S⟩ := rg_iff.1 H
  obtain ⟨b, cap, cur, rfl, hcap, La, S2⟩ := (S.re [2, 0, 1]).layOpen lenc_len (by omega)
  have HCX := Lib.hid (La.get hx (j := 0) (by decide))
  simp only [Nat.mul_one, Nat.add_zero, lenc, List.getElem?_cons_zero] at HCX
  have hTc := La.room hTl
  have HLA := Lib.hid La
  have HCP := Lib.hid hcap
  have HTC : Hid (T < cur.size) := Lib.hid (by omega)
  have c4 := S2.swap.cell 4
  obtain ⟨N, hN⟩ : ∃ N, N = L.length := ⟨_, rfl⟩
  rw [← hN] at S2 c4
  have a4 : (T : Int) < (N : Int) := by omega
  have a5 : T < N := by omega
  have HN := Lib.hid hN
  have HOT := Lib.hid hT
  have HX := Lib.hid hx
  have HTL := Lib.hid hTl
  have HTAB := Lib.hid ht
  replace S2 := S2.re [1, 0, 2]
  clear H S La hcap hTc hN hT hx hw hlen hla hTl ht h0 h1
  obtain ⟨hx0, hx1⟩ := hxb
  go_enter Tryd.func12, Tryd.ntmps12
  go_wp2_with fail
  (with_reducible refine hid.mono ?_)
  rintro e w1 ⟨rfl, rfl⟩
  go_upto_region 6 with fail
  clear hid c4
  have hge : decide (x ≥ quo) = false := decide_eq_false (by omega)
  refine wp_act fun a0 ha0 => ?_
  have HSZ : a0.tmps.size = 65 := by rw [ha0]; rfl
  have E0 : a0.eval (.tmp 0) = .pointer (some ⟨g, 0, none⟩) := by rw [ha0]; rfl
  have E6 : a0.eval (.tmp 6) = .int .i64 id := by rw [ha0]; rfl
  refine wp_region_J (by kernel_rfl) 15 (by kernel_rfl) [[], [0], [1], [2], [], [], [4, 5], [3, 6], [7], [], [9], [10], [11], [8, 12], [13, 6]] (by kernel_rfl) (by kernel_rfl) (fun f a' W => a' = acts [(0, 21, .pointer (some ⟨g, 0, none⟩)), (1, 22, .pointer (some ⟨g, 0, none⟩)), (2, 23, .pointer (some ⟨g, 3, none⟩)), (3, 24, .slice (some ⟨b, 0, none⟩) N cap), (4, 25, .pointer (some ⟨g, 0, none⟩)), (5, 26, .int .i64 id), (6, 27, .int .i64 T), (7, 28, .pointer (some ⟨b, T, none⟩)), (8, 29, .int .i64 x), (9, 30, .pointer (some ⟨g, 0, none⟩)), (10, 31, .pointer (some ⟨g, 0, none⟩)), (11, 32, .pointer (some ⟨g, 1, none⟩)), (12, 33, .int .i64 quo), (13, 34, .bool false), (14, 20, .bool false)] f a0 ∧ Sat G W (blk g #[.int .i64 ten, .int .i64 quo, v, .slice (some ⟨b, 0, none⟩) N cap, .int .i64 last] 67 :: blk b cur 3 :: ownS 72 11 v F.length (encs Ent.enc F) :: l)) ?_ ?_ ?_
  · exact ⟨rfl, S2.drew⟩
  · refine ⟨?_, ?_, ?_, ?_, ?_, ?_, ?_, ?_, ?_, ?_, ?_, ?_, ?_, ?_, ?_, trivial⟩
    · rintro f a' W h0 hd ⟨rfl, S⟩
      refine wpOp_run (v := .pointer (some ⟨g, 0, none⟩)) rfl rfl (fun ρ hρ => ?_) ⟨(acts_some 0 rfl (by kernel_rfl) (by kernel_rfl)).symm, S⟩
      have e0 : ρ (.tmp 0) = .pointer (some ⟨g, 0, none⟩) := by rw [hρ]; exact (acts_eval_tmp 0 (by kernel_rfl)).trans E0
      clear hρ
      go_simp
    · rintro f a' W h1 hd ⟨rfl, S⟩
      refine wpOp_run (v := .pointer (some ⟨g, 0, none⟩)) rfl rfl (fun ρ hρ => ?_) ⟨(acts_some 1 rfl (by kernel_rfl) (by kernel_rfl)).symm, S⟩
      have e0 : ρ (.tmp 21) = .pointer (some ⟨g, 0, none⟩) := by rw [hρ]; exact acts_eval_hit 0 rfl hd.1 (by rw [HSZ]; rfl) (by kernel_rfl)
      clear hρ
      go_simp
    · rintro f a' W h2 hd ⟨rfl, S⟩
      refine wpOp_run (v := .pointer (some ⟨g, 3, none⟩)) rfl rfl (fun ρ hρ => ?_) ⟨(acts_some 2 rfl (by kernel_rfl) (by kernel_rfl)).symm, S⟩
      have e0 : ρ (.tmp 22) = .pointer (some ⟨g, 0, none⟩) := by rw [hρ]; exact acts_eval_hit 1 rfl hd.1 (by rw [HSZ]; rfl) (by kernel_rfl)
      clear hρ
      go_simp
    · rintro f a' W h3 hd ⟨rfl, S⟩
      refine wpOp_run (v := .slice (some ⟨b, 0, none⟩) N cap) rfl rfl (fun ρ hρ => ?_) ⟨(acts_some 3 rfl (by kernel_rfl) (by kernel_rfl)).symm, S⟩
      have e0 : ρ (.tmp 23) = .pointer (some ⟨g, 3, none⟩) := by rw [hρ]; exact acts_eval_hit 2 rfl hd.1 (by rw [HSZ]; rfl) (by kernel_rfl)
      clear hρ
      (have z : W.cell? ⟨g, 3, none⟩ = some (.slice (some ⟨b, 0, none⟩) N cap) := S.cell 3)
      go_simp
    · rintro f a' W h4 hd ⟨rfl, S⟩
      refine wpOp_run (v := .pointer (some ⟨g, 0, none⟩)) rfl rfl (fun ρ hρ => ?_) ⟨(acts_some 4 rfl (by kernel_rfl) (by kernel_rfl)).symm, S⟩
      have e0 : ρ (.tmp 0) = .pointer (some ⟨g, 0, none⟩) := by rw [hρ]; exact (acts_eval_tmp 0 (by kernel_rfl)).trans E0
      clear hρ
      go_simp
    · rintro f a' W h5 hd ⟨rfl, S⟩
      refine wpOp_run (v := .int .i64 id) rfl rfl (fun ρ hρ => ?_) ⟨(acts_some 5 rfl (by kernel_rfl) (by kernel_rfl)).symm, S⟩
      have e0 : ρ (.tmp 6) = .int .i64 id := by rw [hρ]; exact (acts_eval_tmp 6 (by kernel_rfl)).trans E6
      clear hρ
      go_simp
    · rintro f a' W h6 hd ⟨rfl, S⟩
      refine wpOp_call rfl rfl (fun ρ hρ => ?_) ((rg_owner (S.cell 0) id)) ?_
      · skip
        have e0 : ρ (.tmp 25) = .pointer (some ⟨g, 0, none⟩) := by rw [hρ]; exact acts_eval_hit 4 rfl hd.1 (by rw [HSZ]; rfl) (by kernel_rfl)
        have e1 : ρ (.tmp 26) = .int .i64 id := by rw [hρ]; exact acts_eval_hit 5 rfl hd.2.1 (by rw [HSZ]; rfl) (by kernel_rfl)
        have ef : ρ (.func 23) = .func (.func 23) #[] #[] := by rw [hρ]; rfl
        clear hρ
        go_simp
      · (rintro e W' ⟨rfl, rfl⟩; rw [HOT.out]; exact ⟨_, rfl, acts_swap rfl (k := 6) rfl (by kernel_rfl) (by kernel_rfl), S⟩)
    · rintro f a' W h7 hd ⟨rfl, S⟩
      refine wpOp_run (v := .pointer (some ⟨b, T, none⟩)) rfl rfl (fun ρ hρ => ?_) ⟨(acts_some 7 rfl (by kernel_rfl) (by kernel_rfl)).symm, S⟩
      have e0 : ρ (.tmp 24) = .slice (some ⟨b, 0, none⟩) N cap := by rw [hρ]; exact acts_eval_hit 3 rfl hd.1 (by rw [HSZ]; rfl) (by kernel_rfl)
      have e1 : ρ (.tmp 27) = .int .i64 T := by rw [hρ]; exact acts_eval_hit 6 rfl hd.2.1 (by rw [HSZ]; rfl) (by kernel_rfl)
      clear hρ
      go_simp
    · rintro f a' W h8 hd ⟨rfl, S⟩
      refine wpOp_run (v := .int .i64 x) rfl rfl (fun ρ hρ => ?_) ⟨(acts_some 8 rfl (by kernel_rfl) (by kernel_rfl)).symm, S⟩
      have e0 : ρ (.tmp 28) = .pointer (some ⟨b, T, none⟩) := by rw [hρ]; exact acts_eval_hit 7 rfl hd.1 (by rw [HSZ]; rfl) (by kernel_rfl)
      clear hρ
      (have z : W.cell? ⟨b, T, none⟩ = some (.int .i64 x) := (S.swap.cell T).trans HCX.out)
      go_simp
    · rintro f a' W h9 hd ⟨rfl, S⟩
      refine wpOp_run (v := .pointer (some ⟨g, 0, none⟩)) rfl rfl (fun ρ hρ => ?_) ⟨(acts_some 9 rfl (by kernel_rfl) (by kernel_rfl)).symm, S⟩
      have e0 : ρ (.tmp 0) = .pointer (some ⟨g, 0, none⟩) := by rw [hρ]; exact (acts_eval_tmp 0 (by kernel_rfl)).trans E0
      clear hρ
      go_simp
    · rintro f a' W h10 hd ⟨rfl, S⟩
      refine wpOp_run (v := .pointer (some ⟨g, 0, none⟩)) rfl rfl (fun ρ hρ => ?_) ⟨(acts_some 10 rfl (by kernel_rfl) (by kernel_rfl)).symm, S⟩
      have e0 : ρ (.tmp 30) = .pointer (some ⟨g, 0, none⟩) := by rw [hρ]; exact acts_eval_hit 9 rfl hd.1 (by rw [HSZ]; rfl) (by kernel_rfl)
      clear hρ
      go_simp
    · rintro f a' W h11 hd ⟨rfl, S⟩
      refine wpOp_run (v := .pointer (some ⟨g, 1, none⟩)) rfl rfl (fun ρ hρ => ?_) ⟨(acts_some 11 rfl (by kernel_rfl) (by kernel_rfl)).symm, S⟩
      have e0 : ρ (.tmp 31) = .pointer (some ⟨g, 0, none⟩) := by rw [hρ]; exact acts_eval_hit 10 rfl hd.1 (by rw [HSZ]; rfl) (by kernel_rfl)
      clear hρ
      go_simp
    · rintro f a' W h12 hd ⟨rfl, S⟩
      refine wpOp_run (v := .int .i64 quo) rfl rfl (fun ρ hρ => ?_) ⟨(acts_some 12 rfl (by kernel_rfl) (by kernel_rfl)).symm, S⟩
      have e0 : ρ (.tmp 32) = .pointer (some ⟨g, 1, none⟩) := by rw [hρ]; exact acts_eval_hit 11 rfl hd.1 (by rw [HSZ]; rfl) (by kernel_rfl)
      clear hρ
      (have z : W.cell? ⟨g, 1, none⟩ = some (.int .i64 quo) := S.cell 1)
      go_simp
    · rintro f a' W h13 hd ⟨rfl, S⟩
      refine wpOp_run (v := .bool false) rfl rfl (fun ρ hρ => ?_) ⟨(acts_some 13 rfl (by kernel_rfl) (by kernel_rfl)).symm, S⟩
      have e0 : ρ (.tmp 29) = .int .i64 x := by rw [hρ]; exact acts_eval_hit 8 rfl hd.1 (by rw [HSZ]; rfl) (by kernel_rfl)
      have e1 : ρ (.tmp 33) = .int .i64 quo := by rw [hρ]; exact acts_eval_hit 12 rfl hd.2.1 (by rw [HSZ]; rfl) (by kernel_rfl)
      clear hρ
      go_simp
    · rintro f a' W h14 hd ⟨rfl, S⟩
      refine wpOp_run (v := .bool false) rfl rfl (fun ρ hρ => ?_) ⟨(acts_some 14 rfl (by kernel_rfl) (by kernel_rfl)).symm, S⟩
      have e0 : ρ (.tmp 34) = .bool false := by rw [hρ]; exact acts_eval_hit 13 rfl hd.1 (by rw [HSZ]; rfl) (by kernel_rfl)
      clear hρ
      go_simp
  rintro a' W ⟨rfl, S3⟩
  subst ha0
  simp only [acts, if_true, Act.put, List.setIfInBounds_toArray, List.set_cons_succ, List.set_cons_zero]
  clear S2 HSZ E0 E6
  go_upto_region 8 with fail
  refine wp_world S3 fun w2 S4 => ?_
  clear S3
  have S5 := S4.newBlk #[.int .i64 id, .int .i64 0, .int .i64 0, .int .i64 0, .int .i64 0, .int .i64 0, .int .i64 0, .int .i64 0, .int .i64 0, .int .i64 0, .int .i64 0] 72
  clear S4
  go_upto_region 9 with fail
  generalize w2.heap.size = z at *
  refine wp_world S5 fun w3 S6 => ?_
  clear S5
  have hd := rn_do (off := 1) (pre := [.int .i64 id]) (n := 0) (C := [0, 0, 0, 0, 0, 0, 0, 0, 0]) (post := []) (t := 72) S6 rfl HTAB.out rfl (by decide) 0
  rw [show pDo 0 0 = ⟨1, 0, 0, false, true⟩ from by rfl] at hd
  clear S6
  go_wp2_with fail
  (with_reducible refine hd.mono ?_)
  clear hd
  rintro e w4 ⟨rfl, S7⟩
  have S8 : Sat G w4 (blk z #[.int .i64 id, .int .i64 1, .int .i64 1, .int .i64 0, .int .i64 0, .int .i64 0, .int .i64 0, .int .i64 0, .int .i64 0, .int .i64 0, .int .i64 0] 72 :: blk g #[.int .i64 ten, .int .i64 quo, v, .slice (some ⟨b, 0, none⟩) N cap, .int .i64 last] 67 :: blk b cur 3 :: ownS 72 11 v F.length (encs Ent.enc F) :: l) := S7
  clear S7
  go_upto_region 10 with fail
  refine wp_world S8 fun w5 S9 => ?_
  have S2 := S9.re [0, 1, 3, 2]
  have HBK : Hid (F.length + 1 ≤ 10001) := Lib.hid (by have := HFW.out; omega)
  clear S8 S9
  refine wp_act fun a0 ha0 => ?_
  have HSZ : a0.tmps.size = 65 := by rw [ha0]; rfl
  have E0 : a0.eval (.tmp 0) = .pointer (some ⟨g, 0, none⟩) := by rw [ha0]; rfl
  have E7 : a0.eval (.tmp 7) = .pointer (some ⟨z, 0, none⟩) := by rw [ha0]; rfl
  refine wp_region_J (by kernel_rfl) 11 (by kernel_rfl) [[], [], [1], [2], [3], [], [5], [4, 6], [0, 0, 1, 2, 3, 4, 5, 6, 7], [8, 0, 1, 2, 3, 4, 5, 6, 7], [9, 7, 7, 0, 1, 2, 3, 4, 5, 6, 7]] (by kernel_rfl) (by kernel_rfl) (fun f a' W => ∃ q v', HNo f ∧ a' = acts [(0, 39, .pointer (some ⟨g, 0, none⟩)), (1, 40, .pointer (some ⟨g, 0, none⟩)), (2, 41, .pointer (some ⟨g, 0, none⟩)), (3, 42, .pointer (some ⟨g, 2, none⟩)), (4, 43, v), (5, 44, .agg #[.int .i64 id, .int .i64 1, .int .i64 1, .int .i64 0, .int .i64 0, .int .i64 0, .int .i64 0, .int .i64 0, .int .i64 0, .int .i64 0, .int .i64 0]), (6, 45, .slice (some ⟨q, 0, none⟩) 1 1), (7, 46, v'), (8, 47, .pointer (some ⟨g, 0, none⟩)), (9, 48, .pointer (some ⟨g, 2, none⟩))] f a0 ∧ Sat G W (opt (f 6) (blk q #[.int .i64 id, .int .i64 1, .int .i64 1, .int .i64 0, .int .i64 0, .int .i64 0, .int .i64 0, .int .i64 0, .int .i64 0, .int .i64 0, .int .i64 0] 72) :: blk z #[.int .i64 id, .int .i64 1, .int .i64 1, .int .i64 0, .int .i64 0, .int .i64 0, .int .i64 0, .int .i64 0, .int .i64 0, .int .i64 0, .int .i64 0] 72 :: blk g #[.int .i64 ten, .int .i64 quo, cond (f 10) v' v, .slice (some ⟨b, 0, none⟩) N cap, .int .i64 last] 67 :: ownS 72 11 (cond (f 7) v' v) (cond (f 7) (F.length + 1) F.length) (cond (f 7) (encs Ent.enc F ++ Ent.enc (newE id)) (encs Ent.enc F)) :: blk b cur 3 :: l)) ?_ ?_ ?_
  · exact ⟨0, undef, (by unfold HNo; decide), rfl, S2.drew.opt0⟩
  · refine ⟨?_, ?_, ?_, ?_, ?_, ?_, ?_, ?_, ?_, ?_, ?_, trivial⟩
    · rintro f a' W h0 hd ⟨q, v', hh, rfl, S⟩
      refine wpOp_run (v := .pointer (some ⟨g, 0, none⟩)) rfl rfl (fun ρ hρ => ?_) ⟨q, v', hh, (acts_some 0 rfl (by kernel_rfl) (by kernel_rfl)).symm, S⟩
      have e0 : ρ (.tmp 0) = .pointer (some ⟨g, 0, none⟩) := by rw [hρ]; exact (acts_eval_tmp 0 (by kernel_rfl)).trans E0
      clear hρ
      go_simp
    · rintro f a' W h1 hd ⟨q, v', hh, rfl, S⟩
      refine wpOp_run (v := .pointer (some ⟨g, 0, none⟩)) rfl rfl (fun ρ hρ => ?_) ⟨q, v', hh, (acts_some 1 rfl (by kernel_rfl) (by kernel_rfl)).symm, S⟩
      have e0 : ρ (.tmp 0) = .pointer (some ⟨g, 0, none⟩) := by rw [hρ]; exact (acts_eval_tmp 0 (by kernel_rfl)).trans E0
      clear hρ
      go_simp
    · rintro f a' W h2 hd ⟨q, v', hh, rfl, S⟩
      refine wpOp_run (v := .pointer (some ⟨g, 0, none⟩)) rfl rfl (fun ρ hρ => ?_) ⟨q, v', hh, (acts_some 2 rfl (by kernel_rfl) (by kernel_rfl)).symm, S⟩
      have e0 : ρ (.tmp 40) = .pointer (some ⟨g, 0, none⟩) := by rw [hρ]; exact acts_eval_hit 1 rfl hd.1 (by rw [HSZ]; rfl) (by kernel_rfl)
      clear hρ
      go_simp
    · rintro f a' W h3 hd ⟨q, v', hh, rfl, S⟩
      refine wpOp_run (v := .pointer (some ⟨g, 2, none⟩)) rfl rfl (fun ρ hρ => ?_) ⟨q, v', hh, (acts_some 3 rfl (by kernel_rfl) (by kernel_rfl)).symm, S⟩
      have e0 : ρ (.tmp 41) = .pointer (some ⟨g, 0, none⟩) := by rw [hρ]; exact acts_eval_hit 2 rfl hd.1 (by rw [HSZ]; rfl) (by kernel_rfl)
      clear hρ
      go_simp
    · rintro f a' W h4 hd ⟨q, v', hh, rfl, S⟩
      (have z7 := no_of hh.2.1 h4; have z10 := no_of hh.2.2 z7)
      refine wpOp_run (v := v) rfl rfl (fun ρ hρ => ?_) ⟨q, v', ⟨hh.1, fun _ => rfl, hh.2.2⟩, (acts_some 4 rfl (by kernel_rfl) (by kernel_rfl)).symm, S⟩
      have e0 : ρ (.tmp 42) = .pointer (some ⟨g, 2, none⟩) := by rw [hρ]; exact acts_eval_hit 3 rfl hd.1 (by rw [HSZ]; rfl) (by kernel_rfl)
      clear hρ
      (have hcl : W.cell? ⟨g, 2, none⟩ = some v := (by have := S.pull2.cell 2; rw [z10] at this; exact this))
      go_simp
    · rintro f a' W h5 hd ⟨q, v', hh, rfl, S⟩
      refine wpOp_list rfl ?_
      refine st_load rfl _ _ rfl _ ((acts_eval_tmp 7 (by kernel_rfl)).trans E7) _ _ (S.swap) _ rfl rfl rfl ?_
      exact ⟨q, v', hh, (acts_some 5 rfl (by kernel_rfl) (by kernel_rfl)).symm, S⟩
    · rintro f a' W h6 hd ⟨q, v', hh, rfl, S⟩
      (have z7 := no_of hh.1 h6)
      refine wpOp_mem (v := .slice (some ⟨W.heap.size, 0, none⟩) 1 1) (w' := W.alloc (.cells #[.int .i64 id, .int .i64 1, .int .i64 1, .int .i64 0, .int .i64 0, .int .i64 0, .int .i64 0, .int .i64 0, .int .i64 0, .int .i64 0, .int .i64 0] 72)) rfl rfl (fun ρ hρ => ?_) (⟨W.heap.size, v', ⟨fun _ => rfl, hh.2⟩, acts_swap (by simp only [acts, h6, Bool.false_eq_true, if_false]) (k := 6) rfl (by kernel_rfl) (by kernel_rfl), Sat.optI rfl (S.newBlk _ _).drop2⟩)
      have e0 : ρ (.tmp 44) = .agg #[.int .i64 id, .int .i64 1, .int .i64 1, .int .i64 0, .int .i64 0, .int .i64 0, .int .i64 0, .int .i64 0, .int .i64 0, .int .i64 0, .int .i64 0] := by rw [hρ]; exact acts_eval_hit 5 rfl hd.1 (by rw [HSZ]; rfl) (by kernel_rfl)
      clear hρ
      go_simp
    · rintro f a' W h7 hd ⟨q, v', hh, rfl, S⟩
      have q43 : (acts [(0, 39, .pointer (some ⟨g, 0, none⟩)), (1, 40, .pointer (some ⟨g, 0, none⟩)), (2, 41, .pointer (some ⟨g, 0, none⟩)), (3, 42, .pointer (some ⟨g, 2, none⟩)), (4, 43, v), (5, 44, .agg #[.int .i64 id, .int .i64 1, .int .i64 1, .int .i64 0, .int .i64 0, .int .i64 0, .int .i64 0, .int .i64 0, .int .i64 0, .int .i64 0, .int .i64 0]), (6, 45, .slice (some ⟨q, 0, none⟩) 1 1), (7, 46, v'), (8, 47, .pointer (some ⟨g, 0, none⟩)), (9, 48, .pointer (some ⟨g, 2, none⟩))] f a0).eval (.tmp 43) = v := acts_eval_hit 4 rfl hd.1 (by rw [HSZ]; rfl) (by kernel_rfl)
      have q45 : (acts [(0, 39, .pointer (some ⟨g, 0, none⟩)), (1, 40, .pointer (some ⟨g, 0, none⟩)), (2, 41, .pointer (some ⟨g, 0, none⟩)), (3, 42, .pointer (some ⟨g, 2, none⟩)), (4, 43, v), (5, 44, .agg #[.int .i64 id, .int .i64 1, .int .i64 1, .int .i64 0, .int .i64 0, .int .i64 0, .int .i64 0, .int .i64 0, .int .i64 0, .int .i64 0, .int .i64 0]), (6, 45, .slice (some ⟨q, 0, none⟩) 1 1), (7, 46, v'), (8, 47, .pointer (some ⟨g, 0, none⟩)), (9, 48, .pointer (some ⟨g, 2, none⟩))] f a0).eval (.tmp 45) = .slice (some ⟨q, 0, none⟩) 1 1 := acts_eval_hit 6 rfl hd.2.1 (by rw [HSZ]; rfl) (by kernel_rfl)
      (have z10 := no_of hh.2.2 h7; simp only [hd.2.1, h7, z10, cond_false] at S; have S2 := (opt_iff.1 S).pull3; refine wpOp_list rfl ?_; refine st_append rfl _ _ 65 rfl 72 _ 11 88 Tryd.underlying65 info_one rfl (by omega) v F.length (encs Ent.enc F) q43 S2 ⟨q, 0, none⟩ 1 1 (Ent.enc (newE id)) q45 rfl (fun j u hj => blk_cells (opt_iff.1 S) j u hj) rfl (Nat.le_trans HBK.out (by decide)) (by have := HBK.out; omega) ?_; intro v2 w2 S3; refine ⟨q, v2, ⟨fun _ => hd.2.1, fun _ => hd.1, fun _ => rfl⟩, acts_swap (by simp only [acts, h7, Bool.false_eq_true, if_false]) (k := 7) rfl (by kernel_rfl) (by kernel_rfl), ?_⟩; show Sat G w2 (opt (f 6) _ :: _ :: blk g #[_, _, cond (f 10) v2 v, _, _] _ :: _); rw [hd.2.1, z10]; exact opt_iff.2 S3.push3)
    · rintro f a' W h8 hd ⟨q, v', hh, rfl, S⟩
      refine wpOp_run (v := .pointer (some ⟨g, 0, none⟩)) rfl rfl (fun ρ hρ => ?_) ⟨q, v', hh, (acts_some 8 rfl (by kernel_rfl) (by kernel_rfl)).symm, S⟩
      have e0 : ρ (.tmp 39) = .pointer (some ⟨g, 0, none⟩) := by rw [hρ]; exact acts_eval_hit 0 rfl hd.1 (by rw [HSZ]; rfl) (by kernel_rfl)
      clear hρ
      go_simp
    · rintro f a' W h9 hd ⟨q, v', hh, rfl, S⟩
      refine wpOp_run (v := .pointer (some ⟨g, 2, none⟩)) rfl rfl (fun ρ hρ => ?_) ⟨q, v', hh, (acts_some 9 rfl (by kernel_rfl) (by kernel_rfl)).symm, S⟩
      have e0 : ρ (.tmp 47) = .pointer (some ⟨g, 0, none⟩) := by rw [hρ]; exact acts_eval_hit 8 rfl hd.1 (by rw [HSZ]; rfl) (by kernel_rfl)
      clear hρ
      go_simp
    · rintro f a' W h10 hd ⟨q, v', hh, rfl, S⟩
      have q48 : (acts [(0, 39, .pointer (some ⟨g, 0, none⟩)), (1, 40, .pointer (some ⟨g, 0, none⟩)), (2, 41, .pointer (some ⟨g, 0, none⟩)), (3, 42, .pointer (some ⟨g, 2, none⟩)), (4, 43, v), (5, 44, .agg #[.int .i64 id, .int .i64 1, .int .i64 1, .int .i64 0, .int .i64 0, .int .i64 0, .int .i64 0, .int .i64 0, .int .i64 0, .int .i64 0, .int .i64 0]), (6, 45, .slice (some ⟨q, 0, none⟩) 1 1), (7, 46, v'), (8, 47, .pointer (some ⟨g, 0, none⟩)), (9, 48, .pointer (some ⟨g, 2, none⟩))] f a0).eval (.tmp 48) = .pointer (some ⟨g, 2, none⟩) := acts_eval_hit 9 rfl hd.1 (by rw [HSZ]; rfl) (by kernel_rfl)
      have q46 : (acts [(0, 39, .pointer (some ⟨g, 0, none⟩)), (1, 40, .pointer (some ⟨g, 0, none⟩)), (2, 41, .pointer (some ⟨g, 0, none⟩)), (3, 42, .pointer (some ⟨g, 2, none⟩)), (4, 43, v), (5, 44, .agg #[.int .i64 id, .int .i64 1, .int .i64 1, .int .i64 0, .int .i64 0, .int .i64 0, .int .i64 0, .int .i64 0, .int .i64 0, .int .i64 0, .int .i64 0]), (6, 45, .slice (some ⟨q, 0, none⟩) 1 1), (7, 46, v'), (8, 47, .pointer (some ⟨g, 0, none⟩)), (9, 48, .pointer (some ⟨g, 2, none⟩))] f a0).eval (.tmp 46) = v' := acts_eval_hit 7 rfl hd.2.1 (by rw [HSZ]; rfl) (by kernel_rfl)
      (simp only [hd.2.1, h10, cond_true, cond_false] at S; obtain ⟨A', c', rfl, -⟩ := (S.pull3).ownSlice; refine wpOp_list rfl ?_; refine st_set rfl _ _ _ rfl _ _ _ q48 q46 rfl _ _ S.pull2 (by kernel_rfl) (by simp) fun W' S' => ?_; refine ⟨q, _, ⟨hh.1, hh.2.1, fun _ => hd.2.1⟩, (acts_none 10 (by kernel_rfl)).symm, ?_⟩; show Sat G W' (_ :: _ :: _ :: ownS _ _ (cond (f 7) _ _) (cond (f 7) _ _) (cond (f 7) _ _) :: _); rw [hd.2.1]; exact S'.push2)
  rintro a' W ⟨q, v', -, rfl, S3⟩
  subst ha0
  simp only [acts, if_true, Act.put, List.setIfInBounds_toArray, List.set_cons_succ, List.set_cons_zero]
  have S4 := (S3.drop.drop).re [2, 0, 1]
  clear S3 S2 HSZ E0 E7
  go_upto_region 11 with fail
  refine wp_world S4 fun w6 S2 => ?_
  clear S4
  refine wp_act fun a0 ha0 => ?_
  have HSZ : a0.tmps.size = 65 := by rw [ha0]; rfl
  have E0 : a0.eval (.tmp 0) = .pointer (some ⟨g, 0, none⟩) := by rw [ha0]; rfl
  have E6 : a0.eval (.tmp 6) = .int .i64 id := by rw [ha0]; rfl
  refine wp_region_J (by kernel_rfl) 12 (by kernel_rfl) [[], [0], [1], [2], [], [], [4, 5], [3, 6], [7], [8], [3, 6, 0, 1, 2, 3, 4, 5, 6, 7, 8, 9], [10, 9, 6, 0, 1, 2, 3, 4, 5, 6, 7, 8, 9]] (by kernel_rfl) (by kernel_rfl) (fun f a' W => (f 11 = true → f 8 = true) ∧ a' = acts [(0, 49, .pointer (some ⟨g, 0, none⟩)), (1, 50, .pointer (some ⟨g, 0, none⟩)), (2, 51, .pointer (some ⟨g, 3, none⟩)), (3, 52, .slice (some ⟨b, 0, none⟩) N cap), (4, 53, .pointer (some ⟨g, 0, none⟩)), (5, 54, .int .i64 id), (6, 55, .int .i64 T), (7, 56, .pointer (some ⟨b, T, none⟩)), (8, 57, .int .i64 x), (9, 58, .int .i64 (x + 1)), (10, 59, .pointer (some ⟨b, T, none⟩))] f a0 ∧ Sat G W (blk b (cond (f 11) (cur.setIfInBounds T (.int .i64 (x + 1))) cur) 3 :: blk g #[.int .i64 ten, .int .i64 quo, v', .slice (some ⟨b, 0, none⟩) N cap, .int .i64 last] 67 :: ownS 72 11 v' (F.length + 1) (encs Ent.enc F ++ Ent.enc (newE id)) :: l)) ?_ ?_ ?_
  · exact ⟨fun h => (by cases h), rfl, S2.drew⟩
  · refine ⟨?_, ?_, ?_, ?_, ?_, ?_, ?_, ?_, ?_, ?_, ?_, ?_, trivial⟩
    · rintro f a' W h0 hd ⟨hh, rfl, S⟩
      refine wpOp_run (v := .pointer (some ⟨g, 0, none⟩)) rfl rfl (fun ρ hρ => ?_) ⟨hh, (acts_some 0 rfl (by kernel_rfl) (by kernel_rfl)).symm, S⟩
      have e0 : ρ (.tmp 0) = .pointer (some ⟨g, 0, none⟩) := by rw [hρ]; exact (acts_eval_tmp 0 (by kernel_rfl)).trans E0
      clear hρ
      go_simp
    · rintro f a' W h1 hd ⟨hh, rfl, S⟩
      refine wpOp_run (v := .pointer (some ⟨g, 0, none⟩)) rfl rfl (fun ρ hρ => ?_) ⟨hh, (acts_some 1 rfl (by kernel_rfl) (by kernel_rfl)).symm, S⟩
      have e0 : ρ (.tmp 49) = .pointer (some ⟨g, 0, none⟩) := by rw [hρ]; exact acts_eval_hit 0 rfl hd.1 (by rw [HSZ]; rfl) (by kernel_rfl)
      clear hρ
      go_simp
    · rintro f a' W h2 hd ⟨hh, rfl, S⟩
      refine wpOp_run (v := .pointer (some ⟨g, 3, none⟩)) rfl rfl (fun ρ hρ => ?_) ⟨hh, (acts_some 2 rfl (by kernel_rfl) (by kernel_rfl)).symm, S⟩
      have e0 : ρ (.tmp 50) = .pointer (some ⟨g, 0, none⟩) := by rw [hρ]; exact acts_eval_hit 1 rfl hd.1 (by rw [HSZ]; rfl) (by kernel_rfl)
      clear hρ
      go_simp
    · rintro f a' W h3 hd ⟨hh, rfl, S⟩
      refine wpOp_run (v := .slice (some ⟨b, 0, none⟩) N cap) rfl rfl (fun ρ hρ => ?_) ⟨hh, (acts_some 3 rfl (by kernel_rfl) (by kernel_rfl)).symm, S⟩
      have e0 : ρ (.tmp 51) = .pointer (some ⟨g, 3, none⟩) := by rw [hρ]; exact acts_eval_hit 2 rfl hd.1 (by rw [HSZ]; rfl) (by kernel_rfl)
      clear hρ
      (have z : W.cell? ⟨g, 3, none⟩ = some (.slice (some ⟨b, 0, none⟩) N cap) := S.swap.cell 3)
      go_simp
    · rintro f a' W h4 hd ⟨hh, rfl, S⟩
      refine wpOp_run (v := .pointer (some ⟨g, 0, none⟩)) rfl rfl (fun ρ hρ => ?_) ⟨hh, (acts_some 4 rfl (by kernel_rfl) (by kernel_rfl)).symm, S⟩
      have e0 : ρ (.tmp 0) = .pointer (some ⟨g, 0, none⟩) := by rw [hρ]; exact (acts_eval_tmp 0 (by kernel_rfl)).trans E0
      clear hρ
      go_simp
    · rintro f a' W h5 hd ⟨hh, rfl, S⟩
      refine wpOp_run (v := .int .i64 id) rfl rfl (fun ρ hρ => ?_) ⟨hh, (acts_some 5 rfl (by kernel_rfl) (by kernel_rfl)).symm, S⟩
      have e0 : ρ (.tmp 6) = .int .i64 id := by rw [hρ]; exact (acts_eval_tmp 6 (by kernel_rfl)).trans E6
      clear hρ
      go_simp
    · rintro f a' W h6 hd ⟨hh, rfl, S⟩
      refine wpOp_call rfl rfl (fun ρ hρ => ?_) ((rg_owner (S.swap.cell 0) id)) ?_
      · skip
        have e0 : ρ (.tmp 53) = .pointer (some ⟨g, 0, none⟩) := by rw [hρ]; exact acts_eval_hit 4 rfl hd.1 (by rw [HSZ]; rfl) (by kernel_rfl)
        have e1 : ρ (.tmp 54) = .int .i64 id := by rw [hρ]; exact acts_eval_hit 5 rfl hd.2.1 (by rw [HSZ]; rfl) (by kernel_rfl)
        have ef : ρ (.func 23) = .func (.func 23) #[] #[] := by rw [hρ]; rfl
        clear hρ
        go_simp
      · (rintro e W' ⟨rfl, rfl⟩; rw [HOT.out]; exact ⟨_, rfl, hh, acts_swap rfl (k := 6) rfl (by kernel_rfl) (by kernel_rfl), S⟩)
    · rintro f a' W h7 hd ⟨hh, rfl, S⟩
      refine wpOp_run (v := .pointer (some ⟨b, T, none⟩)) rfl rfl (fun ρ hρ => ?_) ⟨hh, (acts_some 7 rfl (by kernel_rfl) (by kernel_rfl)).symm, S⟩
      have e0 : ρ (.tmp 52) = .slice (some ⟨b, 0, none⟩) N cap := by rw [hρ]; exact acts_eval_hit 3 rfl hd.1 (by rw [HSZ]; rfl) (by kernel_rfl)
      have e1 : ρ (.tmp 55) = .int .i64 T := by rw [hρ]; exact acts_eval_hit 6 rfl hd.2.1 (by rw [HSZ]; rfl) (by kernel_rfl)
      clear hρ
      go_simp
    · rintro f a' W h8 hd ⟨hh, rfl, S⟩
      (have z11 := no_of hh h8)
      refine wpOp_run (v := .int .i64 x) rfl rfl (fun ρ hρ => ?_) ⟨fun _ => rfl, (acts_some 8 rfl (by kernel_rfl) (by kernel_rfl)).symm, S⟩
      have e0 : ρ (.tmp 56) = .pointer (some ⟨b, T, none⟩) := by rw [hρ]; exact acts_eval_hit 7 rfl hd.1 (by rw [HSZ]; rfl) (by kernel_rfl)
      clear hρ
      (have z : W.cell? ⟨b, T, none⟩ = some (.int .i64 x) := (by have z := S.cell T; rw [z11] at z; exact z.trans HCX.out))
      go_simp
    · rintro f a' W h9 hd ⟨hh, rfl, S⟩
      refine wpOp_run (v := .int .i64 (x + 1)) rfl rfl (fun ρ hρ => ?_) ⟨hh, (acts_some 9 rfl (by kernel_rfl) (by kernel_rfl)).symm, S⟩
      have e0 : ρ (.tmp 57) = .int .i64 x := by rw [hρ]; exact acts_eval_hit 8 rfl hd.1 (by rw [HSZ]; rfl) (by kernel_rfl)
      have ec : ∀ v, ρ (.const v) = v := by rw [hρ]; exact fun _ => rfl
      clear hρ
      (have hwr : IntKind.i64.wrap (x + 1) = x + 1 := IntWalk.i64_in _ (by omega))
      go_simp
    · rintro f a' W h10 hd ⟨hh, rfl, S⟩
      refine wpOp_run (v := .pointer (some ⟨b, T, none⟩)) rfl rfl (fun ρ hρ => ?_) ⟨hh, (acts_some 10 rfl (by kernel_rfl) (by kernel_rfl)).symm, S⟩
      have e0 : ρ (.tmp 52) = .slice (some ⟨b, 0, none⟩) N cap := by rw [hρ]; exact acts_eval_hit 3 rfl hd.1 (by rw [HSZ]; rfl) (by kernel_rfl)
      have e1 : ρ (.tmp 55) = .int .i64 T := by rw [hρ]; exact acts_eval_hit 6 rfl hd.2.1 (by rw [HSZ]; rfl) (by kernel_rfl)
      clear hρ
      go_simp
    · rintro f a' W h11 hd ⟨hh, rfl, S⟩
      have q59 : (acts [(0, 49, .pointer (some ⟨g, 0, none⟩)), (1, 50, .pointer (some ⟨g, 0, none⟩)), (2, 51, .pointer (some ⟨g, 3, none⟩)), (3, 52, .slice (some ⟨b, 0, none⟩) N cap), (4, 53, .pointer (some ⟨g, 0, none⟩)), (5, 54, .int .i64 id), (6, 55, .int .i64 T), (7, 56, .pointer (some ⟨b, T, none⟩)), (8, 57, .int .i64 x), (9, 58, .int .i64 (x + 1)), (10, 59, .pointer (some ⟨b, T, none⟩))] f a0).eval (.tmp 59) = .pointer (some ⟨b, T, none⟩) := acts_eval_hit 10 rfl hd.1 (by rw [HSZ]; rfl) (by kernel_rfl)
      have q58 : (acts [(0, 49, .pointer (some ⟨g, 0, none⟩)), (1, 50, .pointer (some ⟨g, 0, none⟩)), (2, 51, .pointer (some ⟨g, 3, none⟩)), (3, 52, .slice (some ⟨b, 0, none⟩) N cap), (4, 53, .pointer (some ⟨g, 0, none⟩)), (5, 54, .int .i64 id), (6, 55, .int .i64 T), (7, 56, .pointer (some ⟨b, T, none⟩)), (8, 57, .int .i64 x), (9, 58, .int .i64 (x + 1)), (10, 59, .pointer (some ⟨b, T, none⟩))] f a0).eval (.tmp 58) = .int .i64 (x + 1) := acts_eval_hit 9 rfl hd.2.1 (by rw [HSZ]; rfl) (by kernel_rfl)
      (simp only [h11, cond_false] at S; refine wpOp_list rfl ?_; refine st_set rfl _ _ _ rfl _ _ _ q59 q58 rfl _ _ S (by kernel_rfl) HTC.out fun W' S' => ?_; exact ⟨fun _ => hd.2.2.2.2.2.2.2.2.2.2.2.1, (acts_none 11 (by kernel_rfl)).symm, S'⟩)
  rintro a' W ⟨-, rfl, S3⟩
  subst ha0
  simp only [acts, if_true, Act.put, List.setIfInBounds_toArray, List.set_cons_succ, List.set_cons_zero]
  clear S2 HSZ E0 E6
  have S5 := S3.swap
  clear S3
  have d4 := S5.cell 4
  have f4 := S5.frozen 4
  have S6 := S5.setCell 4 (.int .i64 id)
  have HS := Lib.hid S6
  clear S5 S6
  go_wp2_with fail
  refine hK.out _ _ ⟨rfl, rg_iff.2 ⟨v', .slice (some ⟨b, 0, none⟩) N cap, ?_⟩⟩
  have S7 := HS.out
  have hset := HLA.out.set (i := T) HTL.out (x + 1)
  have S8 := (S7.re [1, 0, 2]).layClose (cur := cur.setIfInBounds T (.int .i64 (x + 1))) (F := L.set T (x + 1)) (by simpa [lenc, setMid] using hset) HCP.out N (by rw [List.length_set]; exact HN.out)
  rw [HOT.out, show (T : Int).toNat = T by omega]
  have e1 : (F ++ [newE id]).length = F.length + 1 := by simp
  rw [e1, encs_append, encs_one]
  exact S8.re [1, 2, 0]
theorem rg_open (H : Sat G w (rgA g ten quo F L last :: l)) (hw : RWf ten quo F L last) (ht : TabG G) (tick : Int) : Calls Tryd.prog 12 #[.pointer (some ⟨g, 0, none⟩), .int .i64 tick] w fun e w' => e = .returned (.tuple #[.int .i64 (rOpen ten quo F L last tick).id, .int .i64 (rOpen ten quo F L last tick).err]) ∧ Sat G w' (rgA g ten quo (rOpen ten quo F L last tick).F (rOpen ten quo F L last tick).L (rOpen ten quo F L last tick).last :: l) := by
  by_cases h : idOf tick = 0 ∨ idOf tick ≤ last
  · refine (rg_open_early H tick h hw.last0).mono ?_
    rintro e w' ⟨rfl, rfl⟩
    have e1 : (rOpen ten quo F L last tick).F = F ∧ (rOpen ten quo F L last tick).L = L ∧ (rOpen ten quo F L last tick).last = last := by
      unfold rOpen
      rcases h with h | h
      · rw [if_pos h]; exact ⟨rfl, rfl, rfl⟩
      · by_cases h0 : idOf tick = 0
        · rw [if_pos h0]; exact ⟨rfl, rfl, rfl⟩
        · rw [if_neg h0, if_pos h]; exact ⟨rfl, rfl, rfl⟩
    rw [e1.1, e1.2.1, e1.2.2]
    exact ⟨rfl, H⟩
  · by_cases h2 : quo ≤ liveAt L (ownT (idOf tick) ten)
    · have e1 : (rOpen ten quo F L last tick).F = F ∧ (rOpen ten quo F L last tick).L = L ∧ (rOpen ten quo F L last tick).last = last := by
        unfold rOpen
        rw [if_neg (fun e => h (.inl e)), if_neg (fun e => h (.inr e)), if_pos h2]; exact ⟨rfl, rfl, rfl⟩
      exact rg_open_full H hw ht tick (fun e => h (.inl e)) (fun e => h (.inr e)) h2
    · exact rg_open_ok H hw ht tick (fun e => h (.inl e)) (fun e => h (.inr e)) h2
end
end Go.Proofs.YtecnddhfjjnbkaaDoor
