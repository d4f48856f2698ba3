/- The walks over frames: Right, Len, Equal, number. The walk over frame.Frame.Bytes. The walk over frame.All, whose frames lie in memory of their own; and the same, where nobody turns them. Frames as arguments; their bytes one behind the other. The walks over cell: right, Len, Room, Cells. The walks over cell.Fill and its reference. The walk over cell.Pad. The walk over cell.Frames. The walks over the window's functions: what each answers, and what it leaves. The walk over window.Parts: a number, split. The connection's window in parts: what it is in memory, and the walks that only read it. The walks over Spend and Grant. Lists of whole numbers that nobody turns; the walks over the reference: First, Sum, Grant, Spend. The walks over New, Parts, Copy. The walks over New and Copy. -/
import Derived.Test.YtcecfhfbcdbofaaGreatDoorG1
import Derived.Laws.CopyOwn
import Derived.Deep.OwnRows
import Derived.Deep.Cut
import Derived.StillTailTactics
import Derived.IntWalk
import Derived.Deep.RegionHeld
import Derived.Laws.Cover3
set_option linter.unusedSimpArgs false
set_option linter.unusedVariables false
namespace Go.Proofs.YtcecfhfbcdbofaaGreatDoor
open Go.RowKit

/-- May a frame be? -/
def frRight (t f s n : Int) : Bool := decide (0 ≤ t ∧ t ≤ 255 ∧ 0 ≤ f ∧ f ≤ 255 ∧ 0 ≤ s ∧ s ≤ 2147483647 ∧ n ≤ 16777215)
theorem frame_right {G : Gnd} {w : World} {l : List Asrt} (H : Sat G w l) (t f s : Int) (A : Option Addr) (n c : Nat) :
    Calls Tryz.prog 75 #[.agg #[.int .i64 t, .int .i64 f, .int .i64 s, .slice A n c]] w fun e w' => e = .returned (.bool (frRight t f s n)) ∧ Sat G w' l := by
  refine calls_any fun K hK => ?_
  have S := H.alloc (.cells #[.int .i64 t, .int .i64 f, .int .i64 s, .slice A n c] 84)
  by_cases a1 : t ≥ 0
  · by_cases a2 : t ≤ 255
    · by_cases a3 : f ≥ 0
      · by_cases a4 : f ≤ 255
        · by_cases a5 : s ≥ 0
          · by_cases a6 : s ≤ 2147483647
            · have er : frRight t f s n = decide ((n : Int) ≤ 16777215) := by unfold frRight; congr 1; exact propext ⟨fun h => h.2.2.2.2.2.2, fun h => ⟨a1, a2, a3, a4, a5, a6, h⟩⟩
              rw [er] at hK
              replace a1 := decide_eq_true a1
              replace a2 := decide_eq_true a2
              replace a3 := decide_eq_true a3
              replace a4 := decide_eq_true a4
              replace a5 := decide_eq_true a5
              replace a6 := decide_eq_true a6
              go_enter Tryz.func75, Tryz.ntmps75
              go_wp2_with fail
              exact hK.out _ _ ⟨rfl, S⟩
            · have er : frRight t f s n = false := decide_eq_false (by omega)
              rw [er] at hK
              replace a1 := decide_eq_true a1
              replace a2 := decide_eq_true a2
              replace a3 := decide_eq_true a3
              replace a4 := decide_eq_true a4
              replace a5 := decide_eq_true a5
              replace a6 := decide_eq_false a6
              go_enter Tryz.func75, Tryz.ntmps75
              go_wp2_with fail
              exact hK.out _ _ ⟨rfl, S⟩
          · have er : frRight t f s n = false := decide_eq_false (by omega)
            rw [er] at hK
            replace a1 := decide_eq_true a1
            replace a2 := decide_eq_true a2
            replace a3 := decide_eq_true a3
            replace a4 := decide_eq_true a4
            replace a5 := decide_eq_false a5
            go_enter Tryz.func75, Tryz.ntmps75
            go_wp2_with fail
            exact hK.out _ _ ⟨rfl, S⟩
        · have er : frRight t f s n = false := decide_eq_false (by omega)
          rw [er] at hK
          replace a1 := decide_eq_true a1
          replace a2 := decide_eq_true a2
          replace a3 := decide_eq_true a3
          replace a4 := decide_eq_false a4
          go_enter Tryz.func75, Tryz.ntmps75
          go_wp2_with fail
          exact hK.out _ _ ⟨rfl, S⟩
      · have er : frRight t f s n = false := decide_eq_false (by omega)
        rw [er] at hK
        replace a1 := decide_eq_true a1
        replace a2 := decide_eq_true a2
        replace a3 := decide_eq_false a3
        go_enter Tryz.func75, Tryz.ntmps75
        go_wp2_with fail
        exact hK.out _ _ ⟨rfl, S⟩
    · have er : frRight t f s n = false := decide_eq_false (by omega)
      rw [er] at hK
      replace a1 := decide_eq_true a1
      replace a2 := decide_eq_false a2
      go_enter Tryz.func75, Tryz.ntmps75
      go_wp2_with fail
      exact hK.out _ _ ⟨rfl, S⟩
  · have er : frRight t f s n = false := decide_eq_false (by omega)
    rw [er] at hK
    replace a1 := decide_eq_false a1
    go_enter Tryz.func75, Tryz.ntmps75
    go_wp2_with fail
    exact hK.out _ _ ⟨rfl, S⟩
end Go.Proofs.YtcecfhfbcdbofaaGreatDoor
set_option linter.unusedSimpArgs false
set_option linter.unusedVariables false
namespace Go.Proofs.YtcecfhfbcdbofaaGreatDoor
open Go.RowKit

section
variable {G : Gnd} {w : World} {l : List Asrt} {A X0 X1 X2 X3 X4 : Asrt}
theorem Sat.rep1 (H : Sat G w (A :: X0 :: X1 :: l)) : Sat G w (X0 :: A :: l) := H.pull2.drop.swap
theorem Sat.rep2 (H : Sat G w (A :: X0 :: X1 :: X2 :: l)) : Sat G w (X0 :: X1 :: A :: l) := H.pull3.drop.push2
theorem Sat.rep3 (H : Sat G w (A :: X0 :: X1 :: X2 :: X3 :: l)) : Sat G w (X0 :: X1 :: X2 :: A :: l) := (Sat.mid [_, _, _, _] H).drop.push3
theorem Sat.rep4 (H : Sat G w (A :: X0 :: X1 :: X2 :: X3 :: X4 :: l)) : Sat G w (X0 :: X1 :: X2 :: X3 :: A :: l) := Sat.dim [_, _, _, _] (Sat.mid [_, _, _, _, _] H).drop
end
/-- The bytes of a frame. -/
def frBytes (t f s : Nat) (bs : List UInt8) : List UInt8 := bigOf bs.length 3 ++ ([UInt8.ofNat t, UInt8.ofNat f] ++ (bigOf s 4 ++ bs))
theorem frBytes_length (t f s : Nat) (bs : List UInt8) : (frBytes t f s bs).length = 9 + bs.length := by simp [frBytes, bigOf_length]; omega
theorem frame_bytes_not {G : Gnd} {w : World} {l : List Asrt} (H : Sat G w l) (t f s : Int) (A : Option Addr) (n c : Nat) (hr : frRight t f s n = false) :
    Calls Tryz.prog 52 #[.agg #[.int .i64 t, .int .i64 f, .int .i64 s, .slice A n c]] w fun e w' => e = .returned (.tuple #[.slice none 0 0, .int .i64 10]) ∧ Sat G w' l := by
  refine calls_any fun K hK => ?_
  have S := H.newBlk #[.int .i64 t, .int .i64 f, .int .i64 s, .slice A n c] 84
  have hrt := frame_right S t f s A n c
  rw [hr] at hrt
  clear H
  go_enter Tryz.func52, Tryz.ntmps52
  go_wp2_with fail
  (with_reducible refine hrt.mono ?_)
  rintro e w1 ⟨rfl, S1⟩
  go_wp2_with fail
  exact hK.out _ _ ⟨rfl, S1.drop⟩
theorem parts_of {G : Gnd} {w : World} {l : List Asrt} {b1 b2 b3 b4 : Bool} {u11 u18 u22 v : Value} {X4 X5 : Asrt} {g n s t fl : Nat} {bs : List UInt8}
    (S : Sat G w (opt b1 (ownS 5 1 u11 3 ((bigOf n 3).map byteV)) :: opt b2 (ownS 5 1 u18 2 ([UInt8.ofNat t, UInt8.ofNat fl].map byteV)) :: opt b3 (ownS 5 1 u22 4 ((bigOf s 4).map byteV)) :: opt b4 (blk g #[u11, u18, u22, v] 35) :: X4 :: X5 :: l))
    (h1 : b1 = true) (h2 : b2 = true) (h3 : b3 = true) (h4 : b4 = true) (hv : ∀ W, Sat G W l → SlB W.cell? v bs) :
    ∀ i bs', [bigOf n 3, [UInt8.ofNat t, UInt8.ofNat fl], bigOf s 4, bs][i]? = some bs' → ∃ v, w.cell? ((⟨g, 0, none⟩ : Addr).add i) = some v ∧ SlB w.cell? v bs' := by
  subst h1; subst h2; subst h3; subst h4
  have hc : ∀ i, w.cell? ((⟨g, 0, none⟩ : Addr).add i) = #[u11, u18, u22, v][i]? := fun i => by
    have e : (⟨g, 0, none⟩ : Addr).add i = ⟨g, i, none⟩ := by unfold Addr.add; split <;> simp_all
    rw [e]; exact (opt_iff.1 (Sat.mid [_, _, _] S)).cell i
  have s1 : SlB w.cell? u11 (bigOf n 3) := own_slb (t := 5) (by rw [bigOf_length]; exact opt_iff.1 S)
  have s2 : SlB w.cell? u18 [UInt8.ofNat t, UInt8.ofNat fl] := own_slb (t := 5) (opt_iff.1 (Sat.mid [_] S))
  have s3 : SlB w.cell? u22 (bigOf s 4) := own_slb (t := 5) (by rw [bigOf_length]; exact opt_iff.1 (Sat.mid [_, _] S))
  have s4 : SlB w.cell? v bs := hv w S.drop.drop.drop.drop.drop.drop
  intro i bs' hi
  rcases i with _ | _ | _ | _ | i
  · cases hi; exact ⟨_, by rw [hc]; rfl, s1⟩
  · cases hi; exact ⟨_, by rw [hc]; rfl, s2⟩
  · cases hi; exact ⟨_, by rw [hc]; rfl, s3⟩
  · cases hi; exact ⟨_, by rw [hc]; rfl, s4⟩
  · simp at hi
set_option maxHeartbeats 4000000 in
set_option maxRecDepth 100000 in
theorem frame_bytes {G : Gnd} {w : World} {l : List Asrt} (H : Sat G w l) (t fl s : Nat) (v : Value) (bs : List UInt8) (hv : ∀ W, Sat G W l → SlB W.cell? v bs) (ht : t ≤ 255) (hf : fl ≤ 255) (hs : s ≤ 2147483647) (hn : bs.length ≤ 16777215) :
    Calls Tryz.prog 52 #[.agg #[.int .i64 t, .int .i64 fl, .int .i64 s, v]] w fun e w' => ∃ u, e = .returned (.tuple #[u, .int .i64 0]) ∧ Sat G w' (ownS 5 1 u (frBytes t fl s bs).length ((frBytes t fl s bs).map byteV) :: l) := by
  refine calls_any fun K hK => ?_
  obtain ⟨A, c, rfl, hc1, hc2, hA⟩ := (hv w H).form
  have S := H.newBlk #[.int .i64 t, .int .i64 fl, .int .i64 s, .slice A bs.length c] 84
  have hrt := frame_right S t fl s A bs.length c
  rw [show frRight t fl s bs.length = true from decide_eq_true (by omega)] at hrt
  have hc3 : c ≤ 9223372036854775807 := hc2
  have HV := Lib.hid hv
  clear H hv
  go_enter Tryz.func52, Tryz.ntmps52
  go_wp2_with fail
  (with_reducible refine hrt.mono ?_)
  clear hrt
  rintro e w1 ⟨rfl, S1⟩
  clear S
  go_upto_region 3 with fail
  generalize w.heap.size = p at *
  have m1 : IntKind.u8.wrap (t : Int) = t := IntWalk.u8_in _ ⟨by omega, by omega⟩
  have m2 : IntKind.u8.wrap (fl : Int) = fl := IntWalk.u8_in _ ⟨by omega, by omega⟩
  have m3 : IntKind.u64.wrap (s : Int) = s := IntWalk.u64_in _ ⟨by omega, by omega⟩
  have m4 : IntKind.u64.wrap (bs.length : Int) = bs.length := IntWalk.u64_in _ ⟨by omega, by omega⟩
  have hby : (#[Value.int .u8 (t : Int), .int .u8 (fl : Int)] : Array Value).toList = [UInt8.ofNat t, UInt8.ofNat fl].map byteV := by
    simp [byteV]; omega
  have hfl : [bigOf bs.length 3, [UInt8.ofNat t, UInt8.ofNat fl], bigOf s 4, bs].flatten = frBytes t fl s bs := by simp [frBytes]
  refine wp_act fun a0 ha0 => ?_
  have HSZ : a0.tmps.size = 27 := by rw [ha0]; rfl
  have E1 : a0.eval (.tmp 1) = .pointer (some ⟨p, 0, none⟩) := by rw [ha0]; rfl
  refine wp_region_J (by kernel_rfl) 22 (by kernel_rfl) [[], [0], [1], [2], [3], [], [5], [6], [], [8], [9], [7, 10], [], [12], [13], [14, 4], [], [16], [4, 11, 15, 17], [18, 15], [19, 19, 0, 1, 2, 3, 4, 5, 6, 7, 8, 9, 10, 11, 12, 13, 14, 15, 16, 17, 18, 19], [20, 0, 1, 2, 3, 4, 5, 6, 7, 8, 9, 10, 11, 12, 13, 14, 15, 16, 17, 18, 19, 20]] (by kernel_rfl) (by kernel_rfl) (fun f a' W => ∃ u11 u18 u22 g u26, (f 18 = true → f 4 = true ∧ f 11 = true ∧ f 15 = true) ∧ (f 20 = true → f 19 = true) ∧ a' = acts [(0, 7, .pointer (some ⟨p, 3, none⟩)), (1, 8, .slice A bs.length c), (2, 9, .int .i64 bs.length), (3, 10, .int .u64 bs.length), (4, 11, u11), (5, 12, .pointer (some ⟨p, 0, none⟩)), (6, 13, .int .i64 t), (7, 14, .int .u8 t), (8, 15, .pointer (some ⟨p, 1, none⟩)), (9, 16, .int .i64 fl), (10, 17, .int .u8 fl), (11, 18, u18), (12, 19, .pointer (some ⟨p, 2, none⟩)), (13, 20, .int .i64 s), (14, 21, .int .u64 s), (15, 22, u22), (16, 23, .pointer (some ⟨p, 3, none⟩)), (17, 24, .slice A bs.length c), (18, 25, .slice (some ⟨g, 0, none⟩) 4 4), (19, 26, u26), (20, 2, u26), (21, 3, .int .i64 0)] f a0 ∧ Sat G W (opt (f 4) (ownS 5 1 u11 3 ((bigOf bs.length 3).map byteV)) :: opt (f 11) (ownS 5 1 u18 2 ([UInt8.ofNat t, UInt8.ofNat fl].map byteV)) :: opt (f 15) (ownS 5 1 u22 4 ((bigOf s 4).map byteV)) :: opt (f 18) (blk g #[u11, u18, u22, .slice A bs.length c] 35) :: opt (f 19) (ownS 5 1 u26 (frBytes t fl s bs).length ((frBytes t fl s bs).map byteV)) :: blk p #[.int .i64 t, .int .i64 fl, .int .i64 s, .slice A bs.length c] 84 :: l)) ?_ ?_ ?_
  · exact ⟨undef, undef, undef, 0, undef, fun h => absurd h (by decide), fun h => absurd h (by decide), rfl, S1.drew.opt0.opt0.opt0.opt0.opt0⟩
  · refine ⟨?_, ?_, ?_, ?_, ?_, ?_, ?_, ?_, ?_, ?_, ?_, ?_, ?_, ?_, ?_, ?_, ?_, ?_, ?_, ?_, ?_, ?_, trivial⟩
    · rintro f a' W h0 hd ⟨u11, u18, u22, g, u26, HI, HI2, rfl, S⟩
      refine wpOp_run (v := .pointer (some ⟨p, 3, none⟩)) rfl rfl (fun ρ hρ => ?_) ⟨u11, u18, u22, g, u26, HI, HI2, (acts_some 0 rfl (by kernel_rfl) (by kernel_rfl)).symm, S⟩
      have e0 : ρ (.tmp 1) = .pointer (some ⟨p, 0, none⟩) := by rw [hρ]; exact (acts_eval_tmp 1 (by kernel_rfl)).trans E1
      clear hρ
      go_simp
    · rintro f a' W h1 hd ⟨u11, u18, u22, g, u26, HI, HI2, rfl, S⟩
      refine wpOp_run (v := .slice A bs.length c) rfl rfl (fun ρ hρ => ?_) ⟨u11, u18, u22, g, u26, HI, HI2, (acts_some 1 rfl (by kernel_rfl) (by kernel_rfl)).symm, S⟩
      have e0 : ρ (.tmp 7) = .pointer (some ⟨p, 3, none⟩) := by rw [hρ]; exact acts_eval_hit 0 rfl hd.1 (by rw [HSZ]; rfl) (by kernel_rfl)
      clear hρ
      (have hcl : W.cell? ⟨p, 3, none⟩ = some (.slice A bs.length c) := (Sat.mid [_, _, _, _, _] S).cell 3)
      go_simp
    · rintro f a' W h2 hd ⟨u11, u18, u22, g, u26, HI, HI2, rfl, S⟩
      refine wpOp_run (v := .int .i64 bs.length) rfl rfl (fun ρ hρ => ?_) ⟨u11, u18, u22, g, u26, HI, HI2, (acts_some 2 rfl (by kernel_rfl) (by kernel_rfl)).symm, S⟩
      have e0 : ρ (.tmp 8) = .slice A bs.length c := by rw [hρ]; exact acts_eval_hit 1 rfl hd.1 (by rw [HSZ]; rfl) (by kernel_rfl)
      clear hρ
      go_simp
    · rintro f a' W h3 hd ⟨u11, u18, u22, g, u26, HI, HI2, rfl, S⟩
      refine wpOp_run (v := .int .u64 bs.length) rfl rfl (fun ρ hρ => ?_) ⟨u11, u18, u22, g, u26, HI, HI2, (acts_some 3 rfl (by kernel_rfl) (by kernel_rfl)).symm, S⟩
      have e0 : ρ (.tmp 9) = .int .i64 bs.length := by rw [hρ]; exact acts_eval_hit 2 rfl hd.1 (by rw [HSZ]; rfl) (by kernel_rfl)
      clear hρ
      go_simp
    · rintro f a' W h4 hd ⟨u11, u18, u22, g, u26, HI, HI2, rfl, S⟩
      refine wpOp_call rfl rfl (fun ρ hρ => ?_) (octet_big_all S bs.length 3 (by omega) (by decide)) ?_
      · skip
        have e0 : ρ (.tmp 10) = .int .u64 bs.length := by rw [hρ]; exact acts_eval_hit 3 rfl hd.1 (by rw [HSZ]; rfl) (by kernel_rfl)
        have ef : ρ (.func 66) = .func (.func 66) #[] #[] := by rw [hρ]; rfl
        have ec : ∀ v, ρ (.const v) = v := by rw [hρ]; exact fun _ => rfl
        clear hρ
        go_simp
      · (rintro e W' ⟨u', rfl, S'⟩; exact ⟨_, rfl, u', u18, u22, g, u26, fun h => absurd (HI h).1 (by rw [h4]; decide), HI2, acts_swap (by simp only [acts, h4, Bool.false_eq_true, if_false]) (k := 4) rfl (by kernel_rfl) (by kernel_rfl), by have h18 : f 18 = false := (by cases hx : f 18; rfl; exact absurd (HI hx).1 (by rw [h4]; decide)); have S2 := Sat.optI (b := true) rfl S'.drop2; have S3 := (Sat.mid [_, _, _] S2).drop; have S4 := Sat.dim [_, _, _] (Sat.opt0 (A := blk g #[u', u18, u22, .slice A bs.length c] 35) S3); rw [← h18] at S4; exact S4⟩)
    · rintro f a' W h5 hd ⟨u11, u18, u22, g, u26, HI, HI2, rfl, S⟩
      refine wpOp_run (v := .pointer (some ⟨p, 0, none⟩)) rfl rfl (fun ρ hρ => ?_) ⟨u11, u18, u22, g, u26, HI, HI2, (acts_some 5 rfl (by kernel_rfl) (by kernel_rfl)).symm, S⟩
      have e0 : ρ (.tmp 1) = .pointer (some ⟨p, 0, none⟩) := by rw [hρ]; exact (acts_eval_tmp 1 (by kernel_rfl)).trans E1
      clear hρ
      go_simp
    · rintro f a' W h6 hd ⟨u11, u18, u22, g, u26, HI, HI2, rfl, S⟩
      refine wpOp_run (v := .int .i64 t) rfl rfl (fun ρ hρ => ?_) ⟨u11, u18, u22, g, u26, HI, HI2, (acts_some 6 rfl (by kernel_rfl) (by kernel_rfl)).symm, S⟩
      have e0 : ρ (.tmp 12) = .pointer (some ⟨p, 0, none⟩) := by rw [hρ]; exact acts_eval_hit 5 rfl hd.1 (by rw [HSZ]; rfl) (by kernel_rfl)
      clear hρ
      (have hcl : W.cell? ⟨p, 0, none⟩ = some (.int .i64 t) := (Sat.mid [_, _, _, _, _] S).cell 0)
      go_simp
    · rintro f a' W h7 hd ⟨u11, u18, u22, g, u26, HI, HI2, rfl, S⟩
      refine wpOp_run (v := .int .u8 t) rfl rfl (fun ρ hρ => ?_) ⟨u11, u18, u22, g, u26, HI, HI2, (acts_some 7 rfl (by kernel_rfl) (by kernel_rfl)).symm, S⟩
      have e0 : ρ (.tmp 13) = .int .i64 t := by rw [hρ]; exact acts_eval_hit 6 rfl hd.1 (by rw [HSZ]; rfl) (by kernel_rfl)
      clear hρ
      go_simp
    · rintro f a' W h8 hd ⟨u11, u18, u22, g, u26, HI, HI2, rfl, S⟩
      refine wpOp_run (v := .pointer (some ⟨p, 1, none⟩)) rfl rfl (fun ρ hρ => ?_) ⟨u11, u18, u22, g, u26, HI, HI2, (acts_some 8 rfl (by kernel_rfl) (by kernel_rfl)).symm, S⟩
      have e0 : ρ (.tmp 1) = .pointer (some ⟨p, 0, none⟩) := by rw [hρ]; exact (acts_eval_tmp 1 (by kernel_rfl)).trans E1
      clear hρ
      go_simp
    · rintro f a' W h9 hd ⟨u11, u18, u22, g, u26, HI, HI2, rfl, S⟩
      refine wpOp_run (v := .int .i64 fl) rfl rfl (fun ρ hρ => ?_) ⟨u11, u18, u22, g, u26, HI, HI2, (acts_some 9 rfl (by kernel_rfl) (by kernel_rfl)).symm, S⟩
      have e0 : ρ (.tmp 15) = .pointer (some ⟨p, 1, none⟩) := by rw [hρ]; exact acts_eval_hit 8 rfl hd.1 (by rw [HSZ]; rfl) (by kernel_rfl)
      clear hρ
      (have hcl : W.cell? ⟨p, 1, none⟩ = some (.int .i64 fl) := (Sat.mid [_, _, _, _, _] S).cell 1)
      go_simp
    · rintro f a' W h10 hd ⟨u11, u18, u22, g, u26, HI, HI2, rfl, S⟩
      refine wpOp_run (v := .int .u8 fl) rfl rfl (fun ρ hρ => ?_) ⟨u11, u18, u22, g, u26, HI, HI2, (acts_some 10 rfl (by kernel_rfl) (by kernel_rfl)).symm, S⟩
      have e0 : ρ (.tmp 16) = .int .i64 fl := by rw [hρ]; exact acts_eval_hit 9 rfl hd.1 (by rw [HSZ]; rfl) (by kernel_rfl)
      clear hρ
      go_simp
    · rintro f a' W h11 hd ⟨u11, u18, u22, g, u26, HI, HI2, rfl, S⟩
      refine wpOp_mem (v := .slice (some ⟨W.heap.size, 0, none⟩) 2 2) (w' := W.alloc (.cells #[.int .u8 t, .int .u8 fl] 5)) rfl rfl (fun ρ hρ => ?_) (⟨u11, .slice (some ⟨W.heap.size, 0, none⟩) 2 2, u22, g, u26, fun h => absurd (HI h).2.1 (by rw [h11]; decide), HI2, acts_swap (by simp only [acts, h11, Bool.false_eq_true, if_false]) (k := 11) rfl (by kernel_rfl) (by kernel_rfl), by have h18 : f 18 = false := (by cases hx : f 18; rfl; exact absurd (HI hx).2.1 (by rw [h11]; decide)); have S2 := (S.newBlk #[.int .u8 t, .int .u8 fl] 5).ownBlk (size := 1) 2 rfl (by decide); rw [hby] at S2; have S3 := Sat.rep1 (Sat.optI (b := true) rfl S2); have S4 := (Sat.mid [_, _, _] S3).drop; have S5 := Sat.dim [_, _, _] (Sat.opt0 (A := blk g #[u11, .slice (some ⟨W.heap.size, 0, none⟩) 2 2, u22, .slice A bs.length c] 35) S4); rw [← h18] at S5; exact S5⟩)
      have e0 : ρ (.tmp 14) = .int .u8 t := by rw [hρ]; exact acts_eval_hit 7 rfl hd.1 (by rw [HSZ]; rfl) (by kernel_rfl)
      have e1 : ρ (.tmp 17) = .int .u8 fl := by rw [hρ]; exact acts_eval_hit 10 rfl hd.2.1 (by rw [HSZ]; rfl) (by kernel_rfl)
      clear hρ
      go_simp
    · rintro f a' W h12 hd ⟨u11, u18, u22, g, u26, HI, HI2, rfl, S⟩
      refine wpOp_run (v := .pointer (some ⟨p, 2, none⟩)) rfl rfl (fun ρ hρ => ?_) ⟨u11, u18, u22, g, u26, HI, HI2, (acts_some 12 rfl (by kernel_rfl) (by kernel_rfl)).symm, S⟩
      have e0 : ρ (.tmp 1) = .pointer (some ⟨p, 0, none⟩) := by rw [hρ]; exact (acts_eval_tmp 1 (by kernel_rfl)).trans E1
      clear hρ
      go_simp
    · rintro f a' W h13 hd ⟨u11, u18, u22, g, u26, HI, HI2, rfl, S⟩
      refine wpOp_run (v := .int .i64 s) rfl rfl (fun ρ hρ => ?_) ⟨u11, u18, u22, g, u26, HI, HI2, (acts_some 13 rfl (by kernel_rfl) (by kernel_rfl)).symm, S⟩
      have e0 : ρ (.tmp 19) = .pointer (some ⟨p, 2, none⟩) := by rw [hρ]; exact acts_eval_hit 12 rfl hd.1 (by rw [HSZ]; rfl) (by kernel_rfl)
      clear hρ
      (have hcl : W.cell? ⟨p, 2, none⟩ = some (.int .i64 s) := (Sat.mid [_, _, _, _, _] S).cell 2)
      go_simp
    · rintro f a' W h14 hd ⟨u11, u18, u22, g, u26, HI, HI2, rfl, S⟩
      refine wpOp_run (v := .int .u64 s) rfl rfl (fun ρ hρ => ?_) ⟨u11, u18, u22, g, u26, HI, HI2, (acts_some 14 rfl (by kernel_rfl) (by kernel_rfl)).symm, S⟩
      have e0 : ρ (.tmp 20) = .int .i64 s := by rw [hρ]; exact acts_eval_hit 13 rfl hd.1 (by rw [HSZ]; rfl) (by kernel_rfl)
      clear hρ
      go_simp
    · rintro f a' W h15 hd ⟨u11, u18, u22, g, u26, HI, HI2, rfl, S⟩
      refine wpOp_call rfl rfl (fun ρ hρ => ?_) (octet_big_all S s 4 (by omega) (by decide)) ?_
      · skip
        have e0 : ρ (.tmp 21) = .int .u64 s := by rw [hρ]; exact acts_eval_hit 14 rfl hd.1 (by rw [HSZ]; rfl) (by kernel_rfl)
        have ef : ρ (.func 66) = .func (.func 66) #[] #[] := by rw [hρ]; rfl
        have ec : ∀ v, ρ (.const v) = v := by rw [hρ]; exact fun _ => rfl
        clear hρ
        go_simp
      · (rintro e W' ⟨u', rfl, S'⟩; exact ⟨_, rfl, u11, u18, u', g, u26, fun h => absurd (HI h).2.2 (by rw [h15]; decide), HI2, acts_swap (by simp only [acts, h15, Bool.false_eq_true, if_false]) (k := 15) rfl (by kernel_rfl) (by kernel_rfl), by have h18 : f 18 = false := (by cases hx : f 18; rfl; exact absurd (HI hx).2.2 (by rw [h15]; decide)); have S2 := Sat.rep2 (Sat.optI (b := true) rfl S'); have S3 := (Sat.mid [_, _, _] S2).drop; have S4 := Sat.dim [_, _, _] (Sat.opt0 (A := blk g #[u11, u18, u', .slice A bs.length c] 35) S3); rw [← h18] at S4; exact S4⟩)
    · rintro f a' W h16 hd ⟨u11, u18, u22, g, u26, HI, HI2, rfl, S⟩
      refine wpOp_run (v := .pointer (some ⟨p, 3, none⟩)) rfl rfl (fun ρ hρ => ?_) ⟨u11, u18, u22, g, u26, HI, HI2, (acts_some 16 rfl (by kernel_rfl) (by kernel_rfl)).symm, S⟩
      have e0 : ρ (.tmp 1) = .pointer (some ⟨p, 0, none⟩) := by rw [hρ]; exact (acts_eval_tmp 1 (by kernel_rfl)).trans E1
      clear hρ
      go_simp
    · rintro f a' W h17 hd ⟨u11, u18, u22, g, u26, HI, HI2, rfl, S⟩
      refine wpOp_run (v := .slice A bs.length c) rfl rfl (fun ρ hρ => ?_) ⟨u11, u18, u22, g, u26, HI, HI2, (acts_some 17 rfl (by kernel_rfl) (by kernel_rfl)).symm, S⟩
      have e0 : ρ (.tmp 23) = .pointer (some ⟨p, 3, none⟩) := by rw [hρ]; exact acts_eval_hit 16 rfl hd.1 (by rw [HSZ]; rfl) (by kernel_rfl)
      clear hρ
      (have hcl : W.cell? ⟨p, 3, none⟩ = some (.slice A bs.length c) := (Sat.mid [_, _, _, _, _] S).cell 3)
      go_simp
    · rintro f a' W h18 hd ⟨u11, u18, u22, g, u26, HI, HI2, rfl, S⟩
      obtain ⟨A1, c1, q1, -⟩ := (Sat.optE hd.1 S).ownForm; obtain ⟨A2, c2, q2, -⟩ := (Sat.optE hd.2.1 (Sat.mid [_] S)).ownForm; obtain ⟨A3, c3, q3, -⟩ := (Sat.optE hd.2.2.1 (Sat.mid [_, _] S)).ownForm
      refine wpOp_mem (v := .slice (some ⟨W.heap.size, 0, none⟩) 4 4) (w' := W.alloc (.cells #[u11, u18, u22, .slice A bs.length c] 35)) rfl rfl (fun ρ hρ => ?_) (⟨u11, u18, u22, W.heap.size, u26, fun _ => ⟨hd.1, hd.2.1, hd.2.2.1⟩, HI2, acts_swap (by simp only [acts, h18, Bool.false_eq_true, if_false]) (k := 18) rfl (by kernel_rfl) (by kernel_rfl), Sat.rep3 (Sat.optI rfl (S.newBlk _ _))⟩)
      have e0 : ρ (.tmp 11) = u11 := by rw [hρ]; exact acts_eval_hit 4 rfl hd.1 (by rw [HSZ]; rfl) (by kernel_rfl)
      have e1 : ρ (.tmp 18) = u18 := by rw [hρ]; exact acts_eval_hit 11 rfl hd.2.1 (by rw [HSZ]; rfl) (by kernel_rfl)
      have e2 : ρ (.tmp 22) = u22 := by rw [hρ]; exact acts_eval_hit 15 rfl hd.2.2.1 (by rw [HSZ]; rfl) (by kernel_rfl)
      have e3 : ρ (.tmp 24) = .slice A bs.length c := by rw [hρ]; exact acts_eval_hit 17 rfl hd.2.2.2.1 (by rw [HSZ]; rfl) (by kernel_rfl)
      clear hρ
      go_simp
    · rintro f a' W h19 hd ⟨u11, u18, u22, g, u26, HI, HI2, rfl, S⟩
      refine wpOp_call rfl rfl (fun ρ hρ => ?_) (concat_bytes S ⟨g, 0, none⟩ 4 [bigOf bs.length 3, [UInt8.ofNat t, UInt8.ofNat fl], bigOf s 4, bs] (fun W S ↦ parts_of S (HI hd.1).1 (HI hd.1).2.1 (HI hd.1).2.2 hd.1 HV.out) (by simp [bigOf_length]; omega) (by simp) (by decide)) ?_
      · skip
        have e0 : ρ (.tmp 25) = .slice (some ⟨g, 0, none⟩) 4 4 := by rw [hρ]; exact acts_eval_hit 18 rfl hd.1 (by rw [HSZ]; rfl) (by kernel_rfl)
        have ef : ρ (.func 76) = .func (.func 76) #[] #[] := by rw [hρ]; rfl
        clear hρ
        go_simp
      · (rintro e W' ⟨u', rfl, S'⟩; rw [hfl] at S'; exact ⟨_, rfl, u11, u18, u22, g, u', HI, fun _ => rfl, acts_swap (by have h20 : f 20 = false := (by cases hx : f 20; rfl; exact absurd (HI2 hx) (by rw [h19]; decide)); simp only [acts, h19, h20, Bool.false_eq_true, if_false]) (k := 19) rfl (by kernel_rfl) (by kernel_rfl), Sat.rep4 (Sat.optI rfl S')⟩)
    · rintro f a' W h20 hd ⟨u11, u18, u22, g, u26, HI, HI2, rfl, S⟩
      refine wpOp_run (v := u26) rfl rfl (fun ρ hρ => ?_) ⟨u11, u18, u22, g, u26, HI, fun _ => hd.1, (acts_some 20 rfl (by kernel_rfl) (by kernel_rfl)).symm, S⟩
      have e0 : ρ (.tmp 26) = u26 := by rw [hρ]; exact acts_eval_hit 19 rfl hd.1 (by rw [HSZ]; rfl) (by kernel_rfl)
      clear hρ
      go_simp
    · rintro f a' W h21 hd ⟨u11, u18, u22, g, u26, HI, HI2, rfl, S⟩
      refine wpOp_run (v := .int .i64 0) rfl rfl (fun ρ hρ => ?_) ⟨u11, u18, u22, g, u26, HI, HI2, (acts_some 21 rfl (by kernel_rfl) (by kernel_rfl)).symm, S⟩
      have ec : ∀ v, ρ (.const v) = v := by rw [hρ]; exact fun _ => rfl
      clear hρ
      go_simp
  · rintro a' W ⟨u11, u18, u22, g, u26, -, -, rfl, S⟩
    subst ha0
    simp only [acts, if_true, Act.put, List.setIfInBounds_toArray, List.set_cons_succ, List.set_cons_zero]
    have S9 := Sat.drop2 (opt_iff.1 S.drop.drop.drop.drop)
    clear S S1 HSZ E1
    go_wp2_with fail
    exact hK.out _ _ ⟨_, rfl, S9⟩
end Go.Proofs.YtcecfhfbcdbofaaGreatDoor
set_option linter.unusedSimpArgs false
set_option linter.unusedVariables false
namespace Go.Proofs.YtcecfhfbcdbofaaGreatDoor
open Go.RowKit

/-- Bytes, of any frame. -/
theorem frame_bytes_any {G : Gnd} {w : World} {l : List Asrt} (H : Sat G w l) (t fl s : Int) (v : Value) (bs : List UInt8) (hb : SlB (cellR G.ro) v bs) :
    Calls Tryz.prog 52 #[.agg #[.int .i64 t, .int .i64 fl, .int .i64 s, v]] w fun e w' => ∃ G' u er, G.le G' ∧ Sat G' w' l ∧ e = .returned (.tuple #[u, .int .i64 er]) ∧
      ((frRight t fl s bs.length = false ∧ u = .slice none 0 0 ∧ er = 10) ∨ (frRight t fl s bs.length = true ∧ er = 0 ∧ SlB (Go.Proofs.YtcecfhfbcdbofaaGreatDoor.cellR G'.ro) u (frBytes t.toNat fl.toNat s.toNat bs))) := by
  obtain ⟨A, c, rfl, -, -, -⟩ := hb.form
  cases hr : frRight t fl s bs.length with
  | false => exact (frame_bytes_not H t fl s A bs.length c hr).mono fun e w' h => ⟨G, _, 10, Gnd.le.rfl', h.2, h.1, .inl ⟨rfl, rfl, rfl⟩⟩
  | true =>
    have h := of_decide_eq_true hr
    have := frame_bytes H t.toNat fl.toNat s.toNat _ bs (fun W SW => hb.sat SW) (by omega) (by omega) (by omega) (by omega)
    rw [show ((t.toNat : Nat) : Int) = t by omega, show ((fl.toNat : Nat) : Int) = fl by omega, show ((s.toNat : Nat) : Int) = s by omega] at this
    refine this.mono ?_
    rintro e w' ⟨u, rfl, S⟩
    obtain ⟨G', hG, S', hu⟩ := S.ownFrz
    exact ⟨G', u, 0, hG, S', rfl, .inr ⟨rfl, rfl, hu⟩⟩
theorem info_fr : (Tryz.prog.info? 84).map (fun i => (i.zero, i.size, i.bytes)) = some (some (.agg #[.int .i64 0, .int .i64 0, .int .i64 0, .slice none 0 0]), 4, 48) := by kernel_rfl
theorem results_ttt {P : Program} {fn : Func} {p1 p2 p3 : Tmp} (h : fn.results = #[.tmp p1, .tmp p2, .tmp p3]) (tmps : Array Value) (w : World) : (results fn tmps).run P w = .ok (.tuple #[tmps.getD p1 undef, tmps.getD p2 undef, tmps.getD p3 undef]) w := by
  simp [results, h]
end Go.Proofs.YtcecfhfbcdbofaaGreatDoor
set_option linter.unusedSimpArgs false
set_option linter.unusedVariables false
namespace Go.Proofs.YtcecfhfbcdbofaaGreatDoor
open Go.RowKit

structure FrD where
  t : Int
  f : Int
  s : Int
  v : Value
  bs : List UInt8
def FrD.bytes (d : FrD) : List UInt8 := frBytes d.t.toNat d.f.toNat d.s.toNat d.bs
/-- A slice of frames that nobody turns. -/
def RFrs (R : Hp) (v : Value) (fl : List FrD) : Prop :=
  ∃ A c, v = .slice A fl.length c ∧ fl.length ≤ 140737488351232 ∧ ∀ i d, fl[i]? = some d → ∃ a b off, A = some a ∧ a.add (i * 4) = ⟨b, off, none⟩ ∧ cellR R ⟨b, off, none⟩ = some (.int .i64 d.t) ∧ cellR R ⟨b, off + 1, none⟩ = some (.int .i64 d.f) ∧ cellR R ⟨b, off + 2, none⟩ = some (.int .i64 d.s) ∧ cellR R ⟨b, off + 3, none⟩ = some d.v ∧ SlB (cellR R) d.v d.bs ∧ d.bs.length ≤ 140737488351232
def flat (fl : List FrD) : List UInt8 := (fl.map FrD.bytes).flatten
theorem flat_snoc (fl : List FrD) (d : FrD) : flat (fl ++ [d]) = flat fl ++ d.bytes := by simp [flat]
theorem bytes_len (d : FrD) : d.bytes.length = 9 + d.bs.length := frBytes_length _ _ _ _
theorem flat_take {fl : List FrD} {k : Nat} {d : FrD} (h : fl[k]? = some d) : flat (fl.take (k + 1)) = flat (fl.take k) ++ d.bytes := by
  have hi := (List.getElem?_eq_some_iff.1 h).1
  have he := (List.getElem?_eq_some_iff.1 h).2
  rw [List.take_succ_eq_append_getElem hi, he, flat_snoc]
theorem flat_mem {fl : List FrD} {d : FrD} (h : d ∈ fl) : 9 + d.bs.length ≤ (flat fl).length := by
  induction fl with
  | nil => cases h
  | cons x fl ih =>
    have e : flat (x :: fl) = x.bytes ++ flat fl := by simp [flat]
    rw [e, List.length_append, bytes_len]
    rcases List.mem_cons.1 h with rfl | h
    · omega
    · have := ih h; omega
theorem flat_count (fl : List FrD) : 9 * fl.length ≤ (flat fl).length := by
  induction fl with
  | nil => simp [flat]
  | cons x fl ih =>
    have e : flat (x :: fl) = x.bytes ++ flat fl := by simp [flat]
    rw [e, List.length_append, bytes_len, List.length_cons]; omega
theorem flat_take_le (fl : List FrD) (k : Nat) : (flat (fl.take k)).length ≤ (flat fl).length := by
  have e : flat fl = flat (fl.take k) ++ flat (fl.drop k) := by
    unfold flat; rw [← List.flatten_append, ← List.map_append, List.take_append_drop]
  rw [e, List.length_append]; omega
end Go.Proofs.YtcecfhfbcdbofaaGreatDoor
set_option linter.unusedSimpArgs false
set_option linter.unusedVariables false
namespace Go.Proofs.YtcecfhfbcdbofaaGreatDoor
open Go.RowKit

def clRight (n : Int) : Bool := decide (1 ≤ n ∧ n ≤ 1024)
theorem cell_right (n : Int) (w : World) : Calls Tryz.prog 77 #[.int .i64 n] w fun e w' => e = .returned (.bool (clRight n)) ∧ w = w' := by
  refine calls_any fun K hK => ?_
  by_cases a1 : n ≥ 1
  · by_cases a2 : n ≤ 1024
    · rw [show clRight n = true from decide_eq_true ⟨a1, a2⟩] at hK
      replace a1 := decide_eq_true a1
      replace a2 := decide_eq_true a2
      go_enter Tryz.func77, Tryz.ntmps77
      go_wp2_with fail
      exact hK.out _ _ ⟨rfl, rfl⟩
    · rw [show clRight n = false from decide_eq_false fun h => a2 h.2] at hK
      replace a1 := decide_eq_true a1
      replace a2 := decide_eq_false a2
      go_enter Tryz.func77, Tryz.ntmps77
      go_wp2_with fail
      exact hK.out _ _ ⟨rfl, rfl⟩
  · rw [show clRight n = false from decide_eq_false fun h => a1 h.1] at hK
    replace a1 := decide_eq_false a1
    go_enter Tryz.func77, Tryz.ntmps77
    go_wp2_with fail
    exact hK.out _ _ ⟨rfl, rfl⟩
def clLen (n : Int) : Int := if clRight n then n + 18 else 0
def clRoom (n : Int) : Int := if clRight n then n + 9 else 0
theorem right_bounds {n : Int} (h : clRight n = true) : 1 ≤ n ∧ n ≤ 1024 := of_decide_eq_true h
theorem cell_room (n : Int) (w : World) : Calls Tryz.prog 78 #[.int .i64 n] w fun e w' => e = .returned (.int .i64 (clRoom n)) ∧ w = w' := by
  refine calls_any fun K hK => ?_
  have hr := cell_right n w
  cases h : clRight n with
  | false =>
    rw [h] at hr
    rw [show clRoom n = 0 by unfold clRoom; rw [h]; rfl] at hK
    go_enter Tryz.func78, Tryz.ntmps78
    go_wp2_with fail
    (with_reducible refine hr.mono ?_)
    rintro e w1 ⟨rfl, rfl⟩
    go_wp2_with fail
    exact hK.out _ _ ⟨rfl, rfl⟩
  | true =>
    rw [h] at hr
    obtain ⟨h1, h2⟩ := right_bounds h
    rw [show clRoom n = n + 9 by unfold clRoom; rw [h]; rfl] at hK
    go_enter Tryz.func78, Tryz.ntmps78
    go_wp2_with fail
    (with_reducible refine hr.mono ?_)
    rintro e w1 ⟨rfl, rfl⟩
    go_wp2_with fail
    exact hK.out _ _ ⟨rfl, rfl⟩
/-- How many cells so many bytes take. -/
def clCells (n c : Int) : Int := if n < 1 ∨ c < 2 then 0 else if n % (c - 1) > 0 then n / (c - 1) + 1 else n / (c - 1)
theorem cell_cells (n c : Int) (hn : n ≤ 3000) (hc : c ≤ 9223372036854775807) (w : World) : Calls Tryz.prog 23 #[.int .i64 n, .int .i64 c] w fun e w' => e = .returned (.int .i64 (clCells n c)) ∧ w = w' := by
  refine calls_any fun K hK => ?_
  by_cases h1 : n < 1
  · rw [show clCells n c = 0 from if_pos (.inl h1)] at hK
    go_enter Tryz.func23, Tryz.ntmps23
    go_wp2_with fail
    exact hK.out _ _ ⟨rfl, rfl⟩
  by_cases h2 : c < 2
  · rw [show clCells n c = 0 from if_pos (.inr h2)] at hK
    go_enter Tryz.func23, Tryz.ntmps23
    go_wp2_with fail
    exact hK.out _ _ ⟨rfl, rfl⟩
  have e1 : n.tdiv (c - 1) = n / (c - 1) := Int.tdiv_eq_ediv_of_nonneg (by omega)
  have e2 : n.tmod (c - 1) = n % (c - 1) := Int.tmod_eq_emod_of_nonneg (by omega)
  have h3 : 0 ≤ n / (c - 1) := Int.ediv_nonneg (by omega) (by omega)
  have h4 : n / (c - 1) ≤ n := Int.ediv_le_self _ (by omega)
  have h5 : 0 ≤ n % (c - 1) := Int.emod_nonneg _ (by omega)
  have hw : wrap64 (c - 1) = c - 1 := by unfold wrap64; omega
  have hne : ((c - 1) == 0) = false := by simp; omega
  by_cases h7 : n % (c - 1) > 0
  · rw [show clCells n c = n / (c - 1) + 1 by unfold clCells; rw [if_neg (by omega), if_pos h7]] at hK
    go_enter Tryz.func23, Tryz.ntmps23
    go_wp2_with fail
    exact hK.out _ _ ⟨rfl, rfl⟩
  · rw [show clCells n c = n / (c - 1) by unfold clCells; rw [if_neg (by omega), if_neg h7]] at hK
    go_enter Tryz.func23, Tryz.ntmps23
    go_wp2_with fail
    exact hK.out _ _ ⟨rfl, rfl⟩
end Go.Proofs.YtcecfhfbcdbofaaGreatDoor
set_option linter.unusedSimpArgs false
set_option linter.unusedVariables false
namespace Go.Proofs.YtcecfhfbcdbofaaGreatDoor
open Go.RowKit

/-- The bytes of a slot. -/
def fillB (b : List UInt8) (z : Nat) : List UInt8 := b ++ frBytes 250 0 0 (List.replicate z 0)
theorem fillB_length (b : List UInt8) (z : Nat) : (fillB b z).length = b.length + 9 + z := by unfold fillB; rw [List.length_append, frBytes_length, List.length_replicate]; omega
theorem parts2 {G : Gnd} {w : World} {l : List Asrt} {u v : Value} {g : Nat} {bs b : List UInt8} (S : Sat G w (blk g #[u, v] 35 :: l)) (hu : SlB (cellR G.ro) u bs) (hv : SlB (cellR G.ro) v b) :
    ∀ i bs', [bs, b][i]? = some bs' → ∃ x, w.cell? ((⟨g, 0, none⟩ : Addr).add i) = some x ∧ SlB w.cell? x bs' := by
  have hc : ∀ i, w.cell? ((⟨g, 0, none⟩ : Addr).add i) = #[u, v][i]? := fun i => by
    have e : (⟨g, 0, none⟩ : Addr).add i = ⟨g, i, none⟩ := by unfold Addr.add; split <;> simp_all
    rw [e]; exact S.cell i
  intro i bs' hi
  rcases i with _ | _ | i
  · cases hi; exact ⟨_, by rw [hc]; rfl, hu.sat S⟩
  · cases hi; exact ⟨_, by rw [hc]; rfl, hv.sat S⟩
  · simp at hi
/-- Noughts that were just made: in the ground. -/
theorem noughts {G : Gnd} {w : World} {l : List Asrt} (H : Sat G w l) (z : Nat) (hz : z ≤ maxLen) : ∃ G', G.le G' ∧ Sat G' (w.alloc (.cells (madeCells #[.int .u8 0] z) 5)) l ∧ SlB (Go.Proofs.YtcecfhfbcdbofaaGreatDoor.cellR G'.ro) (.slice (some ⟨w.heap.size, 0, none⟩) z z) (List.replicate z 0) := by
  have hzl : (List.replicate z (0 : UInt8)).length = z := List.length_replicate
  have hzm : (madeCells #[Value.int .u8 0] z).toList = (List.replicate z (0 : UInt8)).map byteV := by rw [toList_madeCells_one, List.map_replicate]; rfl
  have S2 : Sat G (w.alloc (.cells (madeCells #[.int .u8 0] z) 5)) (ownS 5 1 (.slice (some ⟨w.heap.size, 0, none⟩) z z) (List.replicate z (0 : UInt8)).length ((List.replicate z (0 : UInt8)).map byteV) :: l) := by
    rw [hzl, ← hzm]
    exact (H.newBlk (madeCells #[.int .u8 0] z) 5).ownBlk (size := 1) z (by rw [← Array.length_toList, hzm, List.length_map, hzl, Nat.mul_one]) hz
  exact S2.ownFrz
set_option maxHeartbeats 4000000 in
set_option maxRecDepth 100000 in
theorem cell_fill {G : Gnd} {w : World} {l : List Asrt} (H : Sat G w l) (v : Value) (b : List UInt8) (n : Int) (hb : SlB (cellR G.ro) v b) (hl : b.length ≤ 1000000) :
    Calls Tryz.prog 53 #[v, .int .i64 n] w fun e w' => ∃ G', G.le G' ∧ Sat G' w' l ∧
      ((clRight n = false ∧ e = .returned (.tuple #[.slice none 0 0, .int .i64 11])) ∨ (clRight n = true ∧ n + 9 < b.length ∧ e = .returned (.tuple #[.slice none 0 0, .int .i64 15])) ∨
       (clRight n = true ∧ ∃ z : Nat, n + 9 = b.length + z ∧ ∃ u, e = .returned (.tuple #[u, .int .i64 0]) ∧ SlB (Go.Proofs.YtcecfhfbcdbofaaGreatDoor.cellR G'.ro) u (fillB b z))) := by
  refine calls_any fun K hK => ?_
  obtain ⟨A, c, rfl, -, -, -⟩ := hb.form
  have hr := fun w => cell_right n w
  have hm := fun w => cell_room n w
  cases h : clRight n with
  | false =>
    rw [h] at hr
    go_enter Tryz.func53, Tryz.ntmps53
    go_wp2_with fail
    (with_reducible refine (hr _).mono ?_)
    rintro e w1 ⟨rfl, rfl⟩
    go_wp2_with fail
    exact hK.out _ _ ⟨G, Gnd.le.rfl', H, .inl ⟨h, rfl⟩⟩
  | true =>
    rw [h] at hr
    obtain ⟨h1, h2⟩ := right_bounds h
    rw [show clRoom n = n + 9 by unfold clRoom; rw [h]; rfl] at hm
    by_cases hlt : n + 9 < (b.length : Int)
    · go_enter Tryz.func53, Tryz.ntmps53
      go_wp2_with fail
      (with_reducible refine (hr _).mono ?_)
      rintro e w1 ⟨rfl, rfl⟩
      go_wp2_with fail
      (with_reducible refine (hm _).mono ?_)
      rintro e w1 ⟨rfl, rfl⟩
      go_wp2_with fail
      exact hK.out _ _ ⟨G, Gnd.le.rfl', H, .inr (.inl ⟨h, hlt, rfl⟩)⟩
    · obtain ⟨z, hz⟩ : ∃ z : Nat, n + 9 - (b.length : Int) = z := ⟨(n + 9 - b.length).toNat, by omega⟩
      have hmk : ∀ w, (Instr.makeSlice 35 (.int .i64 (n + 9 - (b.length : Int))) (.int .i64 (n + 9 - (b.length : Int)))).run Tryz.prog w = .ok (.slice (some ⟨w.heap.size, 0, none⟩) z z) (w.alloc (.cells (madeCells #[.int .u8 0] z) 5)) := by
        rw [hz]
        exact run_make_row' (P := Tryz.prog) 35 5 (.int .u8 0) 1 Tryz.underlying35 info_u8 rfl .i64 .i64 z (by omega) (by omega)
      have HZ := Lib.hid hz
      obtain ⟨G1, hG1, S1, hzs⟩ := noughts H z (Nat.le_trans (show z ≤ 2000 by omega) (by decide))
      have hfb := frame_bytes S1 250 0 0 _ (List.replicate z 0) (fun W SW => hzs.sat SW) (by decide) (by decide) (by decide) (by rw [List.length_replicate]; omega)
      change Calls _ _ #[.agg #[.int .i64 250, .int .i64 0, .int .i64 0, _]] _ _ at hfb
      have hfl := fillB_length b z
      clear hz hzs
      go_enter Tryz.func53, Tryz.ntmps53
      go_wp2_with fail
      (with_reducible refine (hr _).mono ?_)
      rintro e w1 ⟨rfl, rfl⟩
      go_wp2_with fail
      (with_reducible refine (hm _).mono ?_)
      rintro e w1 ⟨rfl, rfl⟩
      go_wp2_with fail
      (with_reducible refine (hm _).mono ?_)
      rintro e w1 ⟨rfl, rfl⟩
      go_wp2_with fail
      (with_reducible refine hfb.mono ?_)
      clear hfb S1 hmk hr hm
      rintro e w2 ⟨u1, rfl, S2⟩
      obtain ⟨G2, hG2, S3, hu1⟩ := S2.ownFrz
      have hb2 := hb.mono (hG1.trans hG2)
      have S4 := S3.newBlk #[.slice A b.length c, u1] 35
      have hcat := concat_bytes S4 ⟨w2.heap.size, 0, none⟩ 2 [b, frBytes 250 0 0 (List.replicate z 0)] (fun W SW => parts2 SW hb2 hu1) (by
        have : [b, frBytes 250 0 0 (List.replicate z 0)].flatten = fillB b z := by simp [fillB]
        rw [this, hfl]; have := HZ.out; omega) (by simp) (by decide)
      rw [show [b, frBytes 250 0 0 (List.replicate z 0)].flatten = fillB b z by simp [fillB]] at hcat
      change Calls _ _ #[.slice _ 2 2] _ _ at hcat
      obtain ⟨U, cu, rfl, -, -, -⟩ := hu1.form
      clear S2 S3 S4 hfl
      go_wp2_with fail
      (with_reducible refine hcat.mono ?_)
      clear hcat
      rintro e w3 ⟨u, rfl, S5⟩
      obtain ⟨G3, hG3, S6, hu⟩ := S5.ownFrz
      go_wp2_with fail
      exact hK.out _ _ ⟨G3, (hG1.trans hG2).trans hG3, S6.drop, .inr (.inr ⟨h, z, by have := HZ.out; omega, u, rfl, hu⟩)⟩
theorem ceil_eq (n d k : Int) (hd : 1 ≤ d) (h1 : n ≤ k * d) (h2 : (k - 1) * d < n) : (if n % d > 0 then n / d + 1 else n / d) = k := by
  have e := Int.emod_add_mul_ediv n d
  have p := Int.emod_lt_of_pos n (show 0 < d by omega)
  have q := Int.emod_nonneg n (show d ≠ 0 by omega)
  generalize n / d = a at *
  generalize n % d = r at *
  rw [Int.sub_mul, Int.one_mul] at h2
  rw [Int.mul_comm d a] at e
  have hak : a ≤ k := by
    refine Int.not_lt.1 fun h => ?_
    have : (k + 1) * d ≤ a * d := Int.mul_le_mul_of_nonneg_right (by omega) (by omega)
    rw [Int.add_mul, Int.one_mul] at this
    omega
  have hka : k - 1 ≤ a := by
    refine Int.not_lt.1 fun h => ?_
    have : (a + 1) * d ≤ (k - 1) * d := Int.mul_le_mul_of_nonneg_right (by omega) (by omega)
    rw [Int.add_mul, Int.one_mul, Int.sub_mul, Int.one_mul] at this
    omega
  split
  · by_cases ha : a = k
    · subst ha; omega
    · omega
  · by_cases ha : a = k
    · exact ha
    · have : a = k - 1 := by omega
      subst this
      rw [Int.sub_mul, Int.one_mul] at e
      omega
end Go.Proofs.YtcecfhfbcdbofaaGreatDoor
set_option linter.unusedSimpArgs false
set_option linter.unusedVariables false
namespace Go.Proofs.YtcecfhfbcdbofaaGreatDoor
open Go.RowKit
def zeroFr : Value := .agg #[.int .i64 0, .int .i64 0, .int .i64 0, .slice none 0 0]

/-- May a text be padded for this stream, in this cell? -/
def padRight (st n : Int) : Bool := decide (1 ≤ st ∧ st ≤ 2147483647 ∧ 2 ≤ n ∧ n ≤ 1024)
/-- The padded text. -/
def padB (bs : List UInt8) (z : Nat) : List UInt8 := UInt8.ofNat z :: (bs ++ List.replicate z 0)
theorem padB_length (bs : List UInt8) (z : Nat) : (padB bs z).length = 1 + bs.length + z := by simp [padB]; omega
theorem results_cell_t' {P : Program} {fn : Func} {p1 p2 : Tmp} {y1 : TypeId} (h : fn.results = #[.cell p1 y1, .tmp p2]) (tmps : Array Value) (w : World) (g1 : Nat) (t1 : TypeId) (c1 : Array Value) (d1 : TypeDesc)
    (hp1 : tmps.getD p1 undef = .pointer (some ⟨g1, 0, none⟩)) (hg1 : w.heap[g1]? = some (.cells c1 t1 (0, 0))) (hu1 : P.underlying y1 = some d1) (hd1 : (match d1 with | .struct _ | .array _ _ => true | _ => false) = true) (hi1 : (P.info? y1).map (·.size) = some c1.size) :
    (results fn tmps).run P w = .ok (.tuple #[.agg c1, tmps.getD p2 undef]) w := results_cell_t h tmps w g1 t1 c1 d1 hp1 hg1 hu1 hd1 hi1
set_option maxHeartbeats 4000000 in
set_option maxRecDepth 100000 in
theorem cell_pad_range {G : Gnd} {w : World} {l : List Asrt} (H : Sat G w l) (st n : Int) (A : Option Addr) (m c : Nat) (d : Bool) (h : padRight st n = false) :
    Calls Tryz.prog 70 #[.int .i64 st, .slice A m c, .bool d, .int .i64 n] w fun e w' => e = .returned (.tuple #[zeroFr, .int .i64 11]) ∧ Sat G w' l := by
  refine calls_any fun K hK => ?_
  have S := H.newBlk #[.int .i64 0, .int .i64 0, .int .i64 0, .slice none 0 0] 84
  clear H
  unfold zeroFr at hK
  have h' : ¬ (1 ≤ st ∧ st ≤ 2147483647 ∧ 2 ≤ n ∧ n ≤ 1024) := of_decide_eq_false h
  by_cases a1 : st < 1
  · clear h h'
    go_enter Tryz.func70, Tryz.ntmps70
    go_wp2_with fail
    exact bodyPost_ret (results_cell_t rfl _ _ _ _ _ _ rfl (S).blk_at Tryz.underlying84 rfl (by kernel_rfl)) rfl (hK.out _ _ ⟨rfl, S.drop⟩)
  by_cases a2 : 2147483647 < st
  · clear h h'
    go_enter Tryz.func70, Tryz.ntmps70
    go_wp2_with fail
    exact bodyPost_ret (results_cell_t rfl _ _ _ _ _ _ rfl (S).blk_at Tryz.underlying84 rfl (by kernel_rfl)) rfl (hK.out _ _ ⟨rfl, S.drop⟩)
  by_cases a3 : n < 2
  · clear h h'
    go_enter Tryz.func70, Tryz.ntmps70
    go_wp2_with fail
    exact bodyPost_ret (results_cell_t rfl _ _ _ _ _ _ rfl (S).blk_at Tryz.underlying84 rfl (by kernel_rfl)) rfl (hK.out _ _ ⟨rfl, S.drop⟩)
  · have a4 : 1024 < n := by omega
    clear h h'
    go_enter Tryz.func70, Tryz.ntmps70
    go_wp2_with fail
    exact bodyPost_ret (results_cell_t rfl _ _ _ _ _ _ rfl (S).blk_at Tryz.underlying84 rfl (by kernel_rfl)) rfl (hK.out _ _ ⟨rfl, S.drop⟩)
set_option maxHeartbeats 4000000 in
set_option maxRecDepth 100000 in
theorem cell_pad_full {G : Gnd} {w : World} {l : List Asrt} (H : Sat G w l) (st n : Int) (A : Option Addr) (m c : Nat) (d : Bool) (h : padRight st n = true) (hm : m ≤ 1000000) (hp : n - 1 - m < 0 ∨ 255 < n - 1 - m) :
    Calls Tryz.prog 70 #[.int .i64 st, .slice A m c, .bool d, .int .i64 n] w fun e w' => e = .returned (.tuple #[zeroFr, .int .i64 15]) ∧ Sat G w' l := by
  refine calls_any fun K hK => ?_
  have S := H.newBlk #[.int .i64 0, .int .i64 0, .int .i64 0, .slice none 0 0] 84
  clear H
  unfold zeroFr at hK
  obtain ⟨a1, a2, a3, a4⟩ : (1 ≤ st ∧ st ≤ 2147483647 ∧ 2 ≤ n ∧ n ≤ 1024) := of_decide_eq_true h
  clear h
  by_cases b1 : n - 1 - (m : Int) < 0
  · clear hp
    go_enter Tryz.func70, Tryz.ntmps70
    go_wp2_with fail
    exact bodyPost_ret (results_cell_t rfl _ _ _ _ _ _ rfl (S).blk_at Tryz.underlying84 rfl (by kernel_rfl)) rfl (hK.out _ _ ⟨rfl, S.drop⟩)
  · have b2 : 255 < n - 1 - (m : Int) := by omega
    clear hp
    go_enter Tryz.func70, Tryz.ntmps70
    go_wp2_with fail
    exact bodyPost_ret (results_cell_t rfl _ _ _ _ _ _ rfl (S).blk_at Tryz.underlying84 rfl (by kernel_rfl)) rfl (hK.out _ _ ⟨rfl, S.drop⟩)
theorem st_copy {P : Program} {ops : Array Oper} {rest : List Oper} {o : Oper} {a : Act} {w : World} {Q : Exit → Act → World → Prop} {G : Gnd} {l : List Asrt} (hgd : o.guard = none) (d s : Operand) (dT sT : TypeId)
    (ho : o.op = .call { callee := .builtin .copy, args := #[d, s], argTypes := #[dT, sT] }) (elem : TypeId) (hu : P.underlying dT = some (.slice elem)) (hsz : (P.info? elem).map (·.size) = some 1)
    (g off dLen dCap : Nat) (hd : a.eval d = .slice (some ⟨g, off, none⟩) dLen dCap) (v : Value) (bs : List UInt8) (hs : a.eval s = v) (hb : SlB w.cell? v bs) (hle : bs.length ≤ dLen) (cur : Array Value) (t : TypeId)
    (S : Sat G w (blk g cur t :: l)) (hfit : off + bs.length ≤ cur.size)
    (h : ∀ w', Sat G w' (blk g (cur.toList.take off ++ (bs.map byteV ++ cur.toList.drop (off + bs.length))).toArray t :: l) → wpList P ops Q rest (a.put o.dst (goInt bs.length)) w') : wpList P ops Q (o :: rest) a w := by
  obtain ⟨A, c, rfl, hc1, hc2, hcA⟩ := hb.form
  by_cases h0 : bs.length = 0
  · obtain rfl : bs = [] := List.eq_nil_of_length_eq_zero h0
    refine wpList_copy_nothing hgd d s dT sT ho elem hu hsz _ A dLen dCap 0 c hd hs (by simp) ?_
    exact h w (by simpa using S)
  · obtain ⟨ad, rfl⟩ : ∃ ad, A = some ad := by
      cases A with
      | some x => exact ⟨x, rfl⟩
      | none => exact absurd (hcA rfl) (by omega)
    have hl : (bs.map byteV).length = bs.length := List.length_map ..
    refine wpList_copy_own hgd d s dT sT ho elem hu hsz g off dLen dCap ad bs.length c hd hs cur t S.blk_at (bs.map byteV) (by rw [hl]; exact (Nat.min_eq_left hle).symm) (fun j u hj => ?_) (by rw [hl]; exact hfit) (by simp [byteV, Value.oneCell']) ?_
    · obtain ⟨A', c', e, h1, h2, h3⟩ := hb.1
      cases e
      obtain ⟨x, hx, hc⟩ := h3 j u hj
      cases hx
      exact hc
    · rw [hl]
      exact h _ (S.setRow' _ rfl rfl rfl rfl)
/-- A row of one's own that is turned no more. -/
theorem slb_of_row {G : Gnd} {w : World} {l : List Asrt} {q N : Nat} {bs : List UInt8} (H : Sat G w (blk q (bs.map byteV).toArray 5 :: l)) (hN : bs.length = N) (hm : N ≤ maxLen) :
    ∃ G', G.le G' ∧ Sat G' w l ∧ SlB (Go.Proofs.YtcecfhfbcdbofaaGreatDoor.cellR G'.ro) (.slice (some ⟨q, 0, none⟩) N N) bs := by
  subst hN
  have S2 := H.ownBlk (size := 1) bs.length (by simp) hm
  rw [show (bs.map byteV).toArray.toList = bs.map byteV from rfl] at S2
  exact S2.ownFrz
theorem madeCells_zero (N : Nat) (h : 0 < N) : (madeCells #[Value.int .u8 0] N)[0]? = some (.int .u8 0) := by
  rw [← Array.getElem?_toList, toList_madeCells_one]
  simp [h]
theorem pad_row (bs : List UInt8) (z N : Nat) (hN : N = 1 + bs.length + z) (hz : z ≤ 255) :
    (((madeCells #[Value.int .u8 0] N).setIfInBounds 0 (.int .u8 z)).toList.take 1 ++ (bs.map byteV ++ ((madeCells #[Value.int .u8 0] N).setIfInBounds 0 (.int .u8 z)).toList.drop (1 + bs.length))) = (padB bs z).map byteV := by
  subst hN
  have e : (madeCells #[Value.int .u8 0] (1 + bs.length + z)).toList = Value.int .u8 0 :: (List.replicate (bs.length + z) (0 : UInt8)).map byteV := by
    rw [toList_madeCells_one, show 1 + bs.length + z = (bs.length + z) + 1 by omega, List.replicate_succ, List.map_replicate]; rfl
  have hb : byteV (UInt8.ofNat z) = .int .u8 z := by unfold byteV; rw [UInt8.toNat_ofNat']; simp; omega
  rw [Array.toList_setIfInBounds, e]
  simp only [List.set_cons_zero, List.take_succ_cons, List.take_zero, padB, List.map_cons, hb, List.map_append, List.cons_append, List.nil_append]
  rw [show 1 + bs.length = bs.length + 1 by omega, List.drop_succ_cons, ← List.map_drop, List.drop_replicate]
  congr 5
  omega
set_option maxHeartbeats 4000000 in
set_option maxRecDepth 100000 in
theorem cell_pad {G : Gnd} {w : World} {l : List Asrt} (H : Sat G w l) (st n : Int) (v : Value) (bs : List UInt8) (d : Bool) (hb : SlB (cellR G.ro) v bs) (h : padRight st n = true) (z : Nat) (hz : n - 1 - bs.length = z) (hz2 : z ≤ 255) :
    Calls Tryz.prog 70 #[.int .i64 st, v, .bool d, .int .i64 n] w fun e w' => ∃ G' u, G.le G' ∧ e = .returned (.tuple #[.agg #[.int .i64 0, .int .i64 (if d then 9 else 8), .int .i64 st, u], .int .i64 0]) ∧ Sat G' w' l ∧ SlB (Go.Proofs.YtcecfhfbcdbofaaGreatDoor.cellR G'.ro) u (padB bs z) := by
  refine calls_any fun K hK => ?_
  obtain ⟨A, c, rfl, hc1, hc2, hcA⟩ := hb.form
  have hc3 : c ≤ 9223372036854775807 := hc2
  obtain ⟨a1, a2, a3, a4⟩ : (1 ≤ st ∧ st ≤ 2147483647 ∧ 2 ≤ n ∧ n ≤ 1024) := of_decide_eq_true h
  clear h
  obtain ⟨N, rfl⟩ : ∃ N : Nat, n = N := ⟨n.toNat, by omega⟩
  have S := (H.newBlk #[.int .i64 0, .int .i64 0, .int .i64 0, .slice none 0 0] 84).newBlk #[.int .i64 0, .int .i64 8, .int .i64 st, .slice none 0 0] 84
  have e0 : ∀ o, (w.alloc o).heap.size = w.heap.size + 1 := fun o => by simp
  rw [e0] at S
  clear H e0
  have hmk := run_make_row' (P := Tryz.prog) 35 5 (.int .u8 0) 1 Tryz.underlying35 info_u8 rfl .i64 .i64 N (by omega) (by omega)
  have ho : bits .or .i64 8 1 = 9 := by decide
  have HZ := Lib.hid hz
  have hz3 : (N : Int) - 1 - bs.length = z := hz
  have hz0 : 0 ≤ (N : Int) - 1 - bs.length := by omega
  have hz5 : (N : Int) - 1 - bs.length ≤ 255 := by omega
  have hz6 : ¬ ((255 : Int) < (N : Int) - 1 - bs.length) := by omega
  clear hz
  cases d with
  | true =>
    go_enter Tryz.func70, Tryz.ntmps70
    go_upto_region 8 with fail
    refine wp_world S fun W1 S1 => ?_
    clear S
    generalize w.heap.size = p at *
    have c1 : W1.cell? ⟨p + 1, 1, none⟩ = some (.int .i64 8) := S1.cell 1
    have f1 := S1.frozen 1
    have S2 : Sat G (W1.setCell ⟨p + 1, 1, none⟩ (.int .i64 9)) (blk (p + 1) #[.int .i64 0, .int .i64 9, .int .i64 st, .slice none 0 0] 84 :: blk p #[.int .i64 0, .int .i64 0, .int .i64 0, .slice none 0 0] 84 :: l) := S1.setCell 1 (.int .i64 9)
    go_upto_region 9 with fail
    refine wp_world S2 fun W2 S3 => ?_
    clear S2 S1 c1 f1
    have hmk' := hmk W2
    have c3 : (W2.alloc (.cells (madeCells #[.int .u8 0] N) 5)).cell? ⟨p + 1, 3, none⟩ = some (.slice none 0 0) := (S3.newBlk (madeCells #[.int .u8 0] N) 5).swap.cell 3
    have f3 := (S3.newBlk (madeCells #[.int .u8 0] N) 5).swap.frozen 3
    have S4 : Sat G ((W2.alloc (.cells (madeCells #[.int .u8 0] N) 5)).setCell ⟨p + 1, 3, none⟩ (.slice (some ⟨W2.heap.size, 0, none⟩) N N)) (blk (p + 1) #[.int .i64 0, .int .i64 9, .int .i64 st, .slice (some ⟨W2.heap.size, 0, none⟩) N N] 84 :: blk W2.heap.size (madeCells #[.int .u8 0] N) 5 :: blk p #[.int .i64 0, .int .i64 0, .int .i64 0, .slice none 0 0] 84 :: l) :=
      (S3.newBlk (madeCells #[.int .u8 0] N) 5).swap.setCell 3 (.slice (some ⟨W2.heap.size, 0, none⟩) N N)
    clear S3
    go_upto_region 10 with fail
    refine wp_world S4 fun W3 S5 => ?_
    clear S4 c3 f3 hmk' hmk
    generalize W2.heap.size = q at *
    have c3 : W3.cell? ⟨p + 1, 3, none⟩ = some (.slice (some ⟨q, 0, none⟩) N N) := S5.cell 3
    have d0 : W3.cell? ⟨q, 0, none⟩ = some (.int .u8 0) := by
      rw [S5.swap.cell 0, madeCells_zero N (by omega)]
    have f0 := S5.swap.frozen 0
    have hz8 : IntKind.u8.wrap (z : Int) = z := by unfold IntKind.wrap; simp [IntKind.bits, IntKind.signed]; omega
    have S6 : Sat G (W3.setCell ⟨q, 0, none⟩ (.int .u8 z)) (blk q ((madeCells #[.int .u8 0] N).setIfInBounds 0 (.int .u8 z)) 5 :: blk (p + 1) #[.int .i64 0, .int .i64 9, .int .i64 st, .slice (some ⟨q, 0, none⟩) N N] 84 :: blk p #[.int .i64 0, .int .i64 0, .int .i64 0, .slice none 0 0] 84 :: l) := S5.swap.setCell 0 (.int .u8 z)
    clear S5
    go_upto_region 11 with fail
    refine wp_world S6 fun W4 S7 => ?_
    clear S6 c3 d0 f0
    have c3 : W4.cell? ⟨p + 1, 3, none⟩ = some (.slice (some ⟨q, 0, none⟩) N N) := S7.swap.cell 3
    have hbW := hb.sat S7
    have hr8 := pad_row bs z N (by have := HZ.out; omega) hz2
    have hsz8 : ((madeCells #[Value.int .u8 0] N).setIfInBounds 0 (.int .u8 z)).size = N := by rw [Array.size_setIfInBounds, ← Array.length_toList, toList_madeCells_one, List.length_replicate]
    generalize (madeCells #[Value.int .u8 0] N).setIfInBounds 0 (.int .u8 z) = row at *
    go_upto_region 12 with (refine st_copy rfl (.tmp 58) (.tmp 59) 35 35 rfl 5 Tryz.underlying35 rfl q 1 (N - 1) (N - 1) rfl _ bs rfl hbW (by omega) _ 5 S7 (by rw [hsz8]; omega) ?_; intro W5 S8; rw [hr8] at S8; clear S7 hbW c3 hr8 hsz8)
    have c0 : W5.cell? ⟨p + 1, 0, none⟩ = some (.int .i64 0) := S8.swap.cell 0
    have c1 : W5.cell? ⟨p + 1, 1, none⟩ = some (.int .i64 9) := S8.swap.cell 1
    have c2 : W5.cell? ⟨p + 1, 2, none⟩ = some (.int .i64 st) := S8.swap.cell 2
    have c3 : W5.cell? ⟨p + 1, 3, none⟩ = some (.slice (some ⟨q, 0, none⟩) N N) := S8.swap.cell 3
    have T8 := S8.pull2
    have d0 : W5.cell? ⟨p, 0, none⟩ = some (.int .i64 0) := T8.cell 0
    have d1 : W5.cell? ⟨p, 1, none⟩ = some (.int .i64 0) := T8.cell 1
    have d2 : W5.cell? ⟨p, 2, none⟩ = some (.int .i64 0) := T8.cell 2
    have d3 : W5.cell? ⟨p, 3, none⟩ = some (.slice none 0 0) := T8.cell 3
    have f0 := T8.frozen 0
    have f1 := T8.frozen 1
    have f2 := T8.frozen 2
    have f3 := T8.frozen 3
    have S9 : Sat G ((((W5.setCell ⟨p, 0, none⟩ (.int .i64 0)).setCell ⟨p, 1, none⟩ (.int .i64 9)).setCell ⟨p, 2, none⟩ (.int .i64 st)).setCell ⟨p, 3, none⟩ (.slice (some ⟨q, 0, none⟩) N N)) (blk p #[.int .i64 0, .int .i64 9, .int .i64 st, .slice (some ⟨q, 0, none⟩) N N] 84 :: blk q ((padB bs z).map byteV).toArray 5 :: blk (p + 1) #[.int .i64 0, .int .i64 9, .int .i64 st, .slice (some ⟨q, 0, none⟩) N N] 84 :: l) :=
      (((T8.setCell 0 (.int .i64 0)).setCell 1 (.int .i64 9)).setCell 2 (.int .i64 st)).setCell 3 (.slice (some ⟨q, 0, none⟩) N N)
    have hN : (padB bs z).length = N := by rw [padB_length]; have := HZ.out; omega
    obtain ⟨G', hG, S10, hu⟩ := slb_of_row S9.drop hN (Nat.le_trans (show N ≤ 1024 by omega) (by decide))
    clear S8 T8 hz5 hz6 hz3 hz0
    go_wp2_with fail
    exact bodyPost_ret (results_cell_t rfl _ _ _ _ _ _ rfl (S9).blk_at Tryz.underlying84 rfl (by kernel_rfl)) rfl (hK.out _ _ ⟨G', _, hG, rfl, S10.drop, hu⟩)
  | false =>
    go_enter Tryz.func70, Tryz.ntmps70
    go_upto_region 9 with fail
    refine wp_world S fun W2 S3 => ?_
    clear S
    generalize w.heap.size = p at *
    have hmk' := hmk W2
    have c3 : (W2.alloc (.cells (madeCells #[.int .u8 0] N) 5)).cell? ⟨p + 1, 3, none⟩ = some (.slice none 0 0) := (S3.newBlk (madeCells #[.int .u8 0] N) 5).swap.cell 3
    have f3 := (S3.newBlk (madeCells #[.int .u8 0] N) 5).swap.frozen 3
    have S4 : Sat G ((W2.alloc (.cells (madeCells #[.int .u8 0] N) 5)).setCell ⟨p + 1, 3, none⟩ (.slice (some ⟨W2.heap.size, 0, none⟩) N N)) (blk (p + 1) #[.int .i64 0, .int .i64 8, .int .i64 st, .slice (some ⟨W2.heap.size, 0, none⟩) N N] 84 :: blk W2.heap.size (madeCells #[.int .u8 0] N) 5 :: blk p #[.int .i64 0, .int .i64 0, .int .i64 0, .slice none 0 0] 84 :: l) :=
      (S3.newBlk (madeCells #[.int .u8 0] N) 5).swap.setCell 3 (.slice (some ⟨W2.heap.size, 0, none⟩) N N)
    clear S3
    go_upto_region 10 with fail
    refine wp_world S4 fun W3 S5 => ?_
    clear S4 c3 f3 hmk' hmk
    generalize W2.heap.size = q at *
    have c3 : W3.cell? ⟨p + 1, 3, none⟩ = some (.slice (some ⟨q, 0, none⟩) N N) := S5.cell 3
    have d0 : W3.cell? ⟨q, 0, none⟩ = some (.int .u8 0) := by
      rw [S5.swap.cell 0, madeCells_zero N (by omega)]
    have f0 := S5.swap.frozen 0
    have hz8 : IntKind.u8.wrap (z : Int) = z := by unfold IntKind.wrap; simp [IntKind.bits, IntKind.signed]; omega
    have S6 : Sat G (W3.setCell ⟨q, 0, none⟩ (.int .u8 z)) (blk q ((madeCells #[.int .u8 0] N).setIfInBounds 0 (.int .u8 z)) 5 :: blk (p + 1) #[.int .i64 0, .int .i64 8, .int .i64 st, .slice (some ⟨q, 0, none⟩) N N] 84 :: blk p #[.int .i64 0, .int .i64 0, .int .i64 0, .slice none 0 0] 84 :: l) := S5.swap.setCell 0 (.int .u8 z)
    clear S5
    go_upto_region 11 with fail
    refine wp_world S6 fun W4 S7 => ?_
    clear S6 c3 d0 f0
    have c3 : W4.cell? ⟨p + 1, 3, none⟩ = some (.slice (some ⟨q, 0, none⟩) N N) := S7.swap.cell 3
    have hbW := hb.sat S7
    have hr8 := pad_row bs z N (by have := HZ.out; omega) hz2
    have hsz8 : ((madeCells #[Value.int .u8 0] N).setIfInBounds 0 (.int .u8 z)).size = N := by rw [Array.size_setIfInBounds, ← Array.length_toList, toList_madeCells_one, List.length_replicate]
    generalize (madeCells #[Value.int .u8 0] N).setIfInBounds 0 (.int .u8 z) = row at *
    go_upto_region 12 with (refine st_copy rfl (.tmp 58) (.tmp 59) 35 35 rfl 5 Tryz.underlying35 rfl q 1 (N - 1) (N - 1) rfl _ bs rfl hbW (by omega) _ 5 S7 (by rw [hsz8]; omega) ?_; intro W5 S8; rw [hr8] at S8; clear S7 hbW c3 hr8 hsz8)
    have c0 : W5.cell? ⟨p + 1, 0, none⟩ = some (.int .i64 0) := S8.swap.cell 0
    have c1 : W5.cell? ⟨p + 1, 1, none⟩ = some (.int .i64 8) := S8.swap.cell 1
    have c2 : W5.cell? ⟨p + 1, 2, none⟩ = some (.int .i64 st) := S8.swap.cell 2
    have c3 : W5.cell? ⟨p + 1, 3, none⟩ = some (.slice (some ⟨q, 0, none⟩) N N) := S8.swap.cell 3
    have T8 := S8.pull2
    have d0 : W5.cell? ⟨p, 0, none⟩ = some (.int .i64 0) := T8.cell 0
    have d1 : W5.cell? ⟨p, 1, none⟩ = some (.int .i64 0) := T8.cell 1
    have d2 : W5.cell? ⟨p, 2, none⟩ = some (.int .i64 0) := T8.cell 2
    have d3 : W5.cell? ⟨p, 3, none⟩ = some (.slice none 0 0) := T8.cell 3
    have f0 := T8.frozen 0
    have f1 := T8.frozen 1
    have f2 := T8.frozen 2
    have f3 := T8.frozen 3
    have S9 : Sat G ((((W5.setCell ⟨p, 0, none⟩ (.int .i64 0)).setCell ⟨p, 1, none⟩ (.int .i64 8)).setCell ⟨p, 2, none⟩ (.int .i64 st)).setCell ⟨p, 3, none⟩ (.slice (some ⟨q, 0, none⟩) N N)) (blk p #[.int .i64 0, .int .i64 8, .int .i64 st, .slice (some ⟨q, 0, none⟩) N N] 84 :: blk q ((padB bs z).map byteV).toArray 5 :: blk (p + 1) #[.int .i64 0, .int .i64 8, .int .i64 st, .slice (some ⟨q, 0, none⟩) N N] 84 :: l) :=
      (((T8.setCell 0 (.int .i64 0)).setCell 1 (.int .i64 8)).setCell 2 (.int .i64 st)).setCell 3 (.slice (some ⟨q, 0, none⟩) N N)
    have hN : (padB bs z).length = N := by rw [padB_length]; have := HZ.out; omega
    obtain ⟨G', hG, S10, hu⟩ := slb_of_row S9.drop hN (Nat.le_trans (show N ≤ 1024 by omega) (by decide))
    clear S8 T8 hz5 hz6 hz3 hz0
    go_wp2_with fail
    exact bodyPost_ret (results_cell_t rfl _ _ _ _ _ _ rfl (S9).blk_at Tryz.underlying84 rfl (by kernel_rfl)) rfl (hK.out _ _ ⟨G', _, hG, rfl, S10.drop, hu⟩)
end Go.Proofs.YtcecfhfbcdbofaaGreatDoor
set_option linter.unusedSimpArgs false
set_option linter.unusedVariables false
namespace Go.Proofs.YtcecfhfbcdbofaaGreatDoor
open Go.RowKit
theorem take_snoc {α : Type} {F : List α} {i : Nat} {x : α} (h : F[i]? = some x) : F.take (i + 1) = F.take i ++ [x] := by
  have hi := (List.getElem?_eq_some_iff.1 h).1
  have he := (List.getElem?_eq_some_iff.1 h).2
  rw [List.take_succ_eq_append_getElem hi, he]

def AllR (fl : List FrD) : Prop := ∀ d ∈ fl, frRight d.t d.f d.s d.bs.length = true
def FillRes (R : Hp) (b : List UInt8) (n : Int) (e : Ending) : Prop :=
  (clRight n = false ∧ e = .returned (.tuple #[.slice none 0 0, .int .i64 11])) ∨ (clRight n = true ∧ n + 9 < b.length ∧ e = .returned (.tuple #[.slice none 0 0, .int .i64 15])) ∨
       (clRight n = true ∧ ∃ z : Nat, n + 9 = b.length + z ∧ ∃ u, e = .returned (.tuple #[u, .int .i64 0]) ∧ SlB (cellR R) u (fillB b z))
set_option maxHeartbeats 4000000 in
set_option maxRecDepth 100000 in
theorem cell_frames {G : Gnd} {w : World} {l : List Asrt} (H : Sat G w l) (v : Value) (fl : List FrD) (n : Int) (hv : RFrs G.ro v fl) (hl : (flat fl).length ≤ 100000) :
    Calls Tryz.prog 32 #[v, .int .i64 n] w fun e w' => ∃ G', G.le G' ∧ Sat G' w' l ∧
      ((¬ AllR fl ∧ e = .returned (.tuple #[.slice none 0 0, .int .i64 10])) ∨ (AllR fl ∧ FillRes G'.ro (flat fl) n e)) := by
  refine calls_any fun K hK => ?_
  obtain ⟨A, c, rfl, hfl, hel⟩ := hv
  have HEL := Lib.hid hel
  clear hel
  have S0 := H.ownNil 5 1
  clear H
  go_enter Tryz.func32, Tryz.ntmps32
  go_wp2_with fail
  go_loopw [6, 13] (fun x i wr => ∃ (k : Nat) (G1 : Gnd), k ≤ fl.length ∧ i = .int .i64 k ∧ G.le G1 ∧ AllR (fl.take k) ∧ Sat G1 wr (ownS 5 1 x (flat (fl.take k)).length ((flat (fl.take k)).map byteV) :: l)) (fun _ i _ => fl.length - (intOf i).toNat)
  case atStart => exact ⟨0, _, Nat.zero_le _, rfl, Gnd.le.rfl', fun d hd => by simp at hd, by simpa [flat] using S0⟩
  case round =>
    obtain ⟨k, G1, hk, rfl, hG, hR, S1⟩ := hrel
    clear S0
    obtain ⟨O, co, rfl, hco1, hco2, -⟩ := S1.ownForm
    by_cases hlt : k < fl.length
    · have hdk := List.getElem?_eq_getElem hlt
      obtain ⟨a, b, off, rfl, ha, p0, p1, p2, p3, hs, hbl⟩ := HEL.out k fl[k] hdk
      have q0 := S1.cellR (cellR_mono hG.ro p0)
      have q1 := S1.cellR (cellR_mono hG.ro p1)
      have q2 := S1.cellR (cellR_mono hG.ro p2)
      have q3 := S1.cellR (cellR_mono hG.ro p3)
      have HSN := Lib.hid (take_snoc hdk)
      have HFT := Lib.hid (flat_take hdk)
      have HME := Lib.hid (List.getElem_mem hlt)
      have HRR := Lib.hid hR
      have hs1 := hs.mono hG
      have hle := flat_take_le fl (k + 1)
      rw [HFT.out, List.length_append, bytes_len] at hle
      clear p0 p1 p2 p3 hs hR hdk
      generalize fl[k] = d at *
      obtain ⟨dt, df, ds, dv, db⟩ := d
      simp only at q0 q1 q2 q3 hs1 hbl hle
      obtain ⟨X, cx, rfl, -, -, -⟩ := hs1.form
      have S2 := S1.newBlk #[.int .i64 dt, .int .i64 df, .int .i64 ds, .slice X db.length cx] 84
      have hfb := frame_bytes_any S2 dt df ds _ db hs1
      clear S1
      go_wp2_with fail
      (with_reducible refine hfb.mono ?_)
      clear hfb q0 q1 q2 q3 S2
      rintro e w4 ⟨G2, u, er, hG2, S4, rfl, hor⟩
      rcases hor with ⟨hfr, rfl, rfl⟩ | ⟨hfr, rfl, hu⟩
      · have HF := Lib.hid hfr
        clear hfr
        go_wp2_with fail
        exact hK.out _ _ ⟨G2, hG.trans hG2, S4.drop.drop, .inl ⟨(fun hall => by have := hall _ HME.out; rw [HF.out] at this; cases this), rfl⟩⟩
      · have HF := Lib.hid hfr
        obtain ⟨U, cu, rfl, -, -, hU⟩ := hu.form
        have hbl2 := frBytes_length dt.toNat df.toNat ds.toNat db
        have S5 := S4.drop
        have hb2 := (hu.sat S5).1
        have HBY := Lib.hid (show FrD.bytes ⟨dt, df, ds, .slice X db.length cx, db⟩ = frBytes dt.toNat df.toNat ds.toNat db from rfl)
        generalize frBytes dt.toNat df.toNat ds.toNat db = fb at *
        have hb3 : (flat (fl.take k)).length + fb.length ≤ 140737488355328 := by omega
        clear hfr S4 hu hbl2 hle
        go_wp2_with (at_builtin; refine st_app S5 rfl _ _ rfl rfl rfl hb2 hU hb3 ?_; intro v' w' S')
        go_roundw
        case rel => exact ⟨k + 1, G2, by omega, by go_num, hG.trans hG2, fun d hd => by
          rw [HSN.out] at hd
          rcases List.mem_append.1 hd with hd | hd
          · exact HRR.out d hd
          · rw [List.mem_singleton.1 hd]; exact HF.out, by rw [HFT.out, HBY.out]; simpa using S'⟩
        case measure => simp [intOf]; omega
    · obtain rfl : k = fl.length := by omega
      rw [List.take_length] at hR S1
      obtain ⟨G3, hG3, S3, hout⟩ := S1.ownFrz
      have hf := cell_fill S3 _ (flat fl) n hout (by omega)
      rw [List.take_length]
      have HR := Lib.hid hR
      clear hR S1 hout
      go_wp2_with fail
      (with_reducible refine hf.mono ?_)
      clear hf S3
      rintro e w5 ⟨G4, hG4, S5, hres⟩
      have HRES : Hid (FillRes G4.ro (flat fl) n e) := Lib.hid hres
      obtain ⟨x, y, rfl⟩ : ∃ x y, e = .returned (.tuple #[x, y]) := by
        rcases hres with ⟨-, rfl⟩ | ⟨-, -, rfl⟩ | ⟨-, z, -, u, rfl, -⟩ <;> exact ⟨_, _, rfl⟩
      clear hres
      go_wp2_with fail
      exact hK.out _ _ ⟨G4, (hG.trans hG3).trans hG4, S5, .inr ⟨HR.out, HRES.out⟩⟩
end Go.Proofs.YtcecfhfbcdbofaaGreatDoor
set_option linter.unusedSimpArgs false
set_option linter.unusedVariables false
namespace Go.Proofs.YtcecfhfbcdbofaaGreatDoor
open Go.RowKit

def winRight (n : Int) : Bool := decide (0 ≤ n) && decide (n ≤ 2147483647)
theorem win_right (n : Int) (w : World) : Calls Tryz.prog 63 #[.int .i64 n] w fun e w' => e = .returned (.bool (winRight n)) ∧ w = w' := by
  refine calls_any fun K hK => ?_
  by_cases h : 0 ≤ n
  · go_enter Tryz.func63, Tryz.ntmps63
    go_wp2
    exact hK.out _ _ ⟨by simp [winRight, h], rfl⟩
  · go_enter Tryz.func63, Tryz.ntmps63
    go_wp2
    exact hK.out _ _ ⟨by simp [winRight]; omega, rfl⟩
/-- What set leaves, and answers. -/
def winSet (m n : Int) : Int × Int := if 2147483647 < n then (m, 103) else if n < -2147483648 then (m, 11) else (n, 0)
theorem win_set (b off : Nat) (m n : Int) (w : World) (hc : w.cell? ⟨b, off, none⟩ = some (.int .i64 m)) (hf : w.frozen? ⟨b, off, none⟩ = false) :
    Calls Tryz.prog 96 #[.pointer (some ⟨b, off, none⟩), .int .i64 n] w fun e w' => e = .returned (.int .i64 (winSet m n).2) ∧ w' = w.setCell ⟨b, off, none⟩ (.int .i64 (winSet m n).1) := by
  refine calls_any fun K hK => ?_
  by_cases h1 : 2147483647 < n
  · go_enter Tryz.func96, Tryz.ntmps96
    go_wp2
    exact hK.out _ _ ⟨by simp [winSet, h1], by simp only [winSet, if_pos h1]; exact (setCell_self hc).symm⟩
  · by_cases h2 : n < -2147483648
    · go_enter Tryz.func96, Tryz.ntmps96
      go_wp2
      exact hK.out _ _ ⟨by simp only [winSet]; rw [if_neg (by omega), if_pos h2], by simp only [winSet]; rw [if_neg (by omega), if_pos h2]; exact (setCell_self hc).symm⟩
    · go_enter Tryz.func96, Tryz.ntmps96
      go_wp2
      exact hK.out _ _ ⟨by simp only [winSet]; rw [if_neg (by omega), if_neg (by omega)], by simp only [winSet]; rw [if_neg (by omega), if_neg (by omega)]⟩
theorem win_size (n : Int) (w : World) : Calls Tryz.prog 95 #[.agg #[.int .i64 n]] w fun e w' => e = .returned (.int .i64 n) ∧ Below w.heap.size w w' := by
  refine calls_any fun K hK => ?_
  go_enter Tryz.func95, Tryz.ntmps95
  go_wp2
  exact hK.out _ _ ⟨rfl, (Below.refl _ _).alloc (Nat.le_refl _) _⟩
def winNew (n : Int) : Int × Int := if winRight n = true then (n, 0) else (0, 11)
theorem win_new (n : Int) (w : World) : Calls Tryz.prog 42 #[.int .i64 n] w fun e w' => e = .returned (.tuple #[.agg #[.int .i64 (winNew n).1], .int .i64 (winNew n).2]) ∧ Below w.heap.size w w' := by
  refine calls_any fun K hK => ?_
  cases h : winRight n with
  | true =>
    have hc := win_right n
    rw [h] at hc
    go_enter Tryz.func42, Tryz.ntmps42
    go_wp2_with (go_at_call 63; refine (hc _).mono ?_; rintro e w' ⟨rfl, rfl⟩)
    refine bodyPost_ret (v := .tuple #[.agg #[.int .i64 n], .int .i64 0]) (by simp [results, Tryz.results42, go_sem]) rfl ?_
    exact hK.out _ _ ⟨by simp [winNew, h], (Below.refl _ _).alloc (Nat.le_refl _) _⟩
  | false =>
    have hc := win_right n
    rw [h] at hc
    go_enter Tryz.func42, Tryz.ntmps42
    go_wp2_with (go_at_call 63; refine (hc _).mono ?_; rintro e w' ⟨rfl, rfl⟩)
    refine bodyPost_ret (v := .tuple #[.agg #[.int .i64 0], .int .i64 11]) (by simp [results, Tryz.results42, go_sem]) rfl ?_
    exact hK.out _ _ ⟨by simp [winNew, h], (Below.refl _ _).alloc (Nat.le_refl _) _⟩
def winCan (m n : Int) : Bool := n == 0 || (decide (0 < n) && decide (n ≤ m))
theorem win_can (m n : Int) (w : World) : Calls Tryz.prog 68 #[.agg #[.int .i64 m], .int .i64 n] w fun e w' => e = .returned (.bool (winCan m n)) ∧ Below w.heap.size w w' := by
  refine calls_any fun K hK => ?_
  by_cases h : n = 0
  · subst h
    go_enter Tryz.func68, Tryz.ntmps68
    go_wp2
    exact hK.out _ _ ⟨by simp [winCan], (Below.refl _ _).alloc (Nat.le_refl _) _⟩
  · have hb : (n == 0) = false := by simpa using h
    by_cases h2 : 0 < n
    · go_enter Tryz.func68, Tryz.ntmps68
      go_wp2
      exact hK.out _ _ ⟨by simp [winCan, h, h2], (Below.refl _ _).alloc (Nat.le_refl _) _⟩
    · go_enter Tryz.func68, Tryz.ntmps68
      go_wp2
      exact hK.out _ _ ⟨by simp [winCan, h]; omega, (Below.refl _ _).alloc (Nat.le_refl _) _⟩
def winGrow (m n : Int) : Int × Int := if winRight n = true then (if n = 0 then (m, 11) else winSet m (m + n)) else (m, 11)
def winSpend (m n : Int) : Int × Int := if winRight n = true then (if winCan m n = true then winSet m (m - n) else (m, 15)) else (m, 11)
theorem win_spend (b off : Nat) (m n : Int) (w : World) (h0 : -2147483648 ≤ m) (h1 : m ≤ 2147483647) (hc : w.cell? ⟨b, off, none⟩ = some (.int .i64 m)) (hf : w.frozen? ⟨b, off, none⟩ = false) :
    Calls Tryz.prog 71 #[.pointer (some ⟨b, off, none⟩), .int .i64 n] w fun e w' => e = .returned (.int .i64 (winSpend m n).2) ∧
      ∃ w1, Below w.heap.size w w1 ∧ w' = w1.setCell ⟨b, off, none⟩ (.int .i64 (winSpend m n).1) := by
  refine calls_any fun K hK => ?_
  cases h : winRight n with
  | true =>
    have hr := win_right n
    rw [h] at hr
    have hn : 0 ≤ n ∧ n ≤ 2147483647 := by simpa [winRight] using h
    obtain ⟨n0, n1⟩ := hn
    have hcan := win_can m n
    cases h2 : winCan m n with
    | true =>
      rw [h2] at hcan
      go_enter Tryz.func71, Tryz.ntmps71
      go_wp2_with (first | (go_at_call 63; refine (hr _).mono ?_; rintro e w' ⟨rfl, rfl⟩) | (go_at_call 68; refine (hcan _).mono ?_; rintro e w1 ⟨rfl, hb⟩; have hb' := Lib.hid hb; obtain ⟨hcb, hfb⟩ := And.intro ((hb.cell (p := ⟨b, off, none⟩) (World.block_lt_of_cell? _ _ hc)).trans hc) ((hb.frozen (p := ⟨b, off, none⟩) (World.block_lt_of_cell? _ _ hc)).trans hf)) | (go_at_call 96; refine (win_set b off m (m - n) _ hcb hfb).mono ?_; rintro e w' ⟨rfl, rfl⟩))
      exact hK.out _ _ ⟨by simp [winSpend, h, h2], _, hb'.out, by simp [winSpend, h, h2]⟩
    | false =>
      rw [h2] at hcan
      go_enter Tryz.func71, Tryz.ntmps71
      go_wp2_with (first | (go_at_call 63; refine (hr _).mono ?_; rintro e w' ⟨rfl, rfl⟩) | (go_at_call 68; refine (hcan _).mono ?_; rintro e w1 ⟨rfl, hb⟩; have hb' := Lib.hid hb))
      exact hK.out _ _ ⟨by simp [winSpend, h, h2], _, hb'.out, by simp only [winSpend, h, h2, if_true]; exact (setCell_self ((hb'.out.cell (p := ⟨b, off, none⟩) (World.block_lt_of_cell? _ _ hc)).trans hc)).symm⟩
  | false =>
    have hr := win_right n
    rw [h] at hr
    go_enter Tryz.func71, Tryz.ntmps71
    go_wp2_with (go_at_call 63; refine (hr _).mono ?_; rintro e w' ⟨rfl, rfl⟩)
    exact hK.out _ _ ⟨by simp [winSpend, h], _, Below.refl _ _, by simp only [winSpend, h]; exact (setCell_self hc).symm⟩
end Go.Proofs.YtcecfhfbcdbofaaGreatDoor
set_option linter.unusedSimpArgs false
set_option linter.unusedVariables false
namespace Go.Proofs.YtcecfhfbcdbofaaGreatDoor
open Go.RowKit

theorem info_int : (Tryz.prog.info? 3).map (fun i => (i.zero, i.size, i.bytes)) = some (some (.int .i64 0), 1, 8) := by kernel_rfl
def part (t : Int) (m i : Nat) : Int := t / m + if (i : Int) < t % m then 1 else 0
def parts (t : Int) (m : Nat) : List Int := (List.range m).map (part t m)
theorem win_parts_none (t n : Int) (w : World) (h : n < 1 ∨ 64 < n ∨ t < 0) :
    Calls Tryz.prog 41 #[.int .i64 t, .int .i64 n] w fun e w' => e = .returned (.slice none 0 0) ∧ w = w' := by
  refine calls_any fun K hK => ?_
  by_cases h1 : n < 1
  · go_enter Tryz.func41, Tryz.ntmps41
    go_wp2_with fail
    exact hK.out _ _ ⟨rfl, rfl⟩
  · by_cases h2 : 64 < n
    · go_enter Tryz.func41, Tryz.ntmps41
      go_wp2_with fail
      exact hK.out _ _ ⟨rfl, rfl⟩
    · have h3 : t < 0 := by omega
      go_enter Tryz.func41, Tryz.ntmps41
      go_wp2_with fail
      exact hK.out _ _ ⟨rfl, rfl⟩
/-- After k rounds: the first k cells. -/
structure PartsAt (t : Int) (m k : Nat) (w wr : World) : Prop where
  below : Below w.heap.size w wr
  row : ∃ cs, wr.heap[w.heap.size]? = some (.cells cs 3 (0, 0)) ∧ cs.size = m ∧ ∀ j, j < k → cs[j]? = some (.int .i64 (part t m j))
theorem PartsAt.step {t : Int} {m k : Nat} {w wr : World} (h : PartsAt t m k w wr) (hk : k < m) (v : Int) (hv : v = part t m k) :
    PartsAt t m (k + 1) w (wr.setCell ⟨w.heap.size, k, none⟩ (.int .i64 v)) := by
  obtain ⟨hb, cs, hh, hs, hc⟩ := h
  refine ⟨hb.setCell (Nat.le_refl _) _, cs.setIfInBounds k (.int .i64 v), by simp [World.setCell, Array.getElem?_modify, hh], by simpa using hs, fun j hj => ?_⟩
  rw [Array.getElem?_setIfInBounds]
  by_cases e : k = j
  · subst e; simp [hs, hk, hv]
  · rw [if_neg e]; exact hc j (by omega)
theorem PartsAt.step2 {t : Int} {m k : Nat} {w wr : World} (h : PartsAt t m k w wr) (hk : k < m) (u v : Int) (hv : v = part t m k) :
    PartsAt t m (k + 1) w ((wr.setCell ⟨w.heap.size, k, none⟩ (.int .i64 u)).setCell ⟨w.heap.size, k, none⟩ (.int .i64 v)) := by
  obtain ⟨hb, cs, hh, hs, hc⟩ := h
  refine ⟨(hb.setCell (Nat.le_refl _) _).setCell (Nat.le_refl _) _, (cs.setIfInBounds k (.int .i64 u)).setIfInBounds k (.int .i64 v), by simp [World.setCell, Array.getElem?_modify, hh], by simpa using hs, fun j hj => ?_⟩
  rw [Array.getElem?_setIfInBounds]
  by_cases e : k = j
  · subst e; simp [hs, hk, hv]
  · rw [if_neg e, Array.getElem?_setIfInBounds, if_neg e]; exact hc j (by omega)
set_option maxHeartbeats 1000000 in
theorem win_parts (t : Int) (m : Nat) (w : World) (h0 : 0 ≤ t) (h1 : t ≤ 9223372036854775807) (hm0 : 1 ≤ m) (hm : m ≤ 64) :
    Calls Tryz.prog 41 #[.int .i64 t, .int .i64 m] w fun e w' => e = .returned (.slice (some ⟨w.heap.size, 0, none⟩) m m) ∧ Below w.heap.size w w' ∧
      w'.heap[w.heap.size]? = some (.cells ((parts t m).map (Value.int .i64)).toArray 3 (0, 0)) := by
  refine calls_any fun K hK => ?_
  have hmk := run_make_row' (P := Tryz.prog) 43 3 (.int .i64 0) 8 Tryz.underlying43 info_int rfl .i64 .i64 m (by omega) (by omega)
  go_enter Tryz.func41, Tryz.ntmps41
  go_wp2_with fail
  go_loopw [21] (fun i wr => ∃ k : Nat, k ≤ m ∧ i = .int .i64 k ∧ PartsAt t m k w wr) (fun i _ => m - (intOf i).toNat)
  case atStart =>
    exact ⟨0, Nat.zero_le _, rfl, (Below.refl _ _).alloc (Nat.le_refl _) _, _, heap_alloc_new w _, size_madeCells _ _, fun j hj => absurd hj (Nat.not_lt_zero _)⟩
  case round =>
    obtain ⟨k, hk, rfl, hp⟩ := hrel
    by_cases hlt : k < m
    · obtain ⟨cs, hh, hs, hc⟩ := hp.row
      have hcell : ∃ v, wr.cell? ⟨w.heap.size, k, none⟩ = some v := ⟨cs[k]'(by omega), by simp [World.cell?, hh, hs, hlt]⟩
      obtain ⟨v, hcell⟩ := hcell
      have hfr := frozen_of_block hh k
      have hq : 0 ≤ t / m := Int.ediv_nonneg h0 (by omega)
      have hq2 : t / m ≤ t := Int.ediv_le_self _ h0
      have HP := Lib.hid hp
      clear hh hs hc hp
      by_cases hr : (k : Int) < t % m
      · have hq3 : t / m ≤ 4611686018427387904 := by
          have e1 := Int.mul_ediv_add_emod t m
          have e2 := Int.emod_lt_of_pos t (show (0 : Int) < m by omega)
          have e3 : (2 : Int) * (t / m) ≤ m * (t / m) := Int.mul_le_mul_of_nonneg_right (by omega) hq
          omega
        go_wp2_with fail
        go_roundw
        case rel => exact ⟨k + 1, by omega, by go_num, HP.out.step2 hlt _ _ (by unfold part; rw [if_pos hr])⟩
        case measure => simp [intOf]; omega
      · go_wp2_with fail
        go_roundw
        case rel => exact ⟨k + 1, by omega, by go_num, HP.out.step hlt _ (by unfold part; rw [if_neg hr]; omega)⟩
        case measure => simp [intOf]; omega
    · have HP := Lib.hid hp
      clear hp
      go_wp2_with fail
      refine hK.out _ _ ⟨rfl, HP.out.below, ?_⟩
      obtain ⟨cs, hh, hs, hc⟩ := HP.out.row
      rw [hh]
      have : cs = ((parts t m).map (Value.int .i64)).toArray := by
        apply Array.ext_getElem?
        intro j
        by_cases hj : j < m
        · rw [hc j (by omega)]; simp [parts, hj]
        · rw [Array.getElem?_eq_none (by omega)]; simp [parts, hj]
      rw [this]
end Go.Proofs.YtcecfhfbcdbofaaGreatDoor
set_option linter.unusedSimpArgs false
set_option linter.unusedVariables false
namespace Go.Proofs.YtcecfhfbcdbofaaGreatDoor
open Go.RowKit

def psum (t : Int) (m : Nat) : Nat → Int
  | 0 => 0
  | k + 1 => psum t m k + part t m k
theorem psum_eq (t : Int) (m k : Nat) (h0 : 0 ≤ t) (hm : 0 < m) : psum t m k = k * (t / m) + min (k : Int) (t % m) := by
  have hr := Int.emod_nonneg t (show (m : Int) ≠ 0 by omega)
  induction k with
  | zero => simp [psum]; omega
  | succ k ih =>
    rw [psum, ih]
    unfold part
    have : ((k + 1 : Nat) : Int) * (t / m) = k * (t / m) + t / m := by rw [Int.natCast_add, Int.add_mul]; simp
    rw [this]
    split <;> omega
theorem psum_all (t : Int) (m : Nat) (h0 : 0 ≤ t) (hm : 0 < m) : psum t m m = t := by
  rw [psum_eq t m m h0 hm]
  have e1 := Int.mul_ediv_add_emod t m
  have e2 := Int.emod_lt_of_pos t (show (0 : Int) < m by omega)
  omega
theorem part_nonneg (t : Int) (m k : Nat) (h0 : 0 ≤ t) : 0 ≤ part t m k := by
  unfold part
  have := Int.ediv_nonneg h0 (show (0 : Int) ≤ m by omega)
  split <;> omega
theorem psum_mono (t : Int) (m : Nat) (h0 : 0 ≤ t) : ∀ k d, psum t m k ≤ psum t m (k + d) := by
  intro k d
  induction d with
  | zero => exact Int.le_refl _
  | succ d ih =>
    have := part_nonneg t m (k + d) h0
    show _ ≤ psum t m (k + d) + part t m (k + d)
    omega
theorem psum_range (t : Int) (m k : Nat) (h0 : 0 ≤ t) (hm : 0 < m) (hk : k ≤ m) : 0 ≤ psum t m k ∧ psum t m k ≤ t := by
  have h1 := psum_mono t m h0 0 k
  have h2 := psum_mono t m h0 k (m - k)
  rw [show k + (m - k) = m by omega, psum_all t m h0 hm] at h2
  rw [Nat.zero_add] at h1
  exact ⟨h1, h2⟩
theorem part_fall (t : Int) (m i j : Nat) (h : i ≤ j) : part t m j ≤ part t m i := by
  unfold part
  split <;> split <;> omega
theorem part_near (t : Int) (m i j : Nat) : part t m i - part t m j ≤ 1 := by
  unfold part
  split <;> split <;> omega
theorem part_lt (t : Int) (m k : Nat) (h0 : 0 ≤ t) (h1 : t ≤ 9223372036854775807) (hm : 0 < m) (hk : k < m) : part t m k ≤ t := by
  have h1 := psum_range t m k h0 hm (by omega)
  have h2 := psum_range t m (k + 1) h0 hm (by omega)
  have : psum t m (k + 1) = psum t m k + part t m k := rfl
  omega
def ints (L : List Int) : List Value := L.map (Value.int .i64)
def isum : List Int → Int
  | [] => 0
  | x :: l => x + isum l
theorem isum_append (a b : List Int) : isum (a ++ b) = isum a + isum b := by
  induction a with
  | nil => simp [isum]
  | cons x a ih => simp [isum, ih]; omega
theorem isum_nonneg {L : List Int} (h : ∀ x ∈ L, 0 ≤ x) : 0 ≤ isum L := by
  induction L with
  | nil => exact Int.le_refl _
  | cons x a ih =>
    have := ih fun y hy => h y (.tail _ hy)
    have := h x (.head _)
    simp [isum]; omega
theorem le_isum {L : List Int} (h : ∀ x ∈ L, 0 ≤ x) : ∀ x ∈ L, x ≤ isum L := by
  induction L with
  | nil => intro x hx; cases hx
  | cons y a ih =>
    have h1 := isum_nonneg fun z hz => h z (.tail _ hz)
    have h2 := h y (.head _)
    intro x hx
    cases hx with
    | head => simp [isum]; omega
    | tail _ hx => have := ih (fun z hz => h z (.tail _ hz)) x hx; simp [isum]; omega
theorem isum_set : ∀ (L : List Int) (i : Nat) (x : Int), i < L.length → isum (L.set i x) = isum L - L.getD i 0 + x
  | [], i, x, h => by simp at h
  | y :: L, 0, x, h => by simp [isum]; omega
  | y :: L, i + 1, x, h => by
    have := isum_set L i x (by simpa using h)
    simp [isum] at this ⊢
    omega
structure Good (L : List Int) : Prop where
  pos : 1 ≤ L.length
  len : L.length ≤ 64
  nonneg : ∀ x ∈ L, 0 ≤ x
  sum : isum L ≤ 2147483647
theorem getD_mem {L : List Int} {i : Nat} (h : i < L.length) : L.getD i 0 ∈ L := by
  rw [List.getD_eq_getElem?_getD, List.getElem?_eq_getElem h]; exact List.getElem_mem h
theorem Good.at_ {L : List Int} (g : Good L) {i : Nat} (h : i < L.length) : 0 ≤ L.getD i 0 ∧ L.getD i 0 ≤ isum L := ⟨g.nonneg _ (getD_mem h), le_isum g.nonneg _ (getD_mem h)⟩
theorem Good.s0 {L : List Int} (g : Good L) : 0 ≤ isum L := isum_nonneg g.nonneg
/-- The credit at p: its parts, and how many grants there were. -/
def crA (p : Nat) (L : List Int) (T : Nat) : Asrt := ex fun v => star [blk p #[.int .i64 (isum L), v, .int .i64 ((T % L.length : Nat) : Int)] 118, ownS 106 1 v L.length (ints L)]
section
variable {G : Gnd} {w w' : World} {l : List Asrt} {p : Nat} {L : List Int} {T : Nat}
theorem cr_iff : Sat G w (crA p L T :: l) ↔ ∃ v, Sat G w (blk p #[.int .i64 (isum L), v, .int .i64 ((T % L.length : Nat) : Int)] 118 :: ownS 106 1 v L.length (ints L) :: l) := by
  unfold crA
  rw [Sat.ex_iff]
  simp only [Sat.star_iff]
  rfl
theorem cr_open (H : Sat G w (crA p L T :: l)) (hL : 1 ≤ L.length) : ∃ g cap cur, Sat G w (blk p #[.int .i64 (isum L), .slice (some ⟨g, 0, none⟩) L.length cap, .int .i64 ((T % L.length : Nat) : Int)] 118 :: blk g cur 106 :: l) ∧
    L.length ≤ cap ∧ cap ≤ maxLen ∧ cur.size = cap ∧ cur.toList.take L.length = ints L := by
  obtain ⟨v, S⟩ := cr_iff.1 H
  obtain ⟨_, ⟨_, h0, _⟩ | ⟨g, cap, cur, rfl, h1, h2, h3, h4, S⟩⟩ := own_iff.1 S.swap
  · omega
  · exact ⟨g, cap, cur, S.swap, h1, h2, by omega, by rw [Nat.mul_one] at h4; exact h4⟩
theorem cr_close {g cap : Nat} {cur : Array Value} {s t : Int} {n : Nat} (S : Sat G w (blk p #[.int .i64 s, .slice (some ⟨g, 0, none⟩) n cap, .int .i64 t] 118 :: blk g cur 106 :: l)) (hs : s = isum L) (ht : t = ((T % L.length : Nat) : Int)) (hn : n = L.length)
    (h1 : L.length ≤ cap) (h2 : cap ≤ maxLen) (h3 : cur.size = cap) (h4 : cur.toList.take L.length = ints L) : Sat G w (crA p L T :: l) := by
  subst hs ht hn
  exact cr_iff.2 ⟨_, (own_iff.2 ⟨by simp [ints], .inr ⟨g, cap, cur, rfl, h1, h2, by omega, by rw [Nat.mul_one]; exact h4, S.swap⟩⟩).swap⟩
theorem cur_at {cur : Array Value} {n i : Nat} (h : cur.toList.take n = ints L) (hn : n = L.length) (hi : i < L.length) : cur[i]? = some (.int .i64 (L.getD i 0)) := by
  have e : (cur.toList.take n)[i]? = (ints L)[i]? := by rw [h]
  rw [List.getElem?_take, if_pos (by omega)] at e
  rw [← Array.getElem?_toList, e]
  simp [ints, hi]
theorem cur_set {cur : Array Value} {n i : Nat} (h : cur.toList.take n = ints L) (x : Int) : (cur.setIfInBounds i (.int .i64 x)).toList.take n = ints (L.set i x) := by
  rw [Array.toList_setIfInBounds, List.take_set, h]
  simp [ints, List.map_set]
theorem spend_at {b off : Nat} {cells : Array Value} {t : TypeId} {m n : Int} (S : Sat G w (blk b cells t :: l)) (hm : cells[off]? = some (.int .i64 m)) (h0 : -2147483648 ≤ m) (h1 : m ≤ 2147483647) :
    Calls Tryz.prog 71 #[.pointer (some ⟨b, off, none⟩), .int .i64 n] w fun e w' => e = .returned (.int .i64 (winSpend m n).2) ∧ Sat G w' (blk b (cells.setIfInBounds off (.int .i64 (winSpend m n).1)) t :: l) :=
  (win_spend b off m n w h0 h1 ((S.cell off).trans hm) (S.frozen off)).mono fun e w' ⟨h, w1, hb, h'⟩ => ⟨h, h' ▸ (S.below hb).setCell off _⟩
def crHas (m : Nat) (k : Int) : Bool := decide (0 ≤ k ∧ k < m)
theorem cr_has (H : Sat G w (crA p L T :: l)) (hL : 1 ≤ L.length) (k : Int) : Calls Tryz.prog 94 #[.pointer (some ⟨p, 0, none⟩), .int .i64 k] w fun e w' => e = .returned (.bool (crHas L.length k)) ∧ w = w' := by
  refine calls_any fun K hK => ?_
  obtain ⟨g, cap, cur, S, -⟩ := cr_open H hL
  have c1 : w.cell? ⟨p, 1, none⟩ = some (.slice (some ⟨g, 0, none⟩) L.length cap) := S.cell 1
  clear S H
  generalize L.length = m at *
  by_cases a1 : k ≥ 0
  · by_cases a2 : k < m
    · rw [show crHas m k = true from decide_eq_true ⟨a1, a2⟩] at hK
      replace a1 := decide_eq_true a1
      replace a2 := decide_eq_true a2
      go_enter Tryz.func94, Tryz.ntmps94
      go_wp2_with fail
      exact hK.out _ _ ⟨rfl, rfl⟩
    · rw [show crHas m k = false from decide_eq_false fun h => a2 h.2] at hK
      replace a1 := decide_eq_true a1
      replace a2 := decide_eq_false a2
      go_enter Tryz.func94, Tryz.ntmps94
      go_wp2_with fail
      exact hK.out _ _ ⟨rfl, rfl⟩
  · rw [show crHas m k = false from decide_eq_false fun h => a1 h.1] at hK
    replace a1 := decide_eq_false a1
    go_enter Tryz.func94, Tryz.ntmps94
    go_wp2_with fail
    exact hK.out _ _ ⟨rfl, rfl⟩
/-- A tenant's part. -/
def crLeft (L : List Int) (k : Int) : Int := if crHas L.length k then L.getD k.toNat 0 else 0
theorem cr_left (H : Sat G w (crA p L T :: l)) (hL : 1 ≤ L.length) (k : Int) : Calls Tryz.prog 69 #[.pointer (some ⟨p, 0, none⟩), .int .i64 k] w fun e w' => e = .returned (.int .i64 (crLeft L k)) ∧ Below w.heap.size w w' := by
  refine calls_any fun K hK => ?_
  have hh := cr_has H hL k
  cases h : crHas L.length k with
  | false =>
    rw [h] at hh
    rw [show crLeft L k = 0 by unfold crLeft; rw [h]; rfl] at hK
    go_enter Tryz.func69, Tryz.ntmps69
    go_wp2_with fail
    (with_reducible refine hh.mono ?_)
    rintro e w1 ⟨rfl, rfl⟩
    go_wp2_with fail
    exact hK.out _ _ ⟨rfl, Below.refl _ _⟩
  | true =>
    rw [h] at hh
    rw [show crLeft L k = L.getD k.toNat 0 by unfold crLeft; rw [h]; rfl] at hK
    obtain ⟨k0, k1⟩ := of_decide_eq_true h
    obtain ⟨k, rfl⟩ : ∃ j : Nat, k = j := ⟨k.toNat, by omega⟩
    obtain ⟨g, cap, cur, S, h1, h2, h3, h4⟩ := cr_open H hL
    have c1 : w.cell? ⟨p, 1, none⟩ = some (.slice (some ⟨g, 0, none⟩) L.length cap) := S.cell 1
    have c2 : w.cell? ⟨g, k, none⟩ = some (.int .i64 (L.getD k 0)) := (S.swap.cell k).trans (cur_at h4 rfl (by omega))
    rw [Int.toNat_natCast] at hK
    have hk : k < L.length := by omega
    clear S H h1 h2 h3 h4 h
    generalize L.length = m at *
    generalize L.getD k 0 = x at *
    go_enter Tryz.func69, Tryz.ntmps69
    go_wp2_with fail
    (with_reducible refine hh.mono ?_)
    rintro e w1 ⟨rfl, rfl⟩
    go_wp2_with fail
    (with_reducible refine (win_size _ _).mono ?_)
    rintro e w4 ⟨rfl, hb4⟩
    have HB := Lib.hid hb4
    clear hb4
    go_wp2_with fail
    exact hK.out _ _ ⟨rfl, HB.out⟩
end
end Go.Proofs.YtcecfhfbcdbofaaGreatDoor
set_option linter.unusedSimpArgs false
set_option linter.unusedVariables false
namespace Go.Proofs.YtcecfhfbcdbofaaGreatDoor
open Go.RowKit

theorem set_same {cur : Array Value} {k : Nat} {v : Value} (h : cur[k]? = some v) : cur.setIfInBounds k v = cur := by
  apply Array.ext_getElem?
  intro i
  rw [Array.getElem?_setIfInBounds]
  split
  · rename_i e; subst e
    have := (Array.getElem?_eq_some_iff.1 h).1
    simp only [this, if_true]
    exact h.symm
  · rfl
theorem winSpend_eq (m n : Int) (h0 : 0 ≤ m) (h1 : m ≤ 2147483647) : winSpend m n = if 0 ≤ n ∧ n ≤ 2147483647 then (if n ≤ m then (m - n, 0) else (m, 15)) else (m, 11) := by
  unfold winSpend winRight winCan winSet
  by_cases a : 0 ≤ n ∧ n ≤ 2147483647
  · rw [if_pos a, if_pos (by simp; omega)]
    by_cases b : n ≤ m
    · rw [if_pos b, if_pos (by simp; omega), if_neg (by omega), if_neg (by omega)]
    · rw [if_neg b, if_neg (by simp; omega)]
  · rw [if_neg a, if_neg (by simp; omega)]
theorem winGrow_eq (m n : Int) (h0 : 0 ≤ m) : winGrow m n = if n < 1 ∨ 2147483647 < n then (m, 11) else (if 2147483647 < m + n then (m, 103) else (m + n, 0)) := by
  unfold winGrow winRight winSet
  by_cases a : n < 1 ∨ 2147483647 < n
  · rw [if_pos a]
    by_cases b : n = 0
    · rw [if_pos (by simp; omega), if_pos b]
    · rw [if_neg (by simp; omega)]
  · rw [if_neg a, if_pos (by simp; omega), if_neg (by omega)]
    by_cases b : 2147483647 < m + n
    · rw [if_pos b, if_pos b]
    · rw [if_neg b, if_neg b, if_neg (by omega)]
def crSpend (L : List Int) (k n : Int) : List Int × Int :=
  if crHas L.length k then (if 0 ≤ n ∧ n ≤ 2147483647 then (if n ≤ L.getD k.toNat 0 then (L.set k.toNat (L.getD k.toNat 0 - n), 0) else (L, 15)) else (L, 11)) else (L, 11)
section
variable {G : Gnd} {w w' : World} {l : List Asrt} {p : Nat} {L : List Int} {T : Nat}
set_option maxHeartbeats 1000000 in
set_option maxRecDepth 100000 in
theorem cr_spend (H : Sat G w (crA p L T :: l)) (gd : Good L) (k n : Int) : Calls Tryz.prog 72 #[.pointer (some ⟨p, 0, none⟩), .int .i64 k, .int .i64 n] w fun e w' => e = .returned (.int .i64 (crSpend L k n).2) ∧ Sat G w' (crA p (crSpend L k n).1 T :: l) := by
  refine calls_any fun K hK => ?_
  have hh := cr_has H gd.pos k
  unfold crSpend at hK
  cases h : crHas L.length k with
  | false =>
    rw [h] at hh hK
    rw [if_neg (by decide)] at hK
    go_enter Tryz.func72, Tryz.ntmps72
    go_wp2_with fail
    (with_reducible refine hh.mono ?_)
    rintro e w1 ⟨rfl, rfl⟩
    go_wp2_with fail
    exact hK.out _ _ ⟨rfl, H⟩
  | true =>
    rw [h] at hh hK
    rw [if_pos rfl] at hK
    obtain ⟨k0, k1⟩ := of_decide_eq_true h
    obtain ⟨k, rfl⟩ : ∃ j : Nat, k = j := ⟨k.toNat, by omega⟩
    rw [Int.toNat_natCast] at hK
    have hk : k < L.length := by omega
    obtain ⟨g, cap, cur, S, h1, h2, h3, h4⟩ := cr_open H gd.pos
    have c1 : w.cell? ⟨p, 1, none⟩ = some (.slice (some ⟨g, 0, none⟩) L.length cap) := S.cell 1
    obtain ⟨x0, x1⟩ := gd.at_ hk
    have gs := gd.sum
    have g0 := gd.s0
    have hca := cur_at h4 rfl hk
    have hsp := spend_at S.swap (n := n) hca (by omega) (by omega)
    rw [winSpend_eq _ _ x0 (by omega)] at hsp
    by_cases a1 : 0 ≤ n ∧ n ≤ 2147483647
    · by_cases a2 : n ≤ L.getD k 0
      · rw [if_pos a1, if_pos a2] at hsp hK
        have hl : (L.set k (L.getD k 0 - n)).length = L.length := List.length_set ..
        have hs : isum (L.set k (L.getD k 0 - n)) = isum L - n := by rw [isum_set L k _ hk]; omega
        have HC : ∀ {W : World}, Sat G W (blk p #[.int .i64 (isum L - n), .slice (some ⟨g, 0, none⟩) L.length cap, .int .i64 ((T % L.length : Nat) : Int)] 118 :: blk g (cur.setIfInBounds k (.int .i64 (L.getD k 0 - n))) 106 :: l) → Sat G W (crA p (L.set k (L.getD k 0 - n)) T :: l) := fun S =>
          cr_close S hs.symm (by rw [hl]) hl.symm (by rw [hl]; exact h1) h2 (by simpa using h3) (by rw [hl]; exact cur_set h4 _)
        have HH := Lib.hid a2
        generalize L.set k (L.getD k 0 - n) = L' at *
        generalize L.getD k 0 = x at *
        clear hl hs hca h4 c1 H
        have c1 : w.cell? ⟨p, 1, none⟩ = some (.slice (some ⟨g, 0, none⟩) L.length cap) := S.cell 1
        clear S
        go_enter Tryz.func72, Tryz.ntmps72
        go_wp2_with fail
        (with_reducible refine hh.mono ?_)
        rintro e w1 ⟨rfl, rfl⟩
        go_wp2_with fail
        (with_reducible refine hsp.mono ?_)
        clear hsp
        rintro e w1 ⟨rfl, S1⟩
        have hsp := spend_at S1.swap (off := 0) (n := n) rfl (by omega) (by omega)
        rw [winSpend_eq _ _ (by omega) (by omega), if_pos a1, if_pos (by omega)] at hsp
        clear S1
        go_wp2_with fail
        (with_reducible refine hsp.mono ?_)
        clear hsp
        rintro e w2 ⟨rfl, S2⟩
        go_wp2_with fail
        exact hK.out _ _ ⟨rfl, HC S2⟩
      · rw [if_pos a1, if_neg a2] at hsp hK
        rw [set_same hca] at hsp
        have HC : ∀ {W : World}, Sat G W (blk p #[.int .i64 (isum L), .slice (some ⟨g, 0, none⟩) L.length cap, .int .i64 ((T % L.length : Nat) : Int)] 118 :: blk g cur 106 :: l) → Sat G W (crA p L T :: l) := fun S =>
          cr_close S rfl rfl rfl h1 h2 h3 h4
        generalize L.getD k 0 = x at *
        clear hca h4 H S
        go_enter Tryz.func72, Tryz.ntmps72
        go_wp2_with fail
        (with_reducible refine hh.mono ?_)
        rintro e w1 ⟨rfl, rfl⟩
        go_wp2_with fail
        (with_reducible refine hsp.mono ?_)
        clear hsp
        rintro e w1 ⟨rfl, S1⟩
        go_wp2_with fail
        exact hK.out _ _ ⟨rfl, HC S1.swap⟩
    · rw [if_neg a1] at hsp hK
      rw [set_same hca] at hsp
      have HC : ∀ {W : World}, Sat G W (blk p #[.int .i64 (isum L), .slice (some ⟨g, 0, none⟩) L.length cap, .int .i64 ((T % L.length : Nat) : Int)] 118 :: blk g cur 106 :: l) → Sat G W (crA p L T :: l) := fun S =>
        cr_close S rfl rfl rfl h1 h2 h3 h4
      generalize L.getD k 0 = x at *
      clear hca h4 H S
      go_enter Tryz.func72, Tryz.ntmps72
      go_wp2_with fail
      (with_reducible refine hh.mono ?_)
      rintro e w1 ⟨rfl, rfl⟩
      go_wp2_with fail
      (with_reducible refine hsp.mono ?_)
      clear hsp
      rintro e w1 ⟨rfl, S1⟩
      go_wp2_with fail
      exact hK.out _ _ ⟨rfl, HC S1.swap⟩
/-- How far a place is behind the turn. -/
def kOf (m T j : Nat) : Nat := (j + m - T % m) % m
/-- The parts after i rounds of a grant. -/
def gl (L : List Int) (T : Nat) (n : Int) (i : Nat) : List Int := (List.range L.length).map fun j => L.getD j 0 + if kOf L.length T j < i then part n L.length (kOf L.length T j) else 0
def crGrant (L : List Int) (T : Nat) (n : Int) : List Int × Nat × Int :=
  if n < 1 ∨ 2147483647 < n then (L, T, 11) else if 2147483647 < isum L + n then (L, T, 103) else (gl L T n L.length, T + 1, 0)
theorem gl_length (L : List Int) (T : Nat) (n : Int) (i : Nat) : (gl L T n i).length = L.length := by simp [gl]
theorem gl_getD (L : List Int) (T : Nat) (n : Int) (i j : Nat) (h : j < L.length) : (gl L T n i).getD j 0 = L.getD j 0 + if kOf L.length T j < i then part n L.length (kOf L.length T j) else 0 := by
  unfold gl
  rw [List.getD_eq_getElem?_getD, List.getElem?_map, List.getElem?_range h]
  rfl
theorem list_ext {a b : List Int} (hl : a.length = b.length) (h : ∀ i, i < a.length → a.getD i 0 = b.getD i 0) : a = b := by
  apply List.ext_getElem hl
  intro i h1 h2
  have := h i h1
  simpa [List.getD_eq_getElem?_getD, h1, h2] using this
theorem gl_zero (L : List Int) (T : Nat) (n : Int) : gl L T n 0 = L := by
  apply list_ext (gl_length ..)
  intro i hi
  rw [gl_length] at hi
  rw [gl_getD _ _ _ _ _ hi]
  simp
theorem kOf_at (m T i : Nat) (hm : 0 < m) (hi : i < m) : kOf m T ((T % m + i) % m) = i := by
  unfold kOf
  have h := Nat.mod_lt T hm
  generalize T % m = s at *
  by_cases h2 : s + i < m
  · rw [Nat.mod_eq_of_lt h2, show s + i + m - s = i + m by omega, Nat.add_mod_right, Nat.mod_eq_of_lt hi]
  · rw [show s + i = (s + i - m) + m by omega, Nat.add_mod_right, Nat.mod_eq_of_lt (by omega : s + i - m < m), show s + i - m + m - s = i by omega, Nat.mod_eq_of_lt hi]
theorem kOf_inj (m T i j : Nat) (hm : 0 < m) (hj : j < m) (h : kOf m T j = i) : j = (T % m + i) % m := by
  unfold kOf at h
  have h1 := Nat.mod_lt T hm
  generalize T % m = s at *
  subst h
  by_cases h2 : j + m - s < m
  · rw [Nat.mod_eq_of_lt h2, show s + (j + m - s) = j + m by omega, Nat.add_mod_right, Nat.mod_eq_of_lt hj]
  · rw [show j + m - s = (j - s) + m by omega, Nat.add_mod_right, Nat.mod_eq_of_lt (by omega : j - s < m), show s + (j - s) = j by omega, Nat.mod_eq_of_lt hj]
theorem gl_succ (L : List Int) (T : Nat) (n : Int) (i : Nat) (hi : i < L.length) : gl L T n (i + 1) = (gl L T n i).set ((T % L.length + i) % L.length) (L.getD ((T % L.length + i) % L.length) 0 + part n L.length i) := by
  have hm : 0 < L.length := by omega
  apply list_ext
  · rw [List.length_set, gl_length, gl_length]
  intro j hj
  rw [gl_length] at hj
  rw [gl_getD _ _ _ _ _ hj]
  by_cases e : (T % L.length + i) % L.length = j
  · subst e
    rw [kOf_at _ _ _ hm hi, if_pos (by omega)]
    rw [List.getD_eq_getElem?_getD (l := List.set _ _ _), List.getElem?_set_self (by rw [gl_length]; exact hj)]
    rfl
  · have hk : kOf L.length T j ≠ i := fun h => e (kOf_inj _ _ _ _ hm hj h).symm
    rw [List.getD_eq_getElem?_getD (l := List.set _ _ _), List.getElem?_set_ne e, ← List.getD_eq_getElem?_getD, gl_getD _ _ _ _ _ hj]
    by_cases h2 : kOf L.length T j < i
    · rw [if_pos h2, if_pos (by omega)]
    · rw [if_neg h2, if_neg (by omega)]
theorem gl_here (L : List Int) (T : Nat) (n : Int) (i : Nat) (hi : i < L.length) : (gl L T n i).getD ((T % L.length + i) % L.length) 0 = L.getD ((T % L.length + i) % L.length) 0 := by
  rw [gl_getD _ _ _ _ _ (Nat.mod_lt _ (by omega)), kOf_at _ _ _ (by omega) hi, if_neg (by omega)]; omega
theorem gl_sum (L : List Int) (T : Nat) (n : Int) (i : Nat) (hi : i ≤ L.length) : isum (gl L T n i) = isum L + psum n L.length i := by
  induction i with
  | zero => rw [gl_zero]; simp [psum]
  | succ i ih =>
    rw [gl_succ _ _ _ _ (by omega), isum_set _ _ _ (by rw [gl_length]; exact Nat.mod_lt _ (by omega)), ih (by omega), gl_here _ _ _ _ (by omega)]
    simp [psum]; omega
theorem gl_good {L : List Int} (gd : Good L) (T : Nat) {n : Int} (h0 : 1 ≤ n) (h1 : isum L + n ≤ 2147483647) (i : Nat) (hi : i ≤ L.length) : Good (gl L T n i) := by
  have hp := gd.pos
  refine ⟨by rw [gl_length]; exact gd.pos, by rw [gl_length]; exact gd.len, fun x hx => ?_, ?_⟩
  · obtain ⟨j, hj, rfl⟩ := List.mem_iff_getElem.1 hx
    rw [gl_length] at hj
    have e := gl_getD L T n i j hj
    rw [List.getD_eq_getElem?_getD, List.getElem?_eq_getElem (by rw [gl_length]; exact hj)] at e
    simp only [Option.getD_some] at e
    rw [e]
    have := (gd.at_ hj).1
    have := part_nonneg n L.length (kOf L.length T j) (by omega)
    split <;> omega
  · rw [gl_sum _ _ _ _ hi]
    have := (psum_range n L.length i (by omega) (by omega) hi).2
    omega
theorem grant_good {L : List Int} (gd : Good L) (T : Nat) (n : Int) : Good (crGrant L T n).1 := by
  unfold crGrant
  split
  · exact gd
  · split
    · exact gd
    · exact gl_good gd T (by omega) (by omega) _ (Nat.le_refl _)
theorem spend_good {L : List Int} (gd : Good L) (k n : Int) : Good (crSpend L k n).1 := by
  unfold crSpend
  split
  · rename_i h
    obtain ⟨k0, k1⟩ := of_decide_eq_true h
    have hk : k.toNat < L.length := by omega
    split
    · rename_i hn
      split
      · rename_i hle
        refine ⟨by rw [List.length_set]; exact gd.pos, by rw [List.length_set]; exact gd.len, fun x hx => ?_, ?_⟩
        · rcases List.mem_or_eq_of_mem_set hx with h | h
          · exact gd.nonneg _ h
          · omega
        · rw [isum_set _ _ _ hk]
          have := gd.sum
          show isum L - _ + (_ - n) ≤ _
          omega
      · exact gd
    · exact gd
  · exact gd
theorem gl_skip (L : List Int) (T : Nat) (n : Int) (i : Nat) (h0 : part n L.length i = 0) : gl L T n (i + 1) = gl L T n i := by
  apply list_ext (by rw [gl_length, gl_length])
  intro j hj
  rw [gl_length] at hj
  rw [gl_getD _ _ _ _ _ hj, gl_getD _ _ _ _ _ hj]
  by_cases h1 : kOf L.length T j < i
  · rw [if_pos h1, if_pos (by omega)]
  · rw [if_neg h1]
    by_cases h2 : kOf L.length T j = i
    · rw [h2, if_pos (by omega), h0]
    · rw [if_neg (by omega)]
end
end Go.Proofs.YtcecfhfbcdbofaaGreatDoor
set_option linter.unusedSimpArgs false
set_option linter.unusedVariables false
namespace Go.Proofs.YtcecfhfbcdbofaaGreatDoor
open Go.RowKit

section
variable {G : Gnd} {w w' : World} {l : List Asrt} {L : List Int} {v : Value}
theorem parts_take (t : Int) (m k : Nat) : ints ((List.range (k + 1)).map (part t m)) = ints ((List.range k).map (part t m)) ++ [.int .i64 (part t m k)] := by
  simp [ints, List.range_succ]
end
end Go.Proofs.YtcecfhfbcdbofaaGreatDoor
set_option linter.unusedSimpArgs false
set_option linter.unusedVariables false
namespace Go.Proofs.YtcecfhfbcdbofaaGreatDoor
open Go.RowKit

theorem info_wn : (Tryz.prog.info? 106).map (fun i => (i.zero, i.size, i.bytes)) = some (some (.agg #[.int .i64 0]), 1, 8) := by kernel_rfl
theorem isum_parts (t : Int) (m k : Nat) : isum ((List.range k).map (part t m)) = psum t m k := by
  induction k with
  | zero => rfl
  | succ k ih => rw [List.range_succ, List.map_append, isum_append, ih]; simp [isum, psum]
theorem parts_good (m : Nat) (h1 : 1 ≤ m) (h2 : m ≤ 64) : Good (parts 65535 m) ∧ isum (parts 65535 m) = 65535 := by
  have hs : isum (parts 65535 m) = 65535 := by unfold parts; rw [isum_parts, psum_all _ _ (by omega) (by omega)]
  refine ⟨⟨by simp [parts]; omega, by simp [parts]; omega, fun x hx => ?_, by omega⟩, hs⟩
  unfold parts at hx
  obtain ⟨i, -, rfl⟩ := List.mem_map.1 hx
  exact part_nonneg _ _ _ (by omega)
section
variable {G : Gnd} {w w' : World} {l : List Asrt} {p : Nat} {L : List Int} {T : Nat}
end
end Go.Proofs.YtcecfhfbcdbofaaGreatDoor
set_option linter.unusedSimpArgs false
set_option linter.unusedVariables false
namespace Go.Proofs.YtcecfhfbcdbofaaGreatDoor
open Go.RowKit

theorem isl_is_nil (A : Option Addr) (n c : Nat) (w : World) : (binOp .eql 43 (.slice A n c) (.slice none 0 0)).run Tryz.prog w = .ok (.bool A.isNone) w := by
  simp [binOp, run_equal_slice_nil w 43 3 A n c Tryz.underlying43]
section
variable {G : Gnd} {w w' : World} {l : List Asrt} {p : Nat} {L : List Int} {T : Nat}
theorem cr_new_not (n : Int) (w : World) (h : n < 1 ∨ 64 < n) : Calls Tryz.prog 27 #[.int .i64 n] w fun e w' => e = .returned (.tuple #[.pointer none, .int .i64 11]) ∧ w = w' := by
  refine calls_any fun K hK => ?_
  have hp := win_parts_none 65535 n w (by omega)
  have hnil := isl_is_nil none 0 0 w
  clear h
  go_enter Tryz.func27, Tryz.ntmps27
  go_wp2_with fail
  (with_reducible refine hp.mono ?_)
  rintro e w1 ⟨rfl, rfl⟩
  go_wp2_with fail
  exact hK.out _ _ ⟨rfl, rfl⟩
def HN (f : Nat → Bool) : Prop := (f 7 = true → f 6 = true) ∧ (f 7 = true → f 4 = true) ∧ (f 10 = true → f 7 = true)
theorem no_of {f : Nat → Bool} {i j : Nat} (h : f i = true → f j = true) (hj : f j = false) : f i = false := by
  cases hx : f i with
  | false => rfl
  | true => rw [h hx] at hj; cases hj
set_option maxHeartbeats 4000000 in
set_option maxRecDepth 100000 in
theorem cr_new (H : Sat G w l) (m : Nat) (hm0 : 1 ≤ m) (hm1 : m ≤ 64) : Calls Tryz.prog 27 #[.int .i64 m] w fun e w' => ∃ p, e = .returned (.tuple #[.pointer (some ⟨p, 0, none⟩), .int .i64 0]) ∧ Sat G w' (crA p (parts 65535 m) 0 :: l) := by
  refine calls_any fun K hK => ?_
  have hpn := part_nonneg 65535 m
  have hpl := part_lt 65535 m
  have hw0 : ∀ W, _ := fun W => win_new 65535 W
  rw [show winNew 65535 = (65535, 0) by decide] at hw0
  go_enter Tryz.func27, Tryz.ntmps27
  go_wp2_with fail
  (with_reducible refine (win_parts 65535 m w (by omega) (by omega) hm0 hm1).mono ?_)
  rintro e w2 ⟨rfl, hb2, hrow⟩
  have S2 : Sat G w2 (blk w.heap.size ((parts 65535 m).map (Value.int .i64)).toArray 3 :: l) := H.claim hb2 (Nat.le_refl _) hrow
  clear hb2 hrow H
  generalize w.heap.size = r at *
  obtain ⟨row, hrow⟩ : ∃ row, row = ((parts 65535 m).map (Value.int .i64)).toArray := ⟨_, rfl⟩
  rw [← hrow] at S2
  have hro : ∀ k, k < m → row[k]? = some (.int .i64 (part 65535 m k)) := fun k hk => by subst hrow; simp [parts, hk]
  have HRO := Lib.hid hro
  clear hrow hro
  have S3 := S2.newBlk #[.int .i64 0, .slice none 0 0, .int .i64 0] 118
  clear S2
  have HP := hpn
  clear hpn
  have hnil := isl_is_nil (some ⟨r, 0, none⟩) m m w2
  go_wp2_with fail
  clear hnil
  (with_reducible refine (hw0 _).mono ?_)
  rintro e w3 ⟨rfl, hb3⟩
  have S4 := S3.below hb3
  clear S3 hb3
  generalize w2.heap.size = p at *
  have f0 := S4.frozen 0
  have hc0 := S4.cell 0
  have S5 := S4.setCell 0 (.int .i64 65535)
  have hS5 : Sat G _ (blk p #[.int .i64 65535, .slice none 0 0, .int .i64 0] 118 :: blk r row 3 :: l) := S5
  have S6 := (hS5.ownNil 106 1).swap
  clear S4 S5 hS5
  go_wp2_with fail
  go_loopw [25] (fun i wr => ∃ (k : Nat) (v : Value), k ≤ m ∧ i = .int .i64 k ∧ Sat G wr (blk p #[.int .i64 65535, v, .int .i64 0] 118 :: ownS 106 1 v k (ints ((List.range k).map (part 65535 m))) :: blk r row 3 :: l)) (fun i _ => m - (intOf i).toNat)
  case atStart => exact ⟨0, _, Nat.zero_le _, rfl, S6⟩
  case round =>
    obtain ⟨k, v, hk, rfl, S⟩ := hrel
    clear S6 hc0 f0
    by_cases hlt : k < m
    · have hcell : wr.cell? ⟨r, k, none⟩ = some (.int .i64 (part 65535 m k)) := (S.pull2.cell k).trans (HRO.out k hlt)
      have HT := Lib.hid (parts_take 65535 m k)
      have p0 := HP k (by omega)
      have p1 := hpl k (by omega) (by omega) hm0 hlt
      have hn := fun W => win_new (part 65535 m k) W
      generalize part 65535 m k = x at *
      rw [show winNew x = (x, 0) by unfold winNew winRight; rw [if_pos (by simp; omega)]] at hn
      go_wp2_with fail
      (with_reducible refine (hn _).mono ?_)
      rintro e w4 ⟨rfl, hb4⟩
      have S4 := (S.below hb4).newBlk #[.int .i64 x] 106
      clear S hb4 hn hcell
      go_upto_region 10 with fail
      generalize w4.heap.size = z at *
      refine wp_world S4 fun w5 S5 => ?_
      have hxl := S5.pull2.ownSlice
      have HV1 : Hid (∃ A c, v = .slice A k c) := Lib.hid (by obtain ⟨A, c, h, -⟩ := hxl; exact ⟨A, c, h⟩)
      clear hxl
      obtain ⟨xs, hxs⟩ : ∃ xs, xs = ints ((List.range k).map (part 65535 m)) := ⟨_, rfl⟩
      rw [← hxs] at S5 HT
      clear hxs
      have hbk : k + 1 ≤ 64 := by omega
      refine wp_act fun a0 ha0 => ?_
      have HSZ : a0.tmps.size = 46 := by rw [ha0]; rfl
      have E5 : a0.eval (.tmp 5) = .pointer (some ⟨p, 0, none⟩) := by rw [ha0]; rfl
      have E8 : a0.eval (.tmp 8) = .pointer (some ⟨z, 0, none⟩) := by rw [ha0]; rfl
      refine wp_region_J (by kernel_rfl) 11 (by kernel_rfl) [[], [], [1], [2], [3], [], [5], [4, 6], [0, 0, 1, 2, 3, 4, 5, 6, 7], [8, 0, 1, 2, 3, 4, 5, 6, 7], [9, 7, 7, 0, 1, 2, 3, 4, 5, 6, 7]] (by kernel_rfl) (by kernel_rfl) (fun f a' W => ∃ q v', HN f ∧ a' = acts [(0, 34, .pointer (some ⟨p, 0, none⟩)), (1, 35, .pointer (some ⟨p, 0, none⟩)), (2, 36, .pointer (some ⟨p, 0, none⟩)), (3, 37, .pointer (some ⟨p, 1, none⟩)), (4, 38, v), (5, 39, .agg #[.int .i64 x]), (6, 40, .slice (some ⟨q, 0, none⟩) 1 1), (7, 41, v'), (8, 42, .pointer (some ⟨p, 0, none⟩)), (9, 43, .pointer (some ⟨p, 1, none⟩))] f a0 ∧ Sat G W (opt (f 6) (blk q #[.int .i64 x] 106) :: blk z #[.int .i64 x] 106 :: blk p #[.int .i64 65535, cond (f 10) v' v, .int .i64 0] 118 :: ownS 106 1 (cond (f 7) v' v) (cond (f 7) (k + 1) k) (cond (f 7) (xs ++ [.int .i64 x]) xs) :: blk r row 3 :: l)) ?_ ?_ ?_
      · exact ⟨0, undef, (by unfold HN; decide), rfl, S5.drew.opt0⟩
      · refine ⟨?_, ?_, ?_, ?_, ?_, ?_, ?_, ?_, ?_, ?_, ?_, trivial⟩
        · rintro f a' W h0 hd ⟨q, v', hh, rfl, S⟩
          refine wpOp_run (v := .pointer (some ⟨p, 0, none⟩)) rfl rfl (fun ρ hρ => ?_) ⟨q, v', hh, (acts_some 0 rfl (by kernel_rfl) (by kernel_rfl)).symm, S⟩
          have e0 : ρ (.tmp 5) = .pointer (some ⟨p, 0, none⟩) := by rw [hρ]; exact (acts_eval_tmp 5 (by kernel_rfl)).trans E5
          clear hρ
          go_simp
        · rintro f a' W h1 hd ⟨q, v', hh, rfl, S⟩
          refine wpOp_run (v := .pointer (some ⟨p, 0, none⟩)) rfl rfl (fun ρ hρ => ?_) ⟨q, v', hh, (acts_some 1 rfl (by kernel_rfl) (by kernel_rfl)).symm, S⟩
          have e0 : ρ (.tmp 5) = .pointer (some ⟨p, 0, none⟩) := by rw [hρ]; exact (acts_eval_tmp 5 (by kernel_rfl)).trans E5
          clear hρ
          go_simp
        · rintro f a' W h2 hd ⟨q, v', hh, rfl, S⟩
          refine wpOp_run (v := .pointer (some ⟨p, 0, none⟩)) rfl rfl (fun ρ hρ => ?_) ⟨q, v', hh, (acts_some 2 rfl (by kernel_rfl) (by kernel_rfl)).symm, S⟩
          have e0 : ρ (.tmp 35) = .pointer (some ⟨p, 0, none⟩) := by rw [hρ]; exact acts_eval_hit 1 rfl hd.1 (by rw [HSZ]; rfl) (by kernel_rfl)
          clear hρ
          go_simp
        · rintro f a' W h3 hd ⟨q, v', hh, rfl, S⟩
          refine wpOp_run (v := .pointer (some ⟨p, 1, none⟩)) rfl rfl (fun ρ hρ => ?_) ⟨q, v', hh, (acts_some 3 rfl (by kernel_rfl) (by kernel_rfl)).symm, S⟩
          have e0 : ρ (.tmp 36) = .pointer (some ⟨p, 0, none⟩) := by rw [hρ]; exact acts_eval_hit 2 rfl hd.1 (by rw [HSZ]; rfl) (by kernel_rfl)
          clear hρ
          go_simp
        · rintro f a' W h4 hd ⟨q, v', hh, rfl, S⟩
          (have z7 := no_of hh.2.1 h4; have z10 := no_of hh.2.2 z7)
          refine wpOp_run (v := v) rfl rfl (fun ρ hρ => ?_) ⟨q, v', ⟨hh.1, fun _ => rfl, hh.2.2⟩, (acts_some 4 rfl (by kernel_rfl) (by kernel_rfl)).symm, S⟩
          have e0 : ρ (.tmp 37) = .pointer (some ⟨p, 1, none⟩) := by rw [hρ]; exact acts_eval_hit 3 rfl hd.1 (by rw [HSZ]; rfl) (by kernel_rfl)
          clear hρ
          (have hcl : W.cell? ⟨p, 1, none⟩ = some v := (by have := S.pull2.cell 1; rw [z10] at this; exact this))
          go_simp
        · rintro f a' W h5 hd ⟨q, v', hh, rfl, S⟩
          refine wpOp_list rfl ?_
          refine st_load rfl _ _ rfl _ ((acts_eval_tmp 8 (by kernel_rfl)).trans E8) _ _ (S.swap) _ rfl rfl rfl ?_
          exact ⟨q, v', hh, (acts_some 5 rfl (by kernel_rfl) (by kernel_rfl)).symm, S⟩
        · rintro f a' W h6 hd ⟨q, v', hh, rfl, S⟩
          (have z7 := no_of hh.1 h6)
          refine wpOp_mem (v := .slice (some ⟨W.heap.size, 0, none⟩) 1 1) (w' := W.alloc (.cells #[.int .i64 x] 106)) rfl rfl (fun ρ hρ => ?_) (⟨W.heap.size, v', ⟨fun _ => rfl, hh.2⟩, acts_swap (by simp only [acts, h6, Bool.false_eq_true, if_false]) (k := 6) rfl (by kernel_rfl) (by kernel_rfl), Sat.optI rfl (S.newBlk _ _).drop2⟩)
          have e0 : ρ (.tmp 39) = .agg #[.int .i64 x] := by rw [hρ]; exact acts_eval_hit 5 rfl hd.1 (by rw [HSZ]; rfl) (by kernel_rfl)
          clear hρ
          go_simp
        · rintro f a' W h7 hd ⟨q, v', hh, rfl, S⟩
          have q38 : (acts [(0, 34, .pointer (some ⟨p, 0, none⟩)), (1, 35, .pointer (some ⟨p, 0, none⟩)), (2, 36, .pointer (some ⟨p, 0, none⟩)), (3, 37, .pointer (some ⟨p, 1, none⟩)), (4, 38, v), (5, 39, .agg #[.int .i64 x]), (6, 40, .slice (some ⟨q, 0, none⟩) 1 1), (7, 41, v'), (8, 42, .pointer (some ⟨p, 0, none⟩)), (9, 43, .pointer (some ⟨p, 1, none⟩))] f a0).eval (.tmp 38) = v := acts_eval_hit 4 rfl hd.1 (by rw [HSZ]; rfl) (by kernel_rfl)
          have q40 : (acts [(0, 34, .pointer (some ⟨p, 0, none⟩)), (1, 35, .pointer (some ⟨p, 0, none⟩)), (2, 36, .pointer (some ⟨p, 0, none⟩)), (3, 37, .pointer (some ⟨p, 1, none⟩)), (4, 38, v), (5, 39, .agg #[.int .i64 x]), (6, 40, .slice (some ⟨q, 0, none⟩) 1 1), (7, 41, v'), (8, 42, .pointer (some ⟨p, 0, none⟩)), (9, 43, .pointer (some ⟨p, 1, none⟩))] f a0).eval (.tmp 40) = .slice (some ⟨q, 0, none⟩) 1 1 := acts_eval_hit 6 rfl hd.2.1 (by rw [HSZ]; rfl) (by kernel_rfl)
          (have z10 := no_of hh.2.2 h7; simp only [hd.2.1, h7, z10, cond_false] at S; have S2 := (opt_iff.1 S).pull3; refine wpOp_list rfl ?_; refine st_append rfl _ _ 116 rfl 106 (.agg #[.int .i64 0]) 1 8 Tryz.underlying116 info_wn rfl (by omega) v k xs q38 S2 ⟨q, 0, none⟩ 1 1 [.int .i64 x] q40 rfl (fun j u hj => blk_cells (opt_iff.1 S) j u hj) rfl (Nat.le_trans hbk (by decide)) (by omega) ?_; intro v2 w2 S3; refine ⟨q, v2, ⟨fun _ => hd.2.1, fun _ => hd.1, fun _ => rfl⟩, acts_swap (by simp only [acts, h7, Bool.false_eq_true, if_false]) (k := 7) rfl (by kernel_rfl) (by kernel_rfl), ?_⟩; show Sat G w2 (opt (f 6) _ :: _ :: blk p #[_, cond (f 10) v2 v, _] _ :: _); rw [hd.2.1, z10]; exact opt_iff.2 S3.push3)
        · rintro f a' W h8 hd ⟨q, v', hh, rfl, S⟩
          refine wpOp_run (v := .pointer (some ⟨p, 0, none⟩)) rfl rfl (fun ρ hρ => ?_) ⟨q, v', hh, (acts_some 8 rfl (by kernel_rfl) (by kernel_rfl)).symm, S⟩
          have e0 : ρ (.tmp 34) = .pointer (some ⟨p, 0, none⟩) := by rw [hρ]; exact acts_eval_hit 0 rfl hd.1 (by rw [HSZ]; rfl) (by kernel_rfl)
          clear hρ
          go_simp
        · rintro f a' W h9 hd ⟨q, v', hh, rfl, S⟩
          refine wpOp_run (v := .pointer (some ⟨p, 1, none⟩)) rfl rfl (fun ρ hρ => ?_) ⟨q, v', hh, (acts_some 9 rfl (by kernel_rfl) (by kernel_rfl)).symm, S⟩
          have e0 : ρ (.tmp 42) = .pointer (some ⟨p, 0, none⟩) := by rw [hρ]; exact acts_eval_hit 8 rfl hd.1 (by rw [HSZ]; rfl) (by kernel_rfl)
          clear hρ
          go_simp
        · rintro f a' W h10 hd ⟨q, v', hh, rfl, S⟩
          have q43 : (acts [(0, 34, .pointer (some ⟨p, 0, none⟩)), (1, 35, .pointer (some ⟨p, 0, none⟩)), (2, 36, .pointer (some ⟨p, 0, none⟩)), (3, 37, .pointer (some ⟨p, 1, none⟩)), (4, 38, v), (5, 39, .agg #[.int .i64 x]), (6, 40, .slice (some ⟨q, 0, none⟩) 1 1), (7, 41, v'), (8, 42, .pointer (some ⟨p, 0, none⟩)), (9, 43, .pointer (some ⟨p, 1, none⟩))] f a0).eval (.tmp 43) = .pointer (some ⟨p, 1, none⟩) := acts_eval_hit 9 rfl hd.1 (by rw [HSZ]; rfl) (by kernel_rfl)
          have q41 : (acts [(0, 34, .pointer (some ⟨p, 0, none⟩)), (1, 35, .pointer (some ⟨p, 0, none⟩)), (2, 36, .pointer (some ⟨p, 0, none⟩)), (3, 37, .pointer (some ⟨p, 1, none⟩)), (4, 38, v), (5, 39, .agg #[.int .i64 x]), (6, 40, .slice (some ⟨q, 0, none⟩) 1 1), (7, 41, v'), (8, 42, .pointer (some ⟨p, 0, none⟩)), (9, 43, .pointer (some ⟨p, 1, none⟩))] f a0).eval (.tmp 41) = v' := acts_eval_hit 7 rfl hd.2.1 (by rw [HSZ]; rfl) (by kernel_rfl)
          (simp only [hd.2.1, h10, cond_true, cond_false] at S; obtain ⟨A', c', rfl, -⟩ := (S.pull3).ownSlice; refine wpOp_list rfl ?_; refine st_set rfl _ _ _ rfl _ _ _ q43 q41 rfl _ _ S.pull2 (by kernel_rfl) (by simp) fun W' S' => ?_; refine ⟨q, _, ⟨hh.1, hh.2.1, fun _ => hd.2.1⟩, (acts_none 10 (by kernel_rfl)).symm, ?_⟩; show Sat G W' (_ :: _ :: _ :: ownS _ _ (cond (f 7) _ _) (cond (f 7) _ _) (cond (f 7) _ _) :: _); rw [hd.2.1]; exact S'.push2)
      · rintro a' W ⟨q, v', -, rfl, S6⟩
        subst ha0
        simp only [acts, if_true, Act.put, List.setIfInBounds_toArray, List.set_cons_succ, List.set_cons_zero]
        have S7 := S6.drop.drop
        clear S6 S5 S4 HSZ E5 E8
        go_wp2_with fail
        go_roundw
        case rel => exact ⟨k + 1, v', by omega, by go_num, by rw [HT.out]; exact S7⟩
        case measure => simp [intOf]; omega
    · obtain rfl : k = m := by omega
      have HS := Lib.hid S
      clear S
      go_wp2_with fail
      have S2 := HS.out
      have hl : (parts 65535 k).length = k := by simp [parts]
      obtain ⟨gd, hs⟩ := parts_good k hm0 hm1
      refine hK.out _ _ ⟨p, rfl, cr_iff.2 ⟨v, ?_⟩⟩
      have S3 := (S2.pull2).drop
      rw [hs, hl, Nat.zero_mod]
      exact S3
end
end Go.Proofs.YtcecfhfbcdbofaaGreatDoor
