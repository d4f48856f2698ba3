/- The walk over frame.Frame.Bytes. -/
import Derived.Test.YthenpoammpkjeaaFrm
set_option linter.unusedSimpArgs false
set_option linter.unusedVariables false
namespace Go.Proofs.Ythenpoammpkjeaa
open Go.RowKit

section
variable {G : Gnd} {w : World} {l : List Asrt} {A X0 X1 X2 X3 X4 : Asrt}
theorem Sat.rep1 (H : Sat G w (A :: X0 :: X1 :: l)) : Sat G w (X0 :: A :: l) := H.pull2.drop.swap
theorem Sat.rep2 (H : Sat G w (A :: X0 :: X1 :: X2 :: l)) : Sat G w (X0 :: X1 :: A :: l) := H.pull3.drop.push2
theorem Sat.rep3 (H : Sat G w (A :: X0 :: X1 :: X2 :: X3 :: l)) : Sat G w (X0 :: X1 :: X2 :: A :: l) := (Sat.mid [_, _, _, _] H).drop.push3
theorem Sat.rep4 (H : Sat G w (A :: X0 :: X1 :: X2 :: X3 :: X4 :: l)) : Sat G w (X0 :: X1 :: X2 :: X3 :: A :: l) := Sat.dim [_, _, _, _] (Sat.mid [_, _, _, _, _] H).drop
end
/-- The bytes of a frame. -/
def frBytes (t f s : Nat) (bs : List UInt8) : List UInt8 := bigOf bs.length 3 ++ ([UInt8.ofNat t, UInt8.ofNat f] ++ (bigOf s 4 ++ bs))
theorem frBytes_length (t f s : Nat) (bs : List UInt8) : (frBytes t f s bs).length = 9 + bs.length := by simp [frBytes, bigOf_length]; omega
theorem frame_bytes_not {G : Gnd} {w : World} {l : List Asrt} (H : Sat G w l) (t f s : Int) (A : Option Addr) (n c : Nat) (hr : frRight t f s n = false) :
    Calls Try.prog 26 #[.agg #[.int .i64 t, .int .i64 f, .int .i64 s, .slice A n c]] w fun e w' => e = .returned (.tuple #[.slice none 0 0, .int .i64 10]) ∧ Sat G w' l := by
  refine calls_any fun K hK => ?_
  have S := H.newBlk #[.int .i64 t, .int .i64 f, .int .i64 s, .slice A n c] 40
  have hrt := frame_right S t f s A n c
  rw [hr] at hrt
  clear H
  go_enter Try.func26, Try.ntmps26
  go_wp2_with fail
  (with_reducible refine hrt.mono ?_)
  rintro e w1 ⟨rfl, S1⟩
  go_wp2_with fail
  exact hK.out _ _ ⟨rfl, S1.drop⟩
theorem parts_of {G : Gnd} {w : World} {l : List Asrt} {b1 b2 b3 b4 : Bool} {u11 u18 u22 v : Value} {X4 X5 : Asrt} {g n s t fl : Nat} {bs : List UInt8}
    (S : Sat G w (opt b1 (ownS 5 1 u11 3 ((bigOf n 3).map byteV)) :: opt b2 (ownS 5 1 u18 2 ([UInt8.ofNat t, UInt8.ofNat fl].map byteV)) :: opt b3 (ownS 5 1 u22 4 ((bigOf s 4).map byteV)) :: opt b4 (blk g #[u11, u18, u22, v] 22) :: X4 :: X5 :: l))
    (h1 : b1 = true) (h2 : b2 = true) (h3 : b3 = true) (h4 : b4 = true) (hv : ∀ W, Sat G W l → SlB W.cell? v bs) :
    ∀ i bs', [bigOf n 3, [UInt8.ofNat t, UInt8.ofNat fl], bigOf s 4, bs][i]? = some bs' → ∃ v, w.cell? ((⟨g, 0, none⟩ : Addr).add i) = some v ∧ SlB w.cell? v bs' := by
  subst h1; subst h2; subst h3; subst h4
  have hc : ∀ i, w.cell? ((⟨g, 0, none⟩ : Addr).add i) = #[u11, u18, u22, v][i]? := fun i => by
    have e : (⟨g, 0, none⟩ : Addr).add i = ⟨g, i, none⟩ := by unfold Addr.add; split <;> simp_all
    rw [e]; exact (opt_iff.1 (Sat.mid [_, _, _] S)).cell i
  have s1 : SlB w.cell? u11 (bigOf n 3) := own_slb (t := 5) (by rw [bigOf_length]; exact opt_iff.1 S)
  have s2 : SlB w.cell? u18 [UInt8.ofNat t, UInt8.ofNat fl] := own_slb (t := 5) (opt_iff.1 (Sat.mid [_] S))
  have s3 : SlB w.cell? u22 (bigOf s 4) := own_slb (t := 5) (by rw [bigOf_length]; exact opt_iff.1 (Sat.mid [_, _] S))
  have s4 : SlB w.cell? v bs := hv w S.drop.drop.drop.drop.drop.drop
  intro i bs' hi
  rcases i with _ | _ | _ | _ | i
  · cases hi; exact ⟨_, by rw [hc]; rfl, s1⟩
  · cases hi; exact ⟨_, by rw [hc]; rfl, s2⟩
  · cases hi; exact ⟨_, by rw [hc]; rfl, s3⟩
  · cases hi; exact ⟨_, by rw [hc]; rfl, s4⟩
  · simp at hi
set_option maxHeartbeats 4000000 in
set_option maxRecDepth 100000 in
theorem frame_bytes {G : Gnd} {w : World} {l : List Asrt} (H : Sat G w l) (t fl s : Nat) (v : Value) (bs : List UInt8) (hv : ∀ W, Sat G W l → SlB W.cell? v bs) (ht : t ≤ 255) (hf : fl ≤ 255) (hs : s ≤ 2147483647) (hn : bs.length ≤ 16777215) :
    Calls Try.prog 26 #[.agg #[.int .i64 t, .int .i64 fl, .int .i64 s, v]] w fun e w' => ∃ u, e = .returned (.tuple #[u, .int .i64 0]) ∧ Sat G w' (ownS 5 1 u (frBytes t fl s bs).length ((frBytes t fl s bs).map byteV) :: l) := by
  refine calls_any fun K hK => ?_
  obtain ⟨A, c, rfl, hc1, hc2, hA⟩ := (hv w H).form
  have S := H.newBlk #[.int .i64 t, .int .i64 fl, .int .i64 s, .slice A bs.length c] 40
  have hrt := frame_right S t fl s A bs.length c
  rw [show frRight t fl s bs.length = true from decide_eq_true (by omega)] at hrt
  have hc3 : c ≤ 9223372036854775807 := hc2
  have HV := Lib.hid hv
  clear H hv
  go_enter Try.func26, Try.ntmps26
  go_wp2_with fail
  (with_reducible refine hrt.mono ?_)
  clear hrt
  rintro e w1 ⟨rfl, S1⟩
  clear S
  go_upto_region 3 with fail
  generalize w.heap.size = p at *
  have m1 : IntKind.u8.wrap (t : Int) = t := IntWalk.u8_in _ ⟨by omega, by omega⟩
  have m2 : IntKind.u8.wrap (fl : Int) = fl := IntWalk.u8_in _ ⟨by omega, by omega⟩
  have m3 : IntKind.u64.wrap (s : Int) = s := IntWalk.u64_in _ ⟨by omega, by omega⟩
  have m4 : IntKind.u64.wrap (bs.length : Int) = bs.length := IntWalk.u64_in _ ⟨by omega, by omega⟩
  have hby : (#[Value.int .u8 (t : Int), .int .u8 (fl : Int)] : Array Value).toList = [UInt8.ofNat t, UInt8.ofNat fl].map byteV := by
    simp [byteV]; omega
  have hfl : [bigOf bs.length 3, [UInt8.ofNat t, UInt8.ofNat fl], bigOf s 4, bs].flatten = frBytes t fl s bs := by simp [frBytes]
  refine wp_act fun a0 ha0 => ?_
  have HSZ : a0.tmps.size = 27 := by rw [ha0]; rfl
  have E1 : a0.eval (.tmp 1) = .pointer (some ⟨p, 0, none⟩) := by rw [ha0]; rfl
  refine wp_region_J (by kernel_rfl) 22 (by kernel_rfl) [[], [0], [1], [2], [3], [], [5], [6], [], [8], [9], [7, 10], [], [12], [13], [14, 4], [], [16], [4, 11, 15, 17], [18, 15], [19, 19, 0, 1, 2, 3, 4, 5, 6, 7, 8, 9, 10, 11, 12, 13, 14, 15, 16, 17, 18, 19], [20, 0, 1, 2, 3, 4, 5, 6, 7, 8, 9, 10, 11, 12, 13, 14, 15, 16, 17, 18, 19, 20]] (by kernel_rfl) (by kernel_rfl) (fun f a' W => ∃ u11 u18 u22 g u26, (f 18 = true → f 4 = true ∧ f 11 = true ∧ f 15 = true) ∧ (f 20 = true → f 19 = true) ∧ a' = acts [(0, 7, .pointer (some ⟨p, 3, none⟩)), (1, 8, .slice A bs.length c), (2, 9, .int .i64 bs.length), (3, 10, .int .u64 bs.length), (4, 11, u11), (5, 12, .pointer (some ⟨p, 0, none⟩)), (6, 13, .int .i64 t), (7, 14, .int .u8 t), (8, 15, .pointer (some ⟨p, 1, none⟩)), (9, 16, .int .i64 fl), (10, 17, .int .u8 fl), (11, 18, u18), (12, 19, .pointer (some ⟨p, 2, none⟩)), (13, 20, .int .i64 s), (14, 21, .int .u64 s), (15, 22, u22), (16, 23, .pointer (some ⟨p, 3, none⟩)), (17, 24, .slice A bs.length c), (18, 25, .slice (some ⟨g, 0, none⟩) 4 4), (19, 26, u26), (20, 2, u26), (21, 3, .int .i64 0)] f a0 ∧ Sat G W (opt (f 4) (ownS 5 1 u11 3 ((bigOf bs.length 3).map byteV)) :: opt (f 11) (ownS 5 1 u18 2 ([UInt8.ofNat t, UInt8.ofNat fl].map byteV)) :: opt (f 15) (ownS 5 1 u22 4 ((bigOf s 4).map byteV)) :: opt (f 18) (blk g #[u11, u18, u22, .slice A bs.length c] 22) :: opt (f 19) (ownS 5 1 u26 (frBytes t fl s bs).length ((frBytes t fl s bs).map byteV)) :: blk p #[.int .i64 t, .int .i64 fl, .int .i64 s, .slice A bs.length c] 40 :: l)) ?_ ?_ ?_
  · exact ⟨undef, undef, undef, 0, undef, fun h => absurd h (by decide), fun h => absurd h (by decide), rfl, S1.drew.opt0.opt0.opt0.opt0.opt0⟩
  · refine ⟨?_, ?_, ?_, ?_, ?_, ?_, ?_, ?_, ?_, ?_, ?_, ?_, ?_, ?_, ?_, ?_, ?_, ?_, ?_, ?_, ?_, ?_, trivial⟩
    · rintro f a' W h0 hd ⟨u11, u18, u22, g, u26, HI, HI2, rfl, S⟩
      refine wpOp_run (v := .pointer (some ⟨p, 3, none⟩)) rfl rfl (fun ρ hρ => ?_) ⟨u11, u18, u22, g, u26, HI, HI2, (acts_some 0 rfl (by kernel_rfl) (by kernel_rfl)).symm, S⟩
      have e0 : ρ (.tmp 1) = .pointer (some ⟨p, 0, none⟩) := by rw [hρ]; exact (acts_eval_tmp 1 (by kernel_rfl)).trans E1
      clear hρ
      go_simp
    · rintro f a' W h1 hd ⟨u11, u18, u22, g, u26, HI, HI2, rfl, S⟩
      refine wpOp_run (v := .slice A bs.length c) rfl rfl (fun ρ hρ => ?_) ⟨u11, u18, u22, g, u26, HI, HI2, (acts_some 1 rfl (by kernel_rfl) (by kernel_rfl)).symm, S⟩
      have e0 : ρ (.tmp 7) = .pointer (some ⟨p, 3, none⟩) := by rw [hρ]; exact acts_eval_hit 0 rfl hd.1 (by rw [HSZ]; rfl) (by kernel_rfl)
      clear hρ
      (have hcl : W.cell? ⟨p, 3, none⟩ = some (.slice A bs.length c) := (Sat.mid [_, _, _, _, _] S).cell 3)
      go_simp
    · rintro f a' W h2 hd ⟨u11, u18, u22, g, u26, HI, HI2, rfl, S⟩
      refine wpOp_run (v := .int .i64 bs.length) rfl rfl (fun ρ hρ => ?_) ⟨u11, u18, u22, g, u26, HI, HI2, (acts_some 2 rfl (by kernel_rfl) (by kernel_rfl)).symm, S⟩
      have e0 : ρ (.tmp 8) = .slice A bs.length c := by rw [hρ]; exact acts_eval_hit 1 rfl hd.1 (by rw [HSZ]; rfl) (by kernel_rfl)
      clear hρ
      go_simp
    · rintro f a' W h3 hd ⟨u11, u18, u22, g, u26, HI, HI2, rfl, S⟩
      refine wpOp_run (v := .int .u64 bs.length) rfl rfl (fun ρ hρ => ?_) ⟨u11, u18, u22, g, u26, HI, HI2, (acts_some 3 rfl (by kernel_rfl) (by kernel_rfl)).symm, S⟩
      have e0 : ρ (.tmp 9) = .int .i64 bs.length := by rw [hρ]; exact acts_eval_hit 2 rfl hd.1 (by rw [HSZ]; rfl) (by kernel_rfl)
      clear hρ
      go_simp
    · rintro f a' W h4 hd ⟨u11, u18, u22, g, u26, HI, HI2, rfl, S⟩
      refine wpOp_call rfl rfl (fun ρ hρ => ?_) (octet_big_all S bs.length 3 (by omega) (by decide)) ?_
      · skip
        have e0 : ρ (.tmp 10) = .int .u64 bs.length := by rw [hρ]; exact acts_eval_hit 3 rfl hd.1 (by rw [HSZ]; rfl) (by kernel_rfl)
        have ef : ρ (.func 40) = .func (.func 40) #[] #[] := by rw [hρ]; rfl
        have ec : ∀ v, ρ (.const v) = v := by rw [hρ]; exact fun _ => rfl
        clear hρ
        go_simp
      · (rintro e W' ⟨u', rfl, S'⟩; exact ⟨_, rfl, u', u18, u22, g, u26, fun h => absurd (HI h).1 (by rw [h4]; decide), HI2, acts_swap (by simp only [acts, h4, Bool.false_eq_true, if_false]) (k := 4) rfl (by kernel_rfl) (by kernel_rfl), by have h18 : f 18 = false := (by cases hx : f 18; rfl; exact absurd (HI hx).1 (by rw [h4]; decide)); have S2 := Sat.optI (b := true) rfl S'.drop2; have S3 := (Sat.mid [_, _, _] S2).drop; have S4 := Sat.dim [_, _, _] (Sat.opt0 (A := blk g #[u', u18, u22, .slice A bs.length c] 22) S3); rw [← h18] at S4; exact S4⟩)
    · rintro f a' W h5 hd ⟨u11, u18, u22, g, u26, HI, HI2, rfl, S⟩
      refine wpOp_run (v := .pointer (some ⟨p, 0, none⟩)) rfl rfl (fun ρ hρ => ?_) ⟨u11, u18, u22, g, u26, HI, HI2, (acts_some 5 rfl (by kernel_rfl) (by kernel_rfl)).symm, S⟩
      have e0 : ρ (.tmp 1) = .pointer (some ⟨p, 0, none⟩) := by rw [hρ]; exact (acts_eval_tmp 1 (by kernel_rfl)).trans E1
      clear hρ
      go_simp
    · rintro f a' W h6 hd ⟨u11, u18, u22, g, u26, HI, HI2, rfl, S⟩
      refine wpOp_run (v := .int .i64 t) rfl rfl (fun ρ hρ => ?_) ⟨u11, u18, u22, g, u26, HI, HI2, (acts_some 6 rfl (by kernel_rfl) (by kernel_rfl)).symm, S⟩
      have e0 : ρ (.tmp 12) = .pointer (some ⟨p, 0, none⟩) := by rw [hρ]; exact acts_eval_hit 5 rfl hd.1 (by rw [HSZ]; rfl) (by kernel_rfl)
      clear hρ
      (have hcl : W.cell? ⟨p, 0, none⟩ = some (.int .i64 t) := (Sat.mid [_, _, _, _, _] S).cell 0)
      go_simp
    · rintro f a' W h7 hd ⟨u11, u18, u22, g, u26, HI, HI2, rfl, S⟩
      refine wpOp_run (v := .int .u8 t) rfl rfl (fun ρ hρ => ?_) ⟨u11, u18, u22, g, u26, HI, HI2, (acts_some 7 rfl (by kernel_rfl) (by kernel_rfl)).symm, S⟩
      have e0 : ρ (.tmp 13) = .int .i64 t := by rw [hρ]; exact acts_eval_hit 6 rfl hd.1 (by rw [HSZ]; rfl) (by kernel_rfl)
      clear hρ
      go_simp
    · rintro f a' W h8 hd ⟨u11, u18, u22, g, u26, HI, HI2, rfl, S⟩
      refine wpOp_run (v := .pointer (some ⟨p, 1, none⟩)) rfl rfl (fun ρ hρ => ?_) ⟨u11, u18, u22, g, u26, HI, HI2, (acts_some 8 rfl (by kernel_rfl) (by kernel_rfl)).symm, S⟩
      have e0 : ρ (.tmp 1) = .pointer (some ⟨p, 0, none⟩) := by rw [hρ]; exact (acts_eval_tmp 1 (by kernel_rfl)).trans E1
      clear hρ
      go_simp
    · rintro f a' W h9 hd ⟨u11, u18, u22, g, u26, HI, HI2, rfl, S⟩
      refine wpOp_run (v := .int .i64 fl) rfl rfl (fun ρ hρ => ?_) ⟨u11, u18, u22, g, u26, HI, HI2, (acts_some 9 rfl (by kernel_rfl) (by kernel_rfl)).symm, S⟩
      have e0 : ρ (.tmp 15) = .pointer (some ⟨p, 1, none⟩) := by rw [hρ]; exact acts_eval_hit 8 rfl hd.1 (by rw [HSZ]; rfl) (by kernel_rfl)
      clear hρ
      (have hcl : W.cell? ⟨p, 1, none⟩ = some (.int .i64 fl) := (Sat.mid [_, _, _, _, _] S).cell 1)
      go_simp
    · rintro f a' W h10 hd ⟨u11, u18, u22, g, u26, HI, HI2, rfl, S⟩
      refine wpOp_run (v := .int .u8 fl) rfl rfl (fun ρ hρ => ?_) ⟨u11, u18, u22, g, u26, HI, HI2, (acts_some 10 rfl (by kernel_rfl) (by kernel_rfl)).symm, S⟩
      have e0 : ρ (.tmp 16) = .int .i64 fl := by rw [hρ]; exact acts_eval_hit 9 rfl hd.1 (by rw [HSZ]; rfl) (by kernel_rfl)
      clear hρ
      go_simp
    · rintro f a' W h11 hd ⟨u11, u18, u22, g, u26, HI, HI2, rfl, S⟩
      refine wpOp_mem (v := .slice (some ⟨W.heap.size, 0, none⟩) 2 2) (w' := W.alloc (.cells #[.int .u8 t, .int .u8 fl] 5)) rfl rfl (fun ρ hρ => ?_) (⟨u11, .slice (some ⟨W.heap.size, 0, none⟩) 2 2, u22, g, u26, fun h => absurd (HI h).2.1 (by rw [h11]; decide), HI2, acts_swap (by simp only [acts, h11, Bool.false_eq_true, if_false]) (k := 11) rfl (by kernel_rfl) (by kernel_rfl), by have h18 : f 18 = false := (by cases hx : f 18; rfl; exact absurd (HI hx).2.1 (by rw [h11]; decide)); have S2 := (S.newBlk #[.int .u8 t, .int .u8 fl] 5).ownBlk (size := 1) 2 rfl (by decide); rw [hby] at S2; have S3 := Sat.rep1 (Sat.optI (b := true) rfl S2); have S4 := (Sat.mid [_, _, _] S3).drop; have S5 := Sat.dim [_, _, _] (Sat.opt0 (A := blk g #[u11, .slice (some ⟨W.heap.size, 0, none⟩) 2 2, u22, .slice A bs.length c] 22) S4); rw [← h18] at S5; exact S5⟩)
      have e0 : ρ (.tmp 14) = .int .u8 t := by rw [hρ]; exact acts_eval_hit 7 rfl hd.1 (by rw [HSZ]; rfl) (by kernel_rfl)
      have e1 : ρ (.tmp 17) = .int .u8 fl := by rw [hρ]; exact acts_eval_hit 10 rfl hd.2.1 (by rw [HSZ]; rfl) (by kernel_rfl)
      clear hρ
      go_simp
    · rintro f a' W h12 hd ⟨u11, u18, u22, g, u26, HI, HI2, rfl, S⟩
      refine wpOp_run (v := .pointer (some ⟨p, 2, none⟩)) rfl rfl (fun ρ hρ => ?_) ⟨u11, u18, u22, g, u26, HI, HI2, (acts_some 12 rfl (by kernel_rfl) (by kernel_rfl)).symm, S⟩
      have e0 : ρ (.tmp 1) = .pointer (some ⟨p, 0, none⟩) := by rw [hρ]; exact (acts_eval_tmp 1 (by kernel_rfl)).trans E1
      clear hρ
      go_simp
    · rintro f a' W h13 hd ⟨u11, u18, u22, g, u26, HI, HI2, rfl, S⟩
      refine wpOp_run (v := .int .i64 s) rfl rfl (fun ρ hρ => ?_) ⟨u11, u18, u22, g, u26, HI, HI2, (acts_some 13 rfl (by kernel_rfl) (by kernel_rfl)).symm, S⟩
      have e0 : ρ (.tmp 19) = .pointer (some ⟨p, 2, none⟩) := by rw [hρ]; exact acts_eval_hit 12 rfl hd.1 (by rw [HSZ]; rfl) (by kernel_rfl)
      clear hρ
      (have hcl : W.cell? ⟨p, 2, none⟩ = some (.int .i64 s) := (Sat.mid [_, _, _, _, _] S).cell 2)
      go_simp
    · rintro f a' W h14 hd ⟨u11, u18, u22, g, u26, HI, HI2, rfl, S⟩
      refine wpOp_run (v := .int .u64 s) rfl rfl (fun ρ hρ => ?_) ⟨u11, u18, u22, g, u26, HI, HI2, (acts_some 14 rfl (by kernel_rfl) (by kernel_rfl)).symm, S⟩
      have e0 : ρ (.tmp 20) = .int .i64 s := by rw [hρ]; exact acts_eval_hit 13 rfl hd.1 (by rw [HSZ]; rfl) (by kernel_rfl)
      clear hρ
      go_simp
    · rintro f a' W h15 hd ⟨u11, u18, u22, g, u26, HI, HI2, rfl, S⟩
      refine wpOp_call rfl rfl (fun ρ hρ => ?_) (octet_big_all S s 4 (by omega) (by decide)) ?_
      · skip
        have e0 : ρ (.tmp 21) = .int .u64 s := by rw [hρ]; exact acts_eval_hit 14 rfl hd.1 (by rw [HSZ]; rfl) (by kernel_rfl)
        have ef : ρ (.func 40) = .func (.func 40) #[] #[] := by rw [hρ]; rfl
        have ec : ∀ v, ρ (.const v) = v := by rw [hρ]; exact fun _ => rfl
        clear hρ
        go_simp
      · (rintro e W' ⟨u', rfl, S'⟩; exact ⟨_, rfl, u11, u18, u', g, u26, fun h => absurd (HI h).2.2 (by rw [h15]; decide), HI2, acts_swap (by simp only [acts, h15, Bool.false_eq_true, if_false]) (k := 15) rfl (by kernel_rfl) (by kernel_rfl), by have h18 : f 18 = false := (by cases hx : f 18; rfl; exact absurd (HI hx).2.2 (by rw [h15]; decide)); have S2 := Sat.rep2 (Sat.optI (b := true) rfl S'); have S3 := (Sat.mid [_, _, _] S2).drop; have S4 := Sat.dim [_, _, _] (Sat.opt0 (A := blk g #[u11, u18, u', .slice A bs.length c] 22) S3); rw [← h18] at S4; exact S4⟩)
    · rintro f a' W h16 hd ⟨u11, u18, u22, g, u26, HI, HI2, rfl, S⟩
      refine wpOp_run (v := .pointer (some ⟨p, 3, none⟩)) rfl rfl (fun ρ hρ => ?_) ⟨u11, u18, u22, g, u26, HI, HI2, (acts_some 16 rfl (by kernel_rfl) (by kernel_rfl)).symm, S⟩
      have e0 : ρ (.tmp 1) = .pointer (some ⟨p, 0, none⟩) := by rw [hρ]; exact (acts_eval_tmp 1 (by kernel_rfl)).trans E1
      clear hρ
      go_simp
    · rintro f a' W h17 hd ⟨u11, u18, u22, g, u26, HI, HI2, rfl, S⟩
      refine wpOp_run (v := .slice A bs.length c) rfl rfl (fun ρ hρ => ?_) ⟨u11, u18, u22, g, u26, HI, HI2, (acts_some 17 rfl (by kernel_rfl) (by kernel_rfl)).symm, S⟩
      have e0 : ρ (.tmp 23) = .pointer (some ⟨p, 3, none⟩) := by rw [hρ]; exact acts_eval_hit 16 rfl hd.1 (by rw [HSZ]; rfl) (by kernel_rfl)
      clear hρ
      (have hcl : W.cell? ⟨p, 3, none⟩ = some (.slice A bs.length c) := (Sat.mid [_, _, _, _, _] S).cell 3)
      go_simp
    · rintro f a' W h18 hd ⟨u11, u18, u22, g, u26, HI, HI2, rfl, S⟩
      obtain ⟨A1, c1, q1, -⟩ := (Sat.optE hd.1 S).ownForm; obtain ⟨A2, c2, q2, -⟩ := (Sat.optE hd.2.1 (Sat.mid [_] S)).ownForm; obtain ⟨A3, c3, q3, -⟩ := (Sat.optE hd.2.2.1 (Sat.mid [_, _] S)).ownForm
      refine wpOp_mem (v := .slice (some ⟨W.heap.size, 0, none⟩) 4 4) (w' := W.alloc (.cells #[u11, u18, u22, .slice A bs.length c] 22)) rfl rfl (fun ρ hρ => ?_) (⟨u11, u18, u22, W.heap.size, u26, fun _ => ⟨hd.1, hd.2.1, hd.2.2.1⟩, HI2, acts_swap (by simp only [acts, h18, Bool.false_eq_true, if_false]) (k := 18) rfl (by kernel_rfl) (by kernel_rfl), Sat.rep3 (Sat.optI rfl (S.newBlk _ _))⟩)
      have e0 : ρ (.tmp 11) = u11 := by rw [hρ]; exact acts_eval_hit 4 rfl hd.1 (by rw [HSZ]; rfl) (by kernel_rfl)
      have e1 : ρ (.tmp 18) = u18 := by rw [hρ]; exact acts_eval_hit 11 rfl hd.2.1 (by rw [HSZ]; rfl) (by kernel_rfl)
      have e2 : ρ (.tmp 22) = u22 := by rw [hρ]; exact acts_eval_hit 15 rfl hd.2.2.1 (by rw [HSZ]; rfl) (by kernel_rfl)
      have e3 : ρ (.tmp 24) = .slice A bs.length c := by rw [hρ]; exact acts_eval_hit 17 rfl hd.2.2.2.1 (by rw [HSZ]; rfl) (by kernel_rfl)
      clear hρ
      go_simp
    · rintro f a' W h19 hd ⟨u11, u18, u22, g, u26, HI, HI2, rfl, S⟩
      refine wpOp_call rfl rfl (fun ρ hρ => ?_) (concat_bytes S ⟨g, 0, none⟩ 4 [bigOf bs.length 3, [UInt8.ofNat t, UInt8.ofNat fl], bigOf s 4, bs] (fun W S ↦ parts_of S (HI hd.1).1 (HI hd.1).2.1 (HI hd.1).2.2 hd.1 HV.out) (by simp [bigOf_length]; omega) (by simp) (by decide)) ?_
      · skip
        have e0 : ρ (.tmp 25) = .slice (some ⟨g, 0, none⟩) 4 4 := by rw [hρ]; exact acts_eval_hit 18 rfl hd.1 (by rw [HSZ]; rfl) (by kernel_rfl)
        have ef : ρ (.func 27) = .func (.func 27) #[] #[] := by rw [hρ]; rfl
        clear hρ
        go_simp
      · (rintro e W' ⟨u', rfl, S'⟩; rw [hfl] at S'; exact ⟨_, rfl, u11, u18, u22, g, u', HI, fun _ => rfl, acts_swap (by have h20 : f 20 = false := (by cases hx : f 20; rfl; exact absurd (HI2 hx) (by rw [h19]; decide)); simp only [acts, h19, h20, Bool.false_eq_true, if_false]) (k := 19) rfl (by kernel_rfl) (by kernel_rfl), Sat.rep4 (Sat.optI rfl S')⟩)
    · rintro f a' W h20 hd ⟨u11, u18, u22, g, u26, HI, HI2, rfl, S⟩
      refine wpOp_run (v := u26) rfl rfl (fun ρ hρ => ?_) ⟨u11, u18, u22, g, u26, HI, fun _ => hd.1, (acts_some 20 rfl (by kernel_rfl) (by kernel_rfl)).symm, S⟩
      have e0 : ρ (.tmp 26) = u26 := by rw [hρ]; exact acts_eval_hit 19 rfl hd.1 (by rw [HSZ]; rfl) (by kernel_rfl)
      clear hρ
      go_simp
    · rintro f a' W h21 hd ⟨u11, u18, u22, g, u26, HI, HI2, rfl, S⟩
      refine wpOp_run (v := .int .i64 0) rfl rfl (fun ρ hρ => ?_) ⟨u11, u18, u22, g, u26, HI, HI2, (acts_some 21 rfl (by kernel_rfl) (by kernel_rfl)).symm, S⟩
      have ec : ∀ v, ρ (.const v) = v := by rw [hρ]; exact fun _ => rfl
      clear hρ
      go_simp
  · rintro a' W ⟨u11, u18, u22, g, u26, -, -, rfl, S⟩
    subst ha0
    simp only [acts, if_true, Act.put, List.setIfInBounds_toArray, List.set_cons_succ, List.set_cons_zero]
    have S9 := Sat.drop2 (opt_iff.1 S.drop.drop.drop.drop)
    clear S S1 HSZ E1
    go_wp2_with fail
    exact hK.out _ _ ⟨_, rfl, S9⟩
end Go.Proofs.Ythenpoammpkjeaa
