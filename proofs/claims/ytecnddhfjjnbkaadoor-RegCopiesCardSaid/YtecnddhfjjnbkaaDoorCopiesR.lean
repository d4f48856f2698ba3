/- The walk of the law RegCopies. -/
import Derived.Test.YtecnddhfjjnbkaaDoorSm
import Derived.Test.YtecnddhfjjnbkaaDoorAloneL
set_option linter.unusedSimpArgs false
set_option linter.unusedVariables false
namespace Go.Proofs.YtecnddhfjjnbkaaDoor
open Go.RowKit

theorem drop_op {G : Gnd} {w : World} {A B C D : Asrt} {l : List Asrt} (H : Sat G w (A :: B :: C :: D :: l)) : Sat G w (A :: B :: D :: l) := ((H.re [2, 0, 1]).drop)
theorem arg_ops {w : World} {v : Value} {d : D} (h : ArgV w (.sl 24 (Ty.agg [.int .i64, .int .i64, .int .i64])) v d) : ∃ ops, ROps (Gnd.of w).ro v ops := by
  obtain ⟨l, h⟩ := arg_sl h
  exact ops_of h
set_option maxHeartbeats 16000000 in
set_option maxRecDepth 100000 in
theorem regCopies_walk (w : World) (v0 v1 : Value) (h0 : ∃ d, ArgV w (Ty.agg [.int .i64, .int .i64, .sl 24 (Ty.agg [.int .i64, .int .i64, .int .i64])]) v0 d) (h1 : ∃ d, ArgV w (.sl 24 (Ty.agg [.int .i64, .int .i64, .int .i64])) v1 d) (htab : TabW w) :
    Calls Tryd.prog 6 #[v0, v1] w fun e w' => e = .returned (.bool true) ∧ Below w.heap.size w w' := by
  refine calls_any fun K hK => ?_
  obtain ⟨_, h0⟩ := h0
  obtain ⟨ten, quo, x, ops, rfl, X, c, rfl, hlc, hc, hel⟩ := arg_case h0
  obtain ⟨_, h1⟩ := h1
  obtain ⟨mr, Y, cy, rfl, hly, hcy, hely⟩ := arg_ops h1
  clear h0 h1
  have HT := Lib.hid (TabG.of htab)
  clear htab
  have S0 := (Sat.start w).newBlk #[.int .i64 ten, .int .i64 quo, .slice X ops.length c] 29
  have o0 := S0.cell 0
  have o1 := S0.cell 1
  have o2 := S0.cell 2
  have HEL := Lib.hid hel
  have HELY := Lib.hid hely
  clear hel hely
  obtain ⟨M, hM⟩ : ∃ M, M = mr.length := ⟨_, rfl⟩
  rw [← hM] at hly ⊢
  have HM := Lib.hid hM
  clear hM
  cases hq : rRight ten quo with
  | false =>
    have hn := rg_new_not ten quo hq
    have hn := hn (w.alloc (.cells #[.int .i64 ten, .int .i64 quo, .slice X ops.length c] 29))
    by_cases b1 : ten < 1
    · go_enter Tryd.func6, Tryd.ntmps6; go_wp2_with fail; (with_reducible refine (hn).mono ?_); rintro e w1 ⟨rfl, rfl⟩; go_wp2_with fail; (with_reducible refine (law_awake (S0) (HT.out.mono Gnd.le.rfl')).mono ?_); rintro e w9 ⟨rfl, S9⟩; go_wp2_with fail; exact hK.out _ _ ⟨rfl, S9.above Gnd.le.rfl'⟩
    by_cases b2 : 64 < ten
    · go_enter Tryd.func6, Tryd.ntmps6; go_wp2_with fail; (with_reducible refine (hn).mono ?_); rintro e w1 ⟨rfl, rfl⟩; go_wp2_with fail; (with_reducible refine (law_awake (S0) (HT.out.mono Gnd.le.rfl')).mono ?_); rintro e w9 ⟨rfl, S9⟩; go_wp2_with fail; exact hK.out _ _ ⟨rfl, S9.above Gnd.le.rfl'⟩
    by_cases b3 : quo < 1
    · go_enter Tryd.func6, Tryd.ntmps6; go_wp2_with fail; (with_reducible refine (hn).mono ?_); rintro e w1 ⟨rfl, rfl⟩; go_wp2_with fail; (with_reducible refine (law_awake (S0) (HT.out.mono Gnd.le.rfl')).mono ?_); rintro e w9 ⟨rfl, S9⟩; go_wp2_with fail; exact hK.out _ _ ⟨rfl, S9.above Gnd.le.rfl'⟩
    by_cases b4 : 65536 < quo
    · go_enter Tryd.func6, Tryd.ntmps6; go_wp2_with fail; (with_reducible refine (hn).mono ?_); rintro e w1 ⟨rfl, rfl⟩; go_wp2_with fail; (with_reducible refine (law_awake (S0) (HT.out.mono Gnd.le.rfl')).mono ?_); rintro e w9 ⟨rfl, S9⟩; go_wp2_with fail; exact hK.out _ _ ⟨rfl, S9.above Gnd.le.rfl'⟩
    · exact absurd ⟨(by omega), (by omega), (by omega), (by omega)⟩ (of_decide_eq_false hq)
  | true =>
  obtain ⟨a1, a2, a3, a4⟩ := of_decide_eq_true hq
  obtain ⟨T, rfl⟩ : ∃ j : Nat, ten = j := ⟨ten.toNat, by omega⟩
  have hn := rg_new S0 T quo hq
  have hI0 := Lib.hid (SInv.new hq)
  clear S0 hq
  obtain ⟨N, hN⟩ : ∃ N, N = ops.length := ⟨_, rfl⟩
  rw [← hN] at hlc o0 o1 o2 hn ⊢
  have HN := Lib.hid hN
  clear hN
  go_enter Tryd.func6, Tryd.ntmps6
  go_wp2_with fail
  (with_reducible refine (hn).mono ?_); rintro e w1 ⟨g, rfl, S2⟩
  clear o0 o1 o2 hn
  obtain ⟨p, hp⟩ : ∃ p, p = w.heap.size := ⟨_, rfl⟩
  rw [← hp] at S2 ⊢
  clear hp
  have hr := law_right S2 T quo X N c
  have o0 := S2.swap.cell 0
  have o1 := S2.swap.cell 1
  have o2 := S2.swap.cell 2
  clear S2
  cases hq : lawRight T quo N with
  | false =>
    rw [hq] at hr
    go_wp2_with fail
    (with_reducible refine (hr).mono ?_); rintro e w1 ⟨rfl, S3⟩
    clear o0 o1 o2 hr
    go_wp2_with fail
    (with_reducible refine (law_awake (S3) (HT.out.mono Gnd.le.rfl')).mono ?_); rintro e w9 ⟨rfl, S9⟩; go_wp2_with fail; exact hK.out _ _ ⟨rfl, S9.above Gnd.le.rfl'⟩
  | true =>
  rw [hq] at hr
  obtain ⟨-, -, -, -, a5⟩ := of_decide_eq_true hq
  clear hq
  by_cases hm : 60 < (M : Int)
  · go_wp2_with fail
    (with_reducible refine (hr).mono ?_); rintro e w1 ⟨rfl, S3⟩
    clear o0 o1 o2 hr
    go_wp2_with fail
    (with_reducible refine (law_awake (S3) (HT.out.mono Gnd.le.rfl')).mono ?_); rintro e w9 ⟨rfl, S9⟩; go_wp2_with fail; exact hK.out _ _ ⟨rfl, S9.above Gnd.le.rfl'⟩
  go_wp2_with fail
  (with_reducible refine (hr).mono ?_); rintro e w1 ⟨rfl, S3⟩
  clear o0 o1 o2 hr
  have o2 := S3.swap.cell 2
  go_wp2_with fail
  go_loopw [7, 8, 70] (fun xs la i wr => ∃ (k : Nat) (s : StM) (G1 : Gnd) (v : Value), k ≤ N ∧ i = .int .i64 k ∧ xs = v ∧ la = .int .i64 s.last ∧ SInv k T quo s ∧ (∀ x ∈ s.L, x ≤ quo) ∧ (Gnd.of w).le G1 ∧ RL (cellR G1.ro) v s.X ∧ Sat G1 wr [rgA g T quo s.F s.L s.last, blk p #[.int .i64 T, .int .i64 quo, .slice X N c] 29]) (fun _ _ i _ => N - (intOf i).toNat)
  case atStart => exact ⟨0, ⟨[], List.replicate T 0, 0, []⟩, Gnd.of w, .slice none 0 0, Nat.zero_le _, rfl, rfl, rfl, hI0.out, (fun x hx => by obtain ⟨-, rfl⟩ := List.mem_replicate.1 hx; omega), Gnd.le.rfl', RL.nil _, S3⟩
  case round =>
    obtain ⟨k, s, G1, v, hk, rfl, rfl, rfl, hI, hQ, hG1, hv, S5⟩ := hrel
    clear o2 S3 hI0
    by_cases hlt : k < N
    · obtain ⟨o, ho⟩ : ∃ o, ops[k]? = some o := ⟨_, List.getElem?_eq_getElem (by rw [← HN.out]; exact hlt)⟩
      obtain ⟨a, b, off, rfl, hab, q0, q1, q2⟩ := HEL.out k o ho
      have q0 := S5.cellR (cellR_mono hG1.ro q0)
      have q1 := S5.cellR (cellR_mono hG1.ro q1)
      have q2 := S5.cellR (cellR_mono hG1.ro q2)
      have S6 := S5.newBlk #[.int .i64 o.k, .int .i64 o.n, .int .i64 o.e] 37
      have hlt2 : (k : Int) < (N : Int) := by omega
      have HI1 := Lib.hid (hI.step o)
      have HQ1 := Lib.hid (stepM_quo hI hQ o)
      have hst := fun (W : World) (l : List Asrt) (S : Sat G1 W (rgA g T quo s.F s.L s.last :: l)) => law_step S hI (by omega) (HT.out.mono hG1) hv (some a) N c o
      clear ho S5 hI hQ
      obtain ⟨ok, on, oe⟩ := o
      simp only at q0 q1 q2 S6 hst
      obtain ⟨A1, c1, rfl, -⟩ := id hv
      obtain ⟨la, hla⟩ : ∃ la, la = s.last := ⟨_, rfl⟩
      obtain ⟨M2, hM⟩ : ∃ M2, M2 = s.X.length := ⟨_, rfl⟩
      rw [← hla, ← hM] at hst ⊢
      generalize stepM T quo s ⟨ok, on, oe⟩ = s1 at *
      rw [← hla] at S6
      clear hv hla hM
      go_upto_region 13 with fail
      generalize wr.heap.size = z at *
      refine wp_world S6 fun w1 S7 => ?_
      clear S6 q0 q1 q2 hab
      have d0 := S7.cell 0
      have d1 := S7.cell 1
      have d2 := S7.cell 2
      have o0 := S7.pull2.cell 0
      have o1 := S7.pull2.cell 1
      have o2 := S7.pull2.cell 2
      have hst := hst _ _ S7.swap
      clear S7
      go_wp2_with fail
      (with_reducible refine hst.mono ?_)
      clear hst d0 d1 d2 o0 o1 o2
      rintro e w2 ⟨u, G2, hG2, rfl, hu, S8⟩
      have hG12 := hG1.trans hG2
      have HS := Lib.hid ((S8.re [1, 0]).drop)
      clear S8
      go_wp2_with fail
      go_roundw
      case rel => exact ⟨k + 1, s1, G2, u, by omega, by go_num, rfl, rfl, HI1.out, HQ1.out, hG12, hu, HS.out⟩
      case measure => simp [intOf]; omega
    · obtain rfl : N = k := by omega
      have hcp := rg_copy S5 (by have := hI.r.few; omega) (by have := hI.r.len; omega)
      have HI := Lib.hid hI
      have HQ := Lib.hid hQ
      clear S5 hI hQ
      obtain ⟨A1, c1, rfl, -⟩ := id hv
      obtain ⟨la, hla⟩ : ∃ la, la = s.last := ⟨_, rfl⟩
      obtain ⟨M2, hM2⟩ : ∃ M2, M2 = s.X.length := ⟨_, rfl⟩
      rw [← hla] at hcp
      rw [← hla, ← hM2]
      rw [← hM2] at hv
      have HLA := Lib.hid hla
      have HM2 := Lib.hid hM2
      clear hla hM2
      go_wp2_with fail
      (with_reducible refine hcp.mono ?_)
      clear hcp
      rintro e w2 ⟨q, rfl, S6⟩
      go_wp2_with fail
      go_loopw [12, 13, 93] (fun xs ly i wr => ∃ (j : Nat) (s2 : StM) (G2 : Gnd) (v2 : Value), j ≤ M ∧ i = .int .i64 j ∧ xs = v2 ∧ ly = .int .i64 s2.last ∧ SInv (N + j) T quo s2 ∧ (∀ x ∈ s2.L, x ≤ quo) ∧ G1.le G2 ∧ RL (cellR G2.ro) v2 s2.X ∧ Sat G2 wr [rgA q T quo s2.F s2.L s2.last, rgA g T quo s.F s.L la, blk p #[.int .i64 T, .int .i64 quo, .slice X N c] 29]) (fun _ _ i _ => M - (intOf i).toNat)
      case atStart => exact ⟨0, s, G1, _, Nat.zero_le _, rfl, rfl, (by rw [HLA.out]), HI.out, HQ.out, Gnd.le.rfl', hv, by rw [← HLA.out]; exact S6⟩
      case round =>
        obtain ⟨j, s2, G2, v2, hj, rfl, rfl, rfl, hI2, hQ2, hG2, hv2, S7⟩ := hrel
        clear S6
        by_cases hlt3 : j < M
        · obtain ⟨o, ho⟩ : ∃ o, mr[j]? = some o := ⟨_, List.getElem?_eq_getElem (by rw [← HM.out]; exact hlt3)⟩
          obtain ⟨a, b, off, rfl, hab, q0, q1, q2⟩ := HELY.out j o ho
          have hG02 := hG1.trans hG2
          have q0 := S7.cellR (cellR_mono hG02.ro q0)
          have q1 := S7.cellR (cellR_mono hG02.ro q1)
          have q2 := S7.cellR (cellR_mono hG02.ro q2)
          have S8 := S7.newBlk #[.int .i64 o.k, .int .i64 o.n, .int .i64 o.e] 37
          have hlt4 : (j : Int) < (M : Int) := by omega
          have HI1 := Lib.hid (hI2.step o)
          have HQ1 := Lib.hid (stepM_quo hI2 hQ2 o)
          have hst := fun (W : World) (l : List Asrt) (S : Sat G2 W (rgA q T quo s2.F s2.L s2.last :: l)) => law_step S hI2 (by omega) (HT.out.mono hG02) hv2 X N c o
          clear ho S7 hI2 hQ2
          obtain ⟨ok, on, oe⟩ := o
          simp only at q0 q1 q2 S8 hst
          obtain ⟨A3, c3, rfl, -⟩ := id hv2
          obtain ⟨lb, hlb⟩ : ∃ lb, lb = s2.last := ⟨_, rfl⟩
          obtain ⟨M3, hM3⟩ : ∃ M3, M3 = s2.X.length := ⟨_, rfl⟩
          rw [← hlb, ← hM3] at hst ⊢
          generalize stepM T quo s2 ⟨ok, on, oe⟩ = s3 at *
          rw [← hlb] at S8
          clear hv2 hlb hM3
          go_upto_region 23 with fail
          generalize wr.heap.size = z at *
          refine wp_world S8 fun w3 S9 => ?_
          clear S8 q0 q1 q2 hab
          have d0 := S9.cell 0
          have d1 := S9.cell 1
          have d2 := S9.cell 2
          have o0 := S9.pull3.cell 0
          have o1 := S9.pull3.cell 1
          have o2 := S9.pull3.cell 2
          have hst := hst _ _ S9.swap
          clear S9
          go_wp2_with fail
          (with_reducible refine hst.mono ?_)
          clear hst d0 d1 d2 o0 o1 o2
          rintro e w4 ⟨u, G3, hG3, rfl, hu, S10⟩
          have hG13 := hG2.trans hG3
          have HS := Lib.hid ((S10.re [1, 0]).drop)
          clear S10
          go_wp2_with fail
          go_roundw
          case rel => exact ⟨j + 1, s3, G3, u, by omega, by go_num, rfl, rfl, HI1.out, HQ1.out, hG13, hu, HS.out⟩
          case measure => simp [intOf]; omega
        · obtain rfl : M = j := by omega
          have o0 := S7.pull2.cell 0
          have o1 := S7.pull2.cell 1
          have o2 := S7.pull2.cell 2
          have S8 := S7.swap
          rw [HLA.out] at S8
          have hsm := law_same S8 HI.out (by omega) HQ.out (hv.mono hG2) X N c
          have HI2 := Lib.hid hI2
          have HQ2 := Lib.hid hQ2
          rw [← HLA.out] at hsm
          obtain ⟨A3, c3, rfl, -⟩ := id hv2
          obtain ⟨lb, hlb⟩ : ∃ lb, lb = s2.last := ⟨_, rfl⟩
          obtain ⟨M3, hM3⟩ : ∃ M3, M3 = s2.X.length := ⟨_, rfl⟩
          have hsn := fun (W : World) (G3 : Gnd) (l : List Asrt) (hG3 : G2.le G3) (S : Sat G3 W (rgA q T quo s2.F s2.L s2.last :: l)) => law_same S HI2.out (by omega) HQ2.out (hv2.mono hG3) X N c
          rw [← hlb, ← hM3] at hsn ⊢
          rw [← hlb] at hsm
          clear S7 S8 hI2 hQ2 hlb hM3 hv hv2
          go_wp2_with fail
          (with_reducible refine hsm.mono ?_)
          clear hsm o0 o1 o2
          rintro e w4 ⟨rfl, G3, hG3, S9⟩
          have S10 := S9.swap
          have hsn := hsn _ _ _ hG3 S10
          have o0 := S10.pull2.cell 0
          have o1 := S10.pull2.cell 1
          have o2 := S10.pull2.cell 2
          clear S9 S10
          go_wp2_with fail
          (with_reducible refine hsn.mono ?_)
          clear hsn o0 o1 o2
          rintro e w5 ⟨rfl, G4, hG4, S11⟩
          go_wp2_with fail
          (with_reducible refine (law_awake (S11) (HT.out.mono (hG1.trans (hG2.trans (hG3.trans hG4))))).mono ?_); rintro e w9 ⟨rfl, S9⟩; go_wp2_with fail; exact hK.out _ _ ⟨rfl, S9.above (hG1.trans (hG2.trans (hG3.trans hG4)))⟩
end Go.Proofs.YtecnddhfjjnbkaaDoor
