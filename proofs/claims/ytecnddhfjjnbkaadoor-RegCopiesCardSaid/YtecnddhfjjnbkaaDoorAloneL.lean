/- The walk of the law RegAlone. -/
import Derived.Test.YtecnddhfjjnbkaaDoorRel
set_option linter.unusedSimpArgs false
set_option linter.unusedVariables false
namespace Go.Proofs.YtecnddhfjjnbkaaDoor
open Go.RowKit

theorem Sat.dropAt3 {G : Gnd} {w : World} {A B C E : Asrt} {l : List Asrt} (H : Sat G w (A :: B :: C :: E :: l)) : Sat G w (A :: B :: C :: l) := ((H.re [3, 0, 1, 2]).drop)
set_option maxHeartbeats 16000000 in
set_option maxRecDepth 100000 in
theorem regAlone_walk (w : World) (v0 v1 : Value) (h0 : ∃ d, ArgV w (Ty.agg [.int .i64, .int .i64, .sl 24 (Ty.agg [.int .i64, .int .i64, .int .i64])]) v0 d) (h1 : ∃ d, ArgV w (.int .i64) v1 d) (htab : TabW w) :
    Calls Tryd.prog 4 #[v0, v1] w fun e w' => e = .returned (.bool true) ∧ Below w.heap.size w w' := by
  refine calls_any fun K hK => ?_
  obtain ⟨_, h0⟩ := h0
  obtain ⟨ten, quo, x, ops, rfl, X, c, rfl, hlc, hc, hel⟩ := arg_case h0
  obtain ⟨_, h1⟩ := h1
  obtain ⟨t, rfl, -⟩ := arg_int h1
  clear h0 h1
  have HT := Lib.hid (TabG.of htab)
  clear htab
  have S0 := (Sat.start w).newBlk #[.int .i64 ten, .int .i64 quo, .slice X ops.length c] 29
  have hr := law_right S0 ten quo X ops.length c
  have o0 := S0.cell 0
  have o1 := S0.cell 1
  have o2 := S0.cell 2
  have HEL := Lib.hid hel
  clear hel
  cases hq : lawRight ten quo ops.length with
  | false =>
    rw [hq] at hr
    clear S0
    go_enter Tryd.func4, Tryd.ntmps4
    go_wp2_with fail
    (with_reducible refine (hr).mono ?_); rintro e w1 ⟨rfl, S1⟩
    clear o0 o1 o2 hr
    go_wp2_with fail
    (with_reducible refine (law_awake (S1) HT.out).mono ?_); rintro e w9 ⟨rfl, S9⟩; go_wp2_with fail; exact hK.out _ _ ⟨rfl, S9.above Gnd.le.rfl'⟩
  | true =>
  rw [hq] at hr
  obtain ⟨a1, a2, a3, a4, a5⟩ := of_decide_eq_true hq
  clear S0 hq
  by_cases b1 : t < 0
  · go_enter Tryd.func4, Tryd.ntmps4
    go_wp2_with fail
    (with_reducible refine (hr).mono ?_); rintro e w1 ⟨rfl, S1⟩
    clear o0 o1 o2 hr
    have o0 := S1.cell 0
    go_wp2_with fail
    (with_reducible refine (law_awake (S1) HT.out).mono ?_); rintro e w9 ⟨rfl, S9⟩; go_wp2_with fail; exact hK.out _ _ ⟨rfl, S9.above Gnd.le.rfl'⟩
  by_cases b2 : ten ≤ t
  · go_enter Tryd.func4, Tryd.ntmps4
    go_wp2_with fail
    (with_reducible refine (hr).mono ?_); rintro e w1 ⟨rfl, S1⟩
    clear o0 o1 o2 hr
    have o0 := S1.cell 0
    go_wp2_with fail
    (with_reducible refine (law_awake (S1) HT.out).mono ?_); rintro e w9 ⟨rfl, S9⟩; go_wp2_with fail; exact hK.out _ _ ⟨rfl, S9.above Gnd.le.rfl'⟩
  obtain ⟨T, rfl⟩ : ∃ j : Nat, ten = j := ⟨ten.toNat, by omega⟩
  have hrr : rRight T quo = true := decide_eq_true (by omega)
  go_enter Tryd.func4, Tryd.ntmps4
  go_wp2_with fail
  (with_reducible refine (hr).mono ?_); rintro e w1 ⟨rfl, S1⟩
  clear o0 o1 o2 hr
  have o0 := S1.cell 0
  have o1 := S1.cell 1
  have hn := rg_new S1 T quo hrr
  clear S1
  obtain ⟨p, hp⟩ : ∃ p, p = w.heap.size := ⟨_, rfl⟩
  rw [← hp] at hn o0 o1 ⊢
  clear hp
  go_wp2_with fail
  (with_reducible refine (hn).mono ?_); rintro e w1 ⟨g, rfl, S2⟩
  clear o0 o1 hn
  have o0 := S2.swap.cell 0
  have o1 := S2.swap.cell 1
  have hn := rg_new S2 T quo hrr
  clear S2
  go_wp2_with fail
  (with_reducible refine (hn).mono ?_); rintro e w1 ⟨h, rfl, S3⟩
  clear o0 o1 hn
  have S4 := S3.swap
  have o2 := S4.pull2.cell 2
  have hI0 := RInv.new hrr
  have HR0 : Hid (Rel t T [] (List.replicate T 0) [] (List.replicate T 0)) := Lib.hid ⟨rfl, rfl⟩
  clear S3 hrr
  obtain ⟨N, hN⟩ : ∃ N, N = ops.length := ⟨_, rfl⟩
  rw [← hN] at a5 hlc o2 S4 ⊢
  have HN := Lib.hid hN
  clear hN
  go_wp2_with fail
  go_loopw [9, 69] (fun la i wr => ∃ (k : Nat) (n : Int) (F : List Ent) (L : List Int) (last : Int) (F' : List Ent) (L' : List Int) (last' : Int), k ≤ N ∧ i = .int .i64 k ∧ la = .int .i64 n ∧ -1 ≤ n ∧ n ≤ 1073741823 ∧ RInv k T quo F L last ∧ RInv k T quo F' L' last' ∧ Rel t T F L F' L' ∧ (last ≤ 0 ∨ last ≤ 2 * n + 1) ∧ (last' ≤ 0 ∨ last' ≤ 2 * n + 1) ∧ Sat (Gnd.of w) wr [rgA g T quo F L last, rgA h T quo F' L' last', blk p #[.int .i64 T, .int .i64 quo, .slice X N c] 29]) (fun _ i _ => N - (intOf i).toNat)
  case atStart => exact ⟨0, -1, _, _, _, _, _, _, Nat.zero_le _, rfl, rfl, Int.le_refl _, by omega, hI0, hI0, HR0.out, .inl (Int.le_refl _), .inl (Int.le_refl _), S4⟩
  case round =>
    obtain ⟨k, n, F, L, last, F', L', last', hk, rfl, rfl, hn1, hn2, hI, hI', hR, hla, hla', S5⟩ := hrel
    clear o2 S4 hI0 HR0
    have HI := Lib.hid hI
    have HI' := Lib.hid hI'
    have HR := Lib.hid hR
    have HLA := Lib.hid (And.intro hla hla')
    clear hI hI' hR hla hla'
    by_cases hlt : k < N
    · obtain ⟨o, ho⟩ : ∃ o, ops[k]? = some o := ⟨_, List.getElem?_eq_getElem (by rw [← HN.out]; exact hlt)⟩
      obtain ⟨a, b, off, rfl, hab, q0, q1, q2⟩ := HEL.out k o ho
      have q0 := S5.cellR q0
      have q1 := S5.cellR q1
      have q2 := S5.cellR q2
      have S6 := S5.newBlk #[.int .i64 o.k, .int .i64 o.n, .int .i64 o.e] 37
      have hlt2 : (k : Int) < (N : Int) := by omega
      clear ho S5
      obtain ⟨ok, on, oe⟩ := o
      simp only at q0 q1 q2 S6
      go_upto_region 11 with fail
      generalize wr.heap.size = z at *
      refine wp_world S6 fun w1 S7 => ?_
      clear S6 q0 q1 q2 hab
      have d0 := S7.cell 0
      have d1 := S7.cell 1
      have d2 := S7.cell 2
      by_cases h1 : ok = 1
      · subst h1
        by_cases h2 : on ≤ n
        · go_wp2_with fail
          (with_reducible refine (law_awake (S7) HT.out).mono ?_); rintro e w9 ⟨rfl, S9⟩; go_wp2_with fail; exact hK.out _ _ ⟨rfl, S9.above Gnd.le.rfl'⟩
        by_cases h3 : 1073741823 < on
        · go_wp2_with fail
          (with_reducible refine (law_awake (S7) HT.out).mono ?_); rintro e w9 ⟨rfl, S9⟩; go_wp2_with fail; exact hK.out _ _ ⟨rfl, S9.above Gnd.le.rfl'⟩
        obtain ⟨m, rfl⟩ : ∃ m : Nat, on = m := ⟨on.toNat, by omega⟩
        have hid : idOf (m : Int) = 2 * m + 1 := if_pos (by omega)
        have hid0 : ¬ idOf (m : Int) = 0 := by omega
        have hl1 : ¬ idOf (m : Int) ≤ last := by have := HLA.out.1; omega
        have hl2 : ¬ idOf (m : Int) ≤ last' := by have := HLA.out.2; omega
        have how : ownT (idOf (m : Int)) T = (m : Int) % T := by
          rw [hid]
          unfold ownT
          rw [show ownR (2 * (m : Int) + 1) T = true from decide_eq_true (by omega), if_pos rfl, show (2 * (m : Int) + 1) / 2 = m by omega]
        have hop := rg_open S7.swap (HI.out.wf (by omega)) HT.out m
        have hI2 := Lib.hid (HI.out.opn m)
        have hm : Int.tmod (m : Int) (T : Int) = (m : Int) % T := Int.tmod_eq_emod_of_nonneg (by omega)
        have hT0 : ((T : Int) == 0) = false := beq_eq_false_iff_ne.2 (by omega)
        by_cases h5 : (m : Int) % T = t
        · have h5b : ((m : Int) % T == t) = true := beq_iff_eq.2 h5
          obtain ⟨r1, r2, r3, r4, r5⟩ := HR.out.open_same HI.out HI'.out m hid0 hl1 hl2 (how.trans h5)
          have hI2' := Lib.hid (HI'.out.opn m)
          have hw' := HI'.out.wf (by omega)
          have HR2 := Lib.hid r3
          have HL4 : Hid ((rOpen T quo F' L' last' m).last ≤ 2 * m + 1) := Lib.hid (by omega)
          have HL5 : Hid ((rOpen T quo F L last m).last ≤ 2 * m + 1) := Lib.hid (by omega)
          have HRR := Lib.hid (And.intro r1 r2)
          clear r1 r2 r3 r4 r5 hid hid0 hl1 hl2 how h5 S7
          generalize hO : rOpen T quo F L last m = O at *
          obtain ⟨OF, OL, Ola, Oid, Oer⟩ := O
          simp only at hop hI2 HR2 HL5 HRR
          go_wp2_with fail
          (with_reducible refine (hop).mono ?_); rintro e w1 ⟨rfl, S8⟩
          clear hop d0 d1 d2
          have S9 := S8.re [2, 1, 0, 3]
          have d0 := S9.swap.cell 0
          have d1 := S9.swap.cell 1
          have o0 := (S9.re [3, 0, 1, 2]).cell 0
          have hop := rg_open S9 hw' HT.out m
          rw [HRR.out.1, HRR.out.2] at hop
          generalize hO' : rOpen T quo F' L' last' m = O' at *
          obtain ⟨PF, PL, Pla, Pid, Per⟩ := O'
          simp only at hop hI2' HR2 HL4
          have z1 : (Oid != Oid) = false := by simp
          have z2 : (Oer != Oer) = false := by simp
          clear S8 S9 hw' hO hO'
          go_wp2_with fail
          (with_reducible refine (hop).mono ?_); rintro e w1 ⟨rfl, S8⟩
          clear hop d0 d1 o0
          have HS := Lib.hid (S8.re [2, 0, 3, 1])
          clear S8
          go_wp2_with fail
          go_roundw
          case rel => exact ⟨k + 1, m, OF, OL, Ola, PF, PL, Pla, by omega, by go_num, rfl, by omega, by omega, hI2.out, hI2'.out, HR2.out, .inr HL5.out, .inr HL4.out, HS.out.dropAt3⟩
          case measure => simp [intOf]; omega
        · have h5b : ((m : Int) % T == t) = false := beq_eq_false_iff_ne.2 h5
          obtain ⟨r3, r5⟩ := HR.out.open_other HI.out m hid0 hl1 (by rw [how]; exact h5)
          have HR2 := Lib.hid r3
          have HL5 : Hid ((rOpen T quo F L last m).last ≤ 2 * m + 1) := Lib.hid (by omega)
          have HL4 : Hid (last' ≤ 0 ∨ last' ≤ 2 * (m : Int) + 1) := Lib.hid (by have := HLA.out.2; omega)
          clear r3 r5 hid hid0 hl1 hl2 how h5 S7
          generalize hO : rOpen T quo F L last m = O at *
          obtain ⟨OF, OL, Ola, Oid, Oer⟩ := O
          simp only at hop hI2 HR2 HL5
          clear hO
          go_wp2_with fail
          (with_reducible refine (hop).mono ?_); rintro e w1 ⟨rfl, S8⟩
          clear hop d0 d1 d2
          have S9 := S8.re [2, 1, 0, 3]
          have d0 := S9.swap.cell 0
          have d1 := S9.swap.cell 1
          have o0 := (S9.re [3, 0, 1, 2]).cell 0
          have HS := Lib.hid (S8.re [0, 2, 3, 1])
          clear S8 S9
          go_wp2_with fail
          go_roundw
          case rel => exact ⟨k + 1, m, OF, OL, Ola, F', L', last', by omega, by go_num, rfl, by omega, by omega, hI2.out, HI'.out.mono (by omega), HR2.out, .inr HL5.out, HL4.out, HS.out.dropAt3⟩
          case measure => simp [intOf]; omega
      have h1b : (ok == 1) = false := beq_eq_false_iff_ne.2 h1
      by_cases h3 : ok = 3
      · subst h3
        go_wp2_with fail
        (with_reducible refine (law_awake (S7) HT.out).mono ?_); rintro e w9 ⟨rfl, S9⟩; go_wp2_with fail; exact hK.out _ _ ⟨rfl, S9.above Gnd.le.rfl'⟩
      have h3b : (ok == 3) = false := beq_eq_false_iff_ne.2 h3
      have how := fun W => rg_owner0 on T W
      have o0 := (S7.re [3, 0, 1, 2]).cell 0
      by_cases h2 : ok = 2
      · subst h2
        cases hok : ownR on T with
        | false =>
          rw [hok] at how
          have HS := Lib.hid (S7.re [1, 2, 3, 0])
          clear S7
          go_wp2_with fail
          (with_reducible refine ((how _)).mono ?_); rintro e w1 ⟨rfl, rfl⟩
          go_wp2_with fail
          go_roundw
          case rel => exact ⟨k + 1, n, F, L, last, F', L', last', by omega, by go_num, rfl, hn1, hn2, HI.out.mono (by omega), HI'.out.mono (by omega), HR.out, HLA.out.1, HLA.out.2, HS.out.dropAt3⟩
          case measure => simp [intOf]; omega
        | true =>
          rw [hok] at how
          have hd := rg_do S7.swap (HI.out.wf (by omega)) HI.out.rise HT.out (HI.out.cnt' (by omega)) on oe
          have hI2 := Lib.hid (HI.out.doI on oe)
          by_cases h5 : ownT on T = t
          · have h5b : (ownT on T != t) = false := by simp [h5]
            obtain ⟨r1, r2, r3, r4⟩ := HR.out.do_same HI.out HI'.out on oe h5 (by omega) (by omega)
            have hI2' := Lib.hid (HI'.out.doI on oe)
            have hcall := fun (W : World) (l : List Asrt) (S : Sat (Gnd.of w) W (rgA h T quo F' L' last' :: l)) => rg_do S (HI'.out.wf (by omega)) HI'.out.rise HT.out (HI'.out.cnt' (by omega)) on oe
            rw [r1, r2, r3] at hcall
            have HR2 := Lib.hid r4
            clear r1 r2 r3 r4
            generalize gDo T F L on oe = O at *
            obtain ⟨OF, OL, Oer, Ocd, Ocn⟩ := O
            generalize gDo T F' L' on oe = P at *
            obtain ⟨PF, PL, Per, Pcd, Pcn⟩ := P
            simp only at hd hI2 hI2' HR2 hcall
            clear S7 h5
            go_wp2_with fail
            (with_reducible refine ((how _)).mono ?_); rintro e w1 ⟨rfl, rfl⟩
            go_wp2_with fail
            (with_reducible refine (hd).mono ?_); rintro e w1 ⟨rfl, S8⟩
            clear hd d0 d1 d2 o0
            have S9 := S8.newBlk #[.int .i64 Ocd, .bool Ocn] 41
            go_upto_region 23 with fail
            generalize w1.heap.size = y1 at *
            refine wp_world S9 fun w2 S10 => ?_
            clear S8 S9
            have S11 := S10.re [3, 0, 1, 2, 4]
            have d0 := (S11.re [3, 0, 1, 2]).cell 0
            have d1 := (S11.re [3, 0, 1, 2]).cell 1
            have d2 := (S11.re [3, 0, 1, 2]).cell 2
            have hd := hcall _ _ S11
            clear S10 S11 hcall
            go_wp2_with fail
            (with_reducible refine (hd).mono ?_); rintro e w1 ⟨rfl, S8⟩
            clear hd d0 d1 d2
            have S9 := S8.newBlk #[.int .i64 Ocd, .bool Ocn] 41
            go_upto_region 25 with fail
            refine wp_world S9 fun w3 S10 => ?_
            clear S9 S8
            generalize w1.heap.size = y2 at *
            have d0 := S10.cell 0
            have d1 := S10.cell 1
            have f0 := (S10.re [2, 0, 1]).cell 0
            have f1 := (S10.re [2, 0, 1]).cell 1
            have z1 : (Oer != Oer) = false := by simp
            have z2 : (Ocd == Ocd) = true := by simp
            have z3 : (Ocn == Ocn) = true := by simp
            have HS := Lib.hid (S10.re [3, 1, 5, 0, 2, 4])
            clear S10
            go_wp2_with fail
            go_roundw
            case rel => exact ⟨k + 1, n, OF, OL, last, PF, PL, last', by omega, by go_num, rfl, hn1, hn2, hI2.out, hI2'.out, HR2.out, HLA.out.1, HLA.out.2, HS.out.dropAt3.dropAt3.dropAt3⟩
            case measure => simp [intOf]; omega
          · have h5b : (ownT on T != t) = true := by simp [h5]
            have HR2 := Lib.hid (HR.out.do_other HI.out on oe h5)
            generalize gDo T F L on oe = O at *
            obtain ⟨OF, OL, Oer, Ocd, Ocn⟩ := O
            simp only at hd hI2 HR2
            clear S7 h5
            go_wp2_with fail
            (with_reducible refine ((how _)).mono ?_); rintro e w1 ⟨rfl, rfl⟩
            go_wp2_with fail
            (with_reducible refine (hd).mono ?_); rintro e w1 ⟨rfl, S8⟩
            clear hd d0 d1 d2 o0
            have S9 := S8.newBlk #[.int .i64 Ocd, .bool Ocn] 41
            go_upto_region 23 with fail
            refine wp_world S9 fun w2 S10 => ?_
            clear S8 S9
            have HS := Lib.hid (S10.re [1, 3, 4, 0, 2])
            clear S10
            go_wp2_with fail
            go_roundw
            case rel => exact ⟨k + 1, n, OF, OL, last, F', L', last', by omega, by go_num, rfl, hn1, hn2, hI2.out, HI'.out.mono (by omega), HR2.out, HLA.out.1, HLA.out.2, HS.out.dropAt3.dropAt3⟩
            case measure => simp [intOf]; omega
      · have h2b : (ok != 2) = true := by simp [h2]
        have HS := Lib.hid (S7.re [1, 2, 3, 0])
        clear S7
        go_wp2_with fail
        (with_reducible refine ((how _)).mono ?_); rintro e w1 ⟨rfl, rfl⟩
        go_wp2_with fail
        go_roundw
        case rel => exact ⟨k + 1, n, F, L, last, F', L', last', by omega, by go_num, rfl, hn1, hn2, HI.out.mono (by omega), HI'.out.mono (by omega), HR.out, HLA.out.1, HLA.out.2, HS.out.dropAt3⟩
        case measure => simp [intOf]; omega
    · obtain rfl : k = N := by omega
      have HS := Lib.hid S5
      have hv1 := rg_live S5 HI.out.len t
      have hv2 := rg_live S5.swap HI'.out.len t
      rw [HR.out.liv] at hv2
      have z : (liveAt L t == liveAt L t) = true := beq_self_eq_true _
      clear S5
      go_wp2_with fail
      (with_reducible refine (hv1).mono ?_); rintro e w1 ⟨rfl, rfl⟩
      go_wp2_with fail
      (with_reducible refine (hv2).mono ?_); rintro e w1 ⟨rfl, rfl⟩
      go_wp2_with fail
      (with_reducible refine (law_awake (HS.out) HT.out).mono ?_); rintro e w9 ⟨rfl, S9⟩; go_wp2_with fail; exact hK.out _ _ ⟨rfl, S9.above Gnd.le.rfl'⟩
end Go.Proofs.YtecnddhfjjnbkaaDoor
