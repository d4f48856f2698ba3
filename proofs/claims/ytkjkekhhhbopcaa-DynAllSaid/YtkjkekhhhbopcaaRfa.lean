/- The reference's Add: the walk. -/
import Derived.Test.YtkjkekhhhbopcaaRfq
set_option linter.unusedSimpArgs false
set_option linter.unusedVariables false
namespace Go.Proofs.Ytkjkekhhhbopcaa
open Go.RowKit

theorem info_ri : (Try.prog.info? 47).map (fun i => (i.zero, i.size, i.bytes)) = some (some (.agg #[.string { data := #[] }, .string { data := #[] }]), 2, 32) := by kernel_rfl
theorem rf_one {W : World} {q : Nat} {x : Fd} (h : ∀ j u, (fenc x)[j]? = some u → W.cell? ⟨q, j, none⟩ = some u) : RF W.cell? (.slice (some ⟨q, 0, none⟩) 1 1) [x] := ⟨_, _, rfl, Nat.le_refl _, by omega, (fun e => by cases e), fun i y hy => ⟨q, 0, rfl, fun j u hj => by
  have hi := (List.getElem?_eq_some_iff.1 hy).1
  simp only [List.length_cons, List.length_nil] at hi
  obtain rfl : i = 0 := by omega
  simp at hy
  subst hy
  rw [show 0 + 0 * 2 + j = j by omega]
  exact h j u hj⟩⟩
section
variable {G : Gnd} {w w' : World} {l : List Asrt}
/-- append of a field to fields of one's own. -/
theorem st_app1 {ops : Array Oper} {rest : List Oper} {o : Oper} {a : Act} {Q : Exit → Act → World → Prop} {v : Value} {n : Nat} {xs : List Value} (S : Sat G w (ownS 47 2 v n xs :: l)) (hgd : o.guard = none) (s y : Operand)
    (ho : o.op = .call { callee := .builtin .append, args := #[s, y], argTypes := #[34, 34] }) (hs : a.eval s = v) (x : Fd)
    {q : Nat} (hx : a.eval y = .slice (some ⟨q, 0, none⟩) 1 1) (hb : ∀ j u, (fenc x)[j]? = some u → w.cell? ⟨q, j, none⟩ = some u) (hm : n + 1 ≤ 100000)
    (h : ∀ v' w', Sat G w' (ownS 47 2 v' (n + 1) (xs ++ fenc x) :: l) → wpList Try.prog ops Q rest (a.put o.dst v') w') : wpList Try.prog ops Q (o :: rest) a w :=
  st_append hgd s y 34 ho 47 (.agg #[.string { data := #[] }, .string { data := #[] }]) 2 32 Try.underlying34 info_ri rfl (by omega) v n xs hs S ⟨q, 0, none⟩ 1 1 (fenc x) hx (fd_len x) (fun j u hj => by
    have ea : (⟨q, 0, none⟩ : Addr).add j = ⟨q, j, none⟩ := by unfold Addr.add; split <;> simp_all
    rw [ea]; exact hb j u hj) (by simp [fenc, Value.oneCell']) (Nat.le_trans hm (by decide)) (by omega) h
set_option maxHeartbeats 8000000 in
theorem ref_add {v : Value} {F : List Fd} (H : Sat G w l) (hv : RF (cellR G.ro) v F.reverse) (lim : Int) (hl0 : 0 ≤ lim) (hl1 : lim ≤ 65536) (x : Fd) (hsz : fsz F ≤ 65536) (hfl : F.length ≤ 4000) (h1 : x.1.length ≤ 140737488355328) (h2 : x.2.length ≤ 140737488355328) :
    Calls Try.prog 26 #[v, .int .i64 lim, .agg #[.string (bstr x.1), .string (bstr x.2)]] w fun e w' => ∃ u G', G.le G' ∧ e = .returned u ∧ RF (cellR G'.ro) u (addF lim F x).reverse ∧ Sat G' w' l := by
  refine calls_any fun K hK => ?_
  have hx1 : x.1.length + x.2.length + 32 = fsz1 x := rfl
  obtain ⟨sx, hsx⟩ : ∃ sx, sx = fsz1 x := ⟨_, rfl⟩
  obtain ⟨K0, hK0⟩ : ∃ K0, K0 = (shrF (lim - fsz1 x) F).2 := ⟨_, rfl⟩
  have hF1 : (shrF (lim - fsz1 x) F).1 = F.drop K0 := by rw [shrF_drop, ← hK0]
  have HADD : Hid (addF lim F x = F.drop K0 ++ (if (sx : Int) ≤ lim then [x] else [])) := Lib.hid (by rw [hsx, ← hF1]; rfl)
  have HALL := Lib.hid fun (h : lim - (fsz1 x : Int) < 0) => (by rw [← hF1, shrF_all h] : F.drop K0 = [])
  rw [← hsx] at hK0 HALL
  have HGO := Lib.hid fun k (h : k < K0) => shrF_lt (most := lim - (sx : Int)) (F := F) (hK0 ▸ h)
  have HEND := Lib.hid (hK0 ▸ shrF_end (lim - (sx : Int)) F)
  have hkl : K0 ≤ F.length := by have := shrF_len (lim - (sx : Int)) F; omega
  have HB : Hid (∀ k, fsz (F.drop k) ≤ 65536) := Lib.hid fun k => by
    have : fsz F = fsz (F.take k) + fsz (F.drop k) := by rw [← fsz_append, List.take_append_drop]
    omega
  have hsb : sx ≤ 1000000000000000 := by omega
  have S1 := (H.newBlk #[.string (bstr x.1), .string (bstr x.2)] 47).newBlk #[.string (bstr x.1), .string (bstr x.2)] 47
  simp only [World.size_alloc] at S1
  clear hK0 hF1
  obtain ⟨A, c, rfl, hlc, hc, h0⟩ := id hv
  clear h0
  rw [List.length_reverse] at hlc hv ⊢
  have HV := Lib.hid hv
  have HSX := Lib.hid hsx
  clear hv hsx hx1 hsz H
  go_enter Try.func26, Try.ntmps26
  go_wp2_with fail
  generalize hq : w.heap.size + 1 = q at *
  generalize hr : w.heap.size = r at *
  clear hq hr
  have hr1 : Hid (∀ W, Sat G W (blk q #[.string (bstr x.1), .string (bstr x.2)] 47 :: blk r #[.string (bstr x.1), .string (bstr x.2)] 47 :: l) → Calls Try.prog 29 #[.slice (some ⟨q, 0, none⟩) 1 1] W fun e w' => e = .returned (.int .i64 sx) ∧ ∃ n, w' = W.drewN n) := Lib.hid fun W S => by
    have := ref_size (w := W) (v := .slice (some ⟨q, 0, none⟩) 1 1) (L := [x]) (rf_one fun j u hj => by rw [S.cell j]; simpa [fenc] using hj) (by rw [fsz_cons, fsz_nil, ← HSX.out]; omega)
    rw [fsz_cons, fsz_nil, Nat.add_zero, ← HSX.out] at this
    exact this
  go_loopw [0] (fun u wr => ∃ k m : Nat, k ≤ K0 ∧ m + k = F.length ∧ u = .slice A m c ∧ RF (cellR G.ro) u (F.drop k).reverse ∧ Sat G wr (blk q #[.string (bstr x.1), .string (bstr x.2)] 47 :: blk r #[.string (bstr x.1), .string (bstr x.2)] 47 :: l)) (fun u _ => match u with | .slice _ m _ => m | _ => 0)
  case atStart => exact ⟨0, F.length, Nat.zero_le _, rfl, rfl, by simpa using HV.out, S1⟩
  case round =>
    obtain ⟨k, m, hk, hm, rfl, hrf, S⟩ := hrel
    have hsize := ref_size (hrf.sat S) (by rw [fsz_rev]; have := HB.out k; omega)
    rw [fsz_rev] at hsize
    have hsb2 := HB.out k
    by_cases hlt : k < K0
    · obtain ⟨hk1, hk2⟩ := HGO.out k hlt
      obtain ⟨m, rfl⟩ : ∃ m', m = m' + 1 := ⟨m - 1, by omega⟩
      have hrc := hrf.cut (k := m) (by omega)
      rw [rev_cut hm] at hrc
      obtain ⟨g, o, rfl⟩ : ∃ g o, A = some ⟨g, o, none⟩ := by
        obtain ⟨A', c', e, -, -, -, hel⟩ := hrf
        obtain ⟨e1, e2, e3⟩ := Value.slice.inj e
        subst e1
        have hl0 : 0 < (F.drop k).reverse.length := by rw [List.length_reverse, List.length_drop]; omega
        obtain ⟨g, o, e, -⟩ := hel 0 _ (List.getElem?_eq_getElem hl0)
        exact ⟨g, o, e⟩
      have hmc : m ≤ c := by omega
      have HR := Lib.hid hrc
      generalize fsz (F.drop k) = s at *
      have hgt : lim < (s : Int) + (sx : Int) := by omega
      have hws : IntKind.i64.wrap ((s : Int) + (sx : Int)) = (s : Int) + (sx : Int) := IntWalk.i64_in _ (by omega)
      have hwm : IntKind.i64.wrap (((m + 1 : Nat) : Int) - 1) = (m : Int) := by rw [IntWalk.i64_in _ (by omega)]; omega
      have hmp : (0 : Int) < ((m + 1 : Nat) : Int) := by omega
      clear hrf hrc hk2 HV
      have HM := Lib.hid hm
      have HS := Lib.hid S
      clear hm S hlc S1
      obtain ⟨m1, hm1⟩ : ∃ m1, m1 = m + 1 := ⟨_, rfl⟩
      rw [← hm1] at hwm hmp hsize ⊢
      have hmm : m ≤ m1 := by omega
      have HM1 := Lib.hid hm1
      clear hm1
      go_wp2_with fail
      (with_reducible refine hsize.mono ?_)
      clear hsize
      rintro e w1 ⟨rfl, n1, rfl⟩
      go_wp2_with fail
      (with_reducible refine (hr1.out _ (HS.out.drewQ n1)).mono ?_)
      rintro e w1 ⟨rfl, n2, rfl⟩
      go_wp2_with fail
      go_roundw
      case rel => exact ⟨k + 1, m, by omega, by have := HM.out; omega, rfl, HR.out, HS.out.drewQ (n1 + n2)⟩
      case measure => simp; have := HM1.out; omega
    · obtain rfl : k = K0 := by omega
      have HR := Lib.hid hrf
      have HS := Lib.hid S
      clear hrf S HV S1
      by_cases hm0 : m = 0
      · subst hm0
        clear hsize hsb2
        go_wp2_with fail
        (with_reducible refine (hr1.out _ (HS.out)).mono ?_)
        rintro e w1 ⟨rfl, n3, rfl⟩
        by_cases hfit : (sx : Int) ≤ lim
        · have hem := HADD.out
          rw [if_pos hfit] at hem
          rw [hem, List.reverse_append] at hK
          obtain ⟨L, hL⟩ : ∃ L, L = (F.drop k).reverse := ⟨_, rfl⟩
          have hLl : L.length = 0 := by rw [hL, List.length_reverse, List.length_drop]; omega
          rw [← hL] at HR hK
          have HLL := Lib.hid hLl
          have hmb : 0 ≤ 4000 := by omega
          clear hem hL hLl HADD HALL HGO HEND HB
          go_upto_region 7 with fail
          refine wp_world (HS.out.drewQ n3) fun w3 S3 => ?_
          have S4 := ((S3.ownNil 47 2).newBlk #[.string (bstr x.1), .string (bstr x.2)] 47).swap
          have hb : ∀ j u, (fenc x)[j]? = some u → (w3.alloc (.cells #[.string (bstr x.1), .string (bstr x.2)] 47)).cell? ⟨w3.heap.size, j, none⟩ = some u := fun j u hj => by rw [S4.swap.cell j]; simpa [fenc] using hj
          have d0 := S3.swap.cell 0
          have d1 := S3.swap.cell 1
          clear S3
          go_wp2_with (at_builtin; refine st_app1 S4 rfl _ _ rfl rfl x rfl hb (by decide) ?_; clear S4 hb d0 d1; intro v1 w4 S5)
          have S6 := (S5.re [1, 2, 3, 0]).drop.drop.drop
          clear S5
          go_loopw [8, 9] (fun u i wr => ∃ j : Nat, j ≤ 0 ∧ i = .int .i64 j ∧ Sat G wr (ownS 47 2 u (j + 1) (encs fenc (x :: L.take j)) :: l)) (fun _ i _ => 0 - (intOf i).toNat)
          case atStart => exact ⟨0, Nat.zero_le _, rfl, by simpa [encs] using S6⟩
          case round =>
            obtain ⟨j, hj, rfl, S7⟩ := hrel
            clear S6
            refine wp_world S7 fun w7 S7 => ?_
            by_cases hjl : j < 0
            · exact absurd hjl (Nat.not_lt_zero _)
            · have hLt : L.take j = L := List.take_of_length_le (by rw [HLL.out]; omega)
              have hjj : j + 1 = (x :: L).length := by rw [List.length_cons, HLL.out]; omega
              rw [hLt, hjj] at S7
              have HS7 := Lib.hid (Sat.rf (L := x :: L) S7)
              clear S7 hLt hjj
              go_wp2_with fail
              obtain ⟨G', hG, S8, hrf⟩ := HS7.out
              exact hK.out _ _ ⟨_, G', hG, rfl, hrf, S8⟩
        · have hem := HADD.out
          rw [if_neg hfit, List.append_nil, HALL.out (by have := HSX.out; omega)] at hem
          rw [hem] at hK
          clear hem HADD HALL HGO HEND HB
          go_wp2_with fail
          exact hK.out _ _ ⟨_, G, Gnd.le.rfl', rfl, RF.nil _, (HS.out.drewQ n3).drop.drop⟩
      · have hle : (fsz (F.drop k) : Int) ≤ lim - sx := by rcases HEND.out with h | h; exact absurd h (by omega); exact h
        generalize hs : fsz (F.drop k) = s at *
        have hgt : ¬ (lim < (s : Int) + (sx : Int)) := by omega
        have hws : IntKind.i64.wrap ((s : Int) + (sx : Int)) = (s : Int) + (sx : Int) := IntWalk.i64_in _ (by omega)
        have hmp : (0 : Int) < (m : Int) := by omega
        clear hle hs
        go_wp2_with fail
        (with_reducible refine hsize.mono ?_)
        clear hsize
        rintro e w1 ⟨rfl, n1, rfl⟩
        go_wp2_with fail
        (with_reducible refine (hr1.out _ (HS.out.drewQ n1)).mono ?_)
        rintro e w1 ⟨rfl, n2, rfl⟩
        go_wp2_with fail
        (with_reducible refine (hr1.out _ (HS.out.drewQ (n1 + n2))).mono ?_)
        rintro e w1 ⟨rfl, n3, rfl⟩
        by_cases hfit : (sx : Int) ≤ lim
        · have hem := HADD.out
          rw [if_pos hfit] at hem
          rw [hem, List.reverse_append] at hK
          obtain ⟨L, hL⟩ : ∃ L, L = (F.drop k).reverse := ⟨_, rfl⟩
          have hLl : L.length = m := by rw [hL, List.length_reverse, List.length_drop]; omega
          rw [← hL] at HR hK
          have HLL := Lib.hid hLl
          have hmb : m ≤ 4000 := by omega
          clear hem hL hLl HADD HALL HGO HEND HB
          go_upto_region 7 with fail
          refine wp_world (HS.out.drewQ (n1 + n2 + n3)) fun w3 S3 => ?_
          have S4 := ((S3.ownNil 47 2).newBlk #[.string (bstr x.1), .string (bstr x.2)] 47).swap
          have hb : ∀ j u, (fenc x)[j]? = some u → (w3.alloc (.cells #[.string (bstr x.1), .string (bstr x.2)] 47)).cell? ⟨w3.heap.size, j, none⟩ = some u := fun j u hj => by rw [S4.swap.cell j]; simpa [fenc] using hj
          have d0 := S3.swap.cell 0
          have d1 := S3.swap.cell 1
          clear S3
          go_wp2_with (at_builtin; refine st_app1 S4 rfl _ _ rfl rfl x rfl hb (by decide) ?_; clear S4 hb d0 d1; intro v1 w4 S5)
          have S6 := (S5.re [1, 2, 3, 0]).drop.drop.drop
          clear S5
          go_loopw [8, 9] (fun u i wr => ∃ j : Nat, j ≤ m ∧ i = .int .i64 j ∧ Sat G wr (ownS 47 2 u (j + 1) (encs fenc (x :: L.take j)) :: l)) (fun _ i _ => m - (intOf i).toNat)
          case atStart => exact ⟨0, Nat.zero_le _, rfl, by simpa [encs] using S6⟩
          case round =>
            obtain ⟨j, hj, rfl, S7⟩ := hrel
            clear S6
            refine wp_world S7 fun w7 S7 => ?_
            by_cases hjl : j < m
            · have hy := List.getElem?_eq_getElem (l := L) (i := j) (by rw [HLL.out]; exact hjl)
              have htk := take_snoc' hy
              obtain ⟨A', c', e, -, -, -, hel⟩ := HR.out
              obtain ⟨e1, e2, e3⟩ := Value.slice.inj e
              subst e1
              obtain ⟨g, o, rfl, hcl⟩ := hel j _ hy
              have d0 : w7.cell? ⟨g, o + j * 2, none⟩ = _ := S7.cellR (hcl 0 _ rfl)
              have d1 : w7.cell? ⟨g, o + j * 2 + 1, none⟩ = _ := S7.cellR (hcl 1 _ rfl)
              generalize L[j]'(by rw [HLL.out]; exact hjl) = y at *
              have S8 := (S7.newBlk #[.string (bstr y.1), .string (bstr y.2)] 47).swap
              have hb : ∀ j u, (fenc y)[j]? = some u → (w7.alloc (.cells #[.string (bstr y.1), .string (bstr y.2)] 47)).cell? ⟨w7.heap.size, j, none⟩ = some u := fun j u hj => by rw [S8.swap.cell j]; simpa [fenc] using hj
              have HTK := Lib.hid htk
              clear htk hy hel hcl e S7 e3 e2
              go_wp2_with (at_builtin; refine st_app1 S8 rfl _ _ rfl rfl y rfl hb (by omega) ?_; clear S8 hb d0 d1; intro v2 w8 S9)
              have S10 := S9.drop2
              clear S9
              go_roundw
              case rel =>
                refine ⟨j + 1, by omega, by go_num, ?_⟩
                rw [HTK.out, ← List.cons_append, encs_append]
                simpa [encs] using S10
              case measure => simp [intOf]; omega
            · have hLt : L.take j = L := List.take_of_length_le (by rw [HLL.out]; omega)
              have hjj : j + 1 = (x :: L).length := by rw [List.length_cons, HLL.out]; omega
              rw [hLt, hjj] at S7
              have HS7 := Lib.hid (Sat.rf (L := x :: L) S7)
              clear S7 hLt hjj
              go_wp2_with fail
              obtain ⟨G', hG, S8, hrf⟩ := HS7.out
              exact hK.out _ _ ⟨_, G', hG, rfl, hrf, S8⟩
        · have hem := HADD.out
          rw [if_neg hfit, List.append_nil, HALL.out (by have := HSX.out; omega)] at hem
          rw [hem] at hK
          clear hem HADD HALL HGO HEND HB
          go_wp2_with fail
          exact hK.out _ _ ⟨_, G, Gnd.le.rfl', rfl, RF.nil _, (HS.out.drewQ (n1 + n2 + n3)).drop.drop⟩
end
end Go.Proofs.Ytkjkekhhhbopcaa
