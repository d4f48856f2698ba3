/- The reference's Cut, Drop: the walks. -/
import Derived.Test.YtidaafpfkbfiaaaRefp
set_option linter.unusedSimpArgs false
set_option linter.unusedVariables false
namespace Go.Proofs.Ytidaafpfkbfiaaa
open Go.RowKit

def anyN (num : Int) (L : List It) : Bool := L.any fun x => x.1 == num
theorem dropL_snoc (num : Int) (x : It) : ∀ P : List It, dropL num (P ++ [x]) = if (!anyN num P && (x.1 == num)) = true then dropL num P else dropL num P ++ [x]
  | [] => by simp [dropL, anyN]
  | y :: P => by
    have ih := dropL_snoc num x P
    rw [List.cons_append, dropL, dropL]
    by_cases h : (y.1 == num) = true
    · rw [if_pos h, if_pos h]
      have : anyN num (y :: P) = true := by simp [anyN] at h ⊢; simp [h]
      rw [this]; simp
    · rw [if_neg h, if_neg h, ih]
      have : anyN num (y :: P) = anyN num P := by simp [anyN] at h ⊢; simp [h]
      rw [this]
      split <;> simp
theorem anyN_snoc (num : Int) (x : It) (P : List It) : anyN num (P ++ [x]) = (anyN num P || (x.1 == num)) := by simp [anyN]
section
variable {G : Gnd} {w w' : World} {l : List Asrt}
set_option maxHeartbeats 4000000 in
theorem ref_drop (H : Sat G w l) {v : Value} {L : List It} (hv : RL (cellR G.ro) v L) (num : Int) (hL : L.length ≤ 5000) :
    Calls Try.prog 27 #[v, .int .i64 num] w fun e w' => ∃ u G', G.le G' ∧ e = .returned u ∧ RL (cellR G'.ro) u (dropL num L) ∧ Sat G' w' l := by
  refine calls_any fun K hK => ?_
  obtain ⟨A, c, rfl, hlc, hc, h0, hel⟩ := hv
  have HEL := Lib.hid hel
  have S0 := H.ownNil 31 3
  have HDL := Lib.hid fun k => (dropL_le num (L.take k)).2
  clear hel h0 H
  go_enter Try.func27, Try.ntmps27
  go_wp2_with fail
  go_loopw [5, 6, 7] (fun u d i wr => ∃ k : Nat, k ≤ L.length ∧ i = .int .i64 k ∧ d = .bool (anyN num (L.take k)) ∧ Sat G wr (ownS 31 3 u (dropL num (L.take k)).length (encs renc (dropL num (L.take k))) :: l)) (fun _ _ i _ => L.length - (intOf i).toNat)
  case atStart => exact ⟨0, Nat.zero_le _, rfl, rfl, S0⟩
  case round =>
    obtain ⟨k, hk, rfl, rfl, S⟩ := hrel
    clear S0
    by_cases hlt : k < L.length
    · have hx := List.getElem?_eq_getElem hlt
      obtain ⟨g, o, rfl, hcl⟩ := HEL.out k _ hx
      have hsn := dropL_snoc num L[k] (L.take k)
      have han := anyN_snoc num L[k] (L.take k)
      rw [← take_snoc hx] at hsn han
      have hdl := HDL.out k
      rw [List.length_take, Nat.min_eq_left hk] at hdl
      generalize L[k] = x at *
      obtain ⟨xn, h, b⟩ := x
      have d0 := S.cellR (hcl 0 _ rfl)
      have d1 := S.cellR (hcl 1 _ rfl)
      have d2 := S.cellR (hcl 2 _ rfl)
      rw [Nat.add_zero] at d0
      simp only at hsn han
      have HSN := Lib.hid hsn
      have HAN := Lib.hid han
      obtain ⟨M, hM⟩ : ∃ M, M = dropL num (L.take k) := ⟨_, rfl⟩
      rw [← hM] at S hdl
      have HM := Lib.hid hM
      have hb1 : M.length + 1 ≤ 100000 := by omega
      clear hcl hx hsn han hM
      have S6 := S.alloc (.cells (renc (xn, h, b)).toArray 31)
      have hv3 := rl_new (xn, h, b) wr _ rfl
      change RL (wr.alloc (.cells #[.int .i64 xn, .string (bstr h), .string (bstr b)] 31)).cell? _ _ at hv3
      have HS := Lib.hid S
      clear S
      cases ha : anyN num (L.take k) with
      | true =>
        go_wp2_with (at_builtin; refine st_appL S6 rfl _ _ rfl rfl rfl hv3 hb1 ?_; clear S6 hv3; intro v2 w5 S7)
        go_roundw
        case rel => exact ⟨k + 1, by omega, by go_num, by rw [HAN.out, ha]; rfl, by
          rw [HSN.out, ha, if_neg (by simp), ← HM.out, encs_append, List.length_append]; exact S7⟩
        case measure => simp [intOf]; omega
      | false =>
        cases hb : (xn == num) with
        | true =>
          clear S6 hv3
          go_wp2_with fail
          go_roundw
          case rel => exact ⟨k + 1, by omega, by go_num, by rw [HAN.out, ha, hb]; rfl, by
            rw [HSN.out, ha, hb, if_pos (by simp), ← HM.out]; exact HS.out⟩
          case measure => simp [intOf]; omega
        | false =>
          go_wp2_with (at_builtin; refine st_appL S6 rfl _ _ rfl rfl rfl hv3 hb1 ?_; clear S6 hv3; intro v2 w5 S7)
          go_roundw
          case rel => exact ⟨k + 1, by omega, by go_num, by rw [HAN.out, ha, hb]; rfl, by
            rw [HSN.out, ha, hb, if_neg (by simp), ← HM.out, encs_append, List.length_append]; exact S7⟩
          case measure => simp [intOf]; omega
    · obtain rfl : k = L.length := by omega
      rw [List.take_length] at S
      obtain ⟨G', hG, S7, hr⟩ := S.rl
      have HS := Lib.hid S7
      have HR := Lib.hid hr
      clear S S7 hr
      go_wp2_with fail
      exact hK.out _ _ ⟨_, G', hG, rfl, HR.out, HS.out⟩
set_option maxHeartbeats 4000000 in
theorem ref_cut (H : Sat G w l) {v : Value} {x : It} {L : List It} (hv : RL (cellR G.ro) v (x :: L)) (n : Nat) (hn : n ≤ x.2.2.length) (hL : L.length ≤ 5000) :
    Calls Try.prog 28 #[v, .int .i64 n] w fun e w' => ∃ u G', G.le G' ∧ e = .returned u ∧ RL (cellR G'.ro) u ((x.1, x.2.1, x.2.2.drop n) :: L) ∧ Sat G' w' l := by
  refine calls_any fun K hK => ?_
  have S0 := H.ownNil 31 3
  have hv2 := hv.sat S0
  obtain ⟨xn, h, b⟩ := x
  simp only at hn hK
  have hlb : 0 + ((xn, h, b) :: L).length ≤ 100000 := by simp; omega
  obtain ⟨A, c, rfl, -, -, -⟩ := id hv
  clear hv H
  go_enter Try.func28, Try.ntmps28
  go_upto_region 3 with (at_builtin; refine st_appL S0 rfl _ _ rfl rfl rfl hv2 hlb ?_; clear S0 hv2; intro v1 w1 S1)
  rw [Nat.zero_add, List.nil_append] at S1
  obtain ⟨g, cap, cur, rfl, hcap, Li, S2⟩ := S1.layOpen re_len (by simp)
  have hc3 : cap ≤ 9223372036854775807 := hcap
  have hlc := Li.len
  have d2 := (S2.cell _).trans (Li.get (i := 0) rfl (j := 2) (by decide))
  simp only [renc, List.getElem?_cons_zero, List.getElem?_cons_succ, Nat.zero_mul, Nat.zero_add] at d2
  have f2 := S2.frozen 2
  have hdr := bstr_drop b n b.length rfl
  have z2 := bstr_size b
  have hsz : 3 ≤ cur.size := by have := Li.room (i := 0) (by simp); omega
  have S3 := S2.setCell 2 (.string (bstr (b.drop n)))
  have LL := Li.set (i := 0) (by simp) (xn, h, b.drop n)
  simp only [List.set_cons_zero, Nat.zero_mul, renc, setMid, Nat.zero_add] at LL
  have g0 : cur[0]? = some (.int .i64 xn) := Li.get (i := 0) rfl (j := 0) (by decide)
  have g1 : cur[1]? = some (.string (bstr h)) := Li.get (i := 0) rfl (j := 1) (by decide)
  rw [set_self' g0, set_self' g1] at LL
  have T := S3.layClose LL hcap ((xn, h, b.drop n) :: L).length rfl
  obtain ⟨G', hG, T2, hr⟩ := T.rl
  have HT := Lib.hid T2
  have HR := Lib.hid hr
  have hln : (n : Int) ≤ (b.length : Int) := by omega
  clear S1 S2 S3 LL g0 g1 T T2 hr Li
  generalize hbl : b.length = bl at *
  go_wp2_with fail
  exact hK.out _ _ ⟨_, G', hG, rfl, HR.out, HT.out⟩
end
end Go.Proofs.Ytidaafpfkbfiaaa
