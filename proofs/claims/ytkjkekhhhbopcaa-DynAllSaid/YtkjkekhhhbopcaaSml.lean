/- The walk over small. -/
import Derived.Test.YtkjkekhhhbopcaaStq
set_option linter.unusedSimpArgs false
set_option linter.unusedVariables false
namespace Go.Proofs.Ytkjkekhhhbopcaa
open Go.RowKit

def wgt (o : OpD) : Nat := 1 + (o.x.1.length + o.x.2.length) / 50
def osum (L : List OpD) : Nat := (L.map wgt).sum
theorem otake_snoc {L : List OpD} {k : Nat} {x : OpD} (h : L[k]? = some x) : L.take (k + 1) = L.take k ++ [x] := by
  rw [List.take_add_one, h]; rfl
theorem osum_take {L : List OpD} {k : Nat} {o : OpD} (h : L[k]? = some o) : osum (L.take (k + 1)) = osum (L.take k) + wgt o := by
  unfold osum
  rw [otake_snoc h, List.map_append, List.sum_append]; simp
theorem osum_le {L : List OpD} (k : Nat) : osum (L.take k) ≤ osum L := by
  unfold osum
  conv => rhs; rw [← List.take_append_drop k L, List.map_append, List.sum_append]
  omega
theorem osum_len (L : List OpD) : L.length ≤ osum L := by
  induction L with
  | nil => simp
  | cons o L ih => simp only [osum, List.map_cons, List.sum_cons, List.length_cons] at ih ⊢; unfold wgt at ih ⊢; omega
section
variable {G : Gnd} {w w' : World} {l : List Asrt}
set_option maxHeartbeats 4000000 in
theorem law_small (H : Sat G w l) (v : Value) (ops : List OpD) (hv : ROps G.ro v ops) : Calls Try.prog 15 #[v] w fun e w' => e = .returned (.bool (decide (osum ops ≤ 120))) ∧ Sat G w' l := by
  refine calls_any fun K hK => ?_
  obtain ⟨A, c, rfl, hlc, hc, hel⟩ := hv
  have HEL := Lib.hid hel
  clear hel
  have HOT := Lib.hid fun k o (h : ops[k]? = some o) => osum_take h
  have HOL := Lib.hid fun k => osum_le (L := ops) k
  go_enter Try.func15, Try.ntmps15
  go_wp2_with fail
  go_loopw [3, 8] (fun s j wr => ∃ k : Nat, k ≤ ops.length ∧ j = .int .i64 k ∧ s = .int .i64 (osum (ops.take k)) ∧ osum (ops.take k) ≤ 120 ∧ Sat G wr l) (fun _ j _ => ops.length - (intOf j).toNat)
  case atStart => exact ⟨0, Nat.zero_le _, rfl, by simp [osum], by simp [osum], H⟩
  case round =>
    obtain ⟨k, hk, rfl, rfl, hs, S⟩ := hrel
    clear H
    by_cases hlt : k < ops.length
    · have hok := List.getElem?_eq_getElem hlt
      obtain ⟨ad, bo, off, rfl, had, hcl, ho⟩ := HEL.out k _ hok
      have hot := HOT.out k _ hok
      have hol := HOL.out (k + 1)
      generalize ops[k] = o at *
      obtain ⟨ok, on, ⟨h, b⟩⟩ := o
      obtain ⟨hh, hb⟩ := ho
      simp only at hh hb
      simp only [OpD.cells, fenc] at hcl
      have d0 := S.cellR (hcl 0 _ rfl)
      have d1 := S.cellR (hcl 1 _ rfl)
      have d2 := S.cellR (hcl 2 _ rfl)
      have d3 := S.cellR (hcl 3 _ rfl)
      rw [Nat.add_zero] at d0
      have hwg : wgt ⟨ok, on, (h, b)⟩ = 1 + (h.length + b.length) / 50 := rfl
      rw [hwg] at hot
      have S2 := S.newBlk #[.int .i64 ok, .int .i64 on, .string (bstr h), .string (bstr b)] 36
      have HS2 := Lib.hid S2
      have y1 := bstr_size h
      have y2 := bstr_size b
      have hw1 : IntKind.i64.wrap ((h.length : Int) + b.length) = ((h.length + b.length : Nat) : Int) := by rw [IntWalk.i64_in _ (by omega)]; simp
      have htd : ((h.length + b.length : Nat) : Int).tdiv 50 = (((h.length + b.length) / 50 : Nat) : Int) := by rw [Int.tdiv_eq_ediv_of_nonneg (by omega)]; norm_cast
      have hdl : (h.length + b.length) / 50 ≤ 281474976710656 := by omega
      obtain ⟨s2, hs2⟩ : ∃ s2, s2 = osum (ops.take (k + 1)) := ⟨_, rfl⟩
      rw [← hs2] at hot hol
      have HSS := Lib.hid hs2
      have HOL2 := Lib.hid hol
      clear hcl S S2 hok hwg hs2 hol
      obtain ⟨q, hq⟩ : ∃ q, q = (h.length + b.length) / 50 := ⟨_, rfl⟩
      rw [← hq] at hot htd hdl
      clear hq
      obtain ⟨hb2, hhb⟩ : ∃ hb2, hb2 = h.length + b.length := ⟨_, rfl⟩
      rw [← hhb] at hw1 htd
      clear hhb
      generalize osum (ops.take k) = s at *
      have hw2 : IntKind.i64.wrap (1 + (q : Int)) = 1 + (q : Int) := IntWalk.i64_in _ (by omega)
      have hw3 : IntKind.i64.wrap ((s : Int) + (1 + (q : Int))) = (s2 : Int) := by rw [IntWalk.i64_in _ (by omega)]; omega
      clear hot
      by_cases hbig : 120 < s2
      · have hbig2 : ((s2 : Int) > 120) = True := by simp; omega
        have hdec : decide (osum ops ≤ 120) = false := decide_eq_false (by have := HOL2.out; omega)
        rw [hdec] at hK
        go_wp2_with fail
        exact hK.out _ _ ⟨rfl, HS2.out.drop⟩
      · go_wp2_with fail
        go_roundw
        case rel => exact ⟨k + 1, by omega, by go_num, by rw [← HSS.out], by rw [← HSS.out]; omega, HS2.out.drop⟩
        case measure => simp [intOf]; omega
    · obtain rfl : k = ops.length := by omega
      rw [List.take_length] at hs
      rw [decide_eq_true hs] at hK
      have HS := Lib.hid S
      clear hs S
      go_wp2_with fail
      exact hK.out _ _ ⟨rfl, HS.out⟩
end
end Go.Proofs.Ytkjkekhhhbopcaa
