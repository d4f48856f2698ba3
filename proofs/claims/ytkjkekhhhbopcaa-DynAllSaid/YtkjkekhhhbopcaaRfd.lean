/- The reference's Find: the walk. -/
import Derived.Test.YtkjkekhhhbopcaaFnd
set_option linter.unusedSimpArgs false
set_option linter.unusedVariables false
namespace Go.Proofs.Ytkjkekhhhbopcaa
open Go.RowKit

theorem eq_arrF (x f : Fd) (w : World) : (Op.equalIn 10000 47 (.agg #[.string (bstr x.1), .string (bstr x.2)]) (.agg #[.string (bstr f.1), .string (bstr f.2)])).run Try.prog w = .ok (decide (x = f)) w := by
  have u3 := Try.underlying9
  have a3 := Try.isAgg9
  have z3 := Try.sizeOf9
  obtain ⟨x1, x2⟩ := x
  obtain ⟨f1, f2⟩ := f
  rw [show (10000 : Nat) = 9999 + 1 from rfl, Op.equalIn]
  simp only [Sem.run_bind, run_underlying Try.underlying47, Result.andThen_ok]
  simp only [Std.Legacy.Range.forIn_eq_forIn_range', Std.Legacy.Range.size, Nat.sub_zero, Nat.add_sub_cancel, Nat.div_one, List.range'_succ, List.range'_zero, List.forIn_cons, List.forIn_nil]
  by_cases e1 : x1 = f1
  · by_cases e2 : x2 = f2
    · subst e1; subst e2
      rw [decide_eq_true rfl]
      go_simp
    · rw [decide_eq_false (by simp [e2])]
      subst e1
      have b1 : ((bstr x2).toList == (bstr f2).toList) = false := by rw [bstr_list, bstr_list]; exact beq_eq_false_iff_ne.2 e2
      go_simp
  · rw [decide_eq_false (by simp [e1])]
    have b1 : ((bstr x1).toList == (bstr f1).toList) = false := by rw [bstr_list, bstr_list]; exact beq_eq_false_iff_ne.2 e1
    go_simp
def foundAt (f : Fd) (L : List Fd) (j : Nat) : Nat := if firstAt (isN f) (L.drop j) = 0 then 0 else firstAt (isN f) (L.drop j) + j
theorem found_step {f : Fd} {L : List Fd} {j : Nat} {x : Fd} (hx : L[j]? = some x) : foundAt f L j = if isN f x then j + 1 else foundAt f L (j + 1) := by
  obtain ⟨hj, rfl⟩ := List.getElem?_eq_some_iff.1 hx
  unfold foundAt
  rw [List.drop_eq_getElem_cons hj, firstAt]
  by_cases h : isN f L[j] = true
  · simp [h]; omega
  · simp [h]
    by_cases h2 : firstAt (isN f) (L.drop (j + 1)) = 0
    · simp [h2]
    · simp [h2]; omega
theorem found_end (f : Fd) (L : List Fd) : foundAt f L L.length = 0 := by unfold foundAt; simp [firstAt]
theorem found_start (f : Fd) (L : List Fd) : foundAt f L 0 = firstAt (isN f) L := by
  unfold foundAt
  simp
  intro h; exact h.symm
section
variable {G : Gnd} {w w' : World} {l : List Asrt}
set_option maxHeartbeats 8000000 in
theorem ref_find {v : Value} {L : List Fd} (H : Sat G w l) (hv : RF (cellR G.ro) v L) (f : Fd) (hL : L.length ≤ 10000) : Calls Try.prog 22 #[v, .agg #[.string (bstr f.1), .string (bstr f.2)]] w fun e w' => e = .returned (.tuple #[.int .i64 (findR L f).1, .int .i64 (if (findR L f).2 then 1 else 0)]) ∧ Sat G w' l := by
  refine calls_any fun K hK => ?_
  obtain ⟨A, c, rfl, hlc, hc, h0, hel⟩ := hv
  have HEL := Lib.hid hel
  have S1 := H.newBlk #[.string (bstr f.1), .string (bstr f.2)] 47
  obtain ⟨nl, hnl⟩ : ∃ nl, nl = L.length := ⟨_, rfl⟩
  have HNL := Lib.hid hnl
  rw [← hnl] at hlc hL ⊢
  have HFS := Lib.hid fun j x (h : L[j]? = some x) => found_step (f := f) h
  have HFE : Hid (foundAt f L nl = 0) := Lib.hid (by rw [hnl]; exact found_end f L)
  have HF0 := Lib.hid (found_start f L)
  have hw1 : IntKind.i64.wrap ((nl : Int) - 1) = (nl : Int) - 1 := IntWalk.i64_in _ (by omega)
  clear hel h0 H hnl
  go_enter Try.func22, Try.ntmps22
  go_wp2_with fail
  generalize w.heap.size = r at *
  go_loopw [6, 7] (fun u i wr => ∃ k : Nat, k ≤ nl ∧ i = .int .i64 ((nl : Int) - 1 - k) ∧ u = .int .i64 (foundAt f L (nl - k) : Nat) ∧ Sat G wr (blk r #[.string (bstr f.1), .string (bstr f.2)] 47 :: l)) (fun _ i _ => (intOf i + 1).toNat)
  case atStart => exact ⟨0, Nat.zero_le _, by simp, by rw [Nat.sub_zero, HFE.out]; rfl, S1⟩
  case round =>
    obtain ⟨k, hk, rfl, rfl, S⟩ := hrel
    clear S1
    by_cases hlt : k < nl
    · obtain ⟨j, hj⟩ : ∃ j, j + k + 1 = nl := ⟨nl - 1 - k, by omega⟩
      have hx := List.getElem?_eq_getElem (l := L) (i := j) (by rw [← HNL.out]; omega)
      obtain ⟨g, o, rfl, hcl⟩ := HEL.out j _ hx
      have hfs := HFS.out j _ hx
      generalize L[j]'(by rw [← HNL.out]; omega) = x at *
      have d0 : wr.cell? ⟨g, o + j * 2, none⟩ = _ := S.cellR (hcl 0 _ rfl)
      have e0 := S.cell 0
      have b1 := bstr_list x.1
      have b2 := bstr_list f.1
      have hi : ((nl : Int) - 1 - k) = (j : Int) := by omega
      have hj1 : nl - k = j + 1 := by omega
      have hj2 : nl - (k + 1) = j := by omega
      rw [hi, hj1]
      rw [← hj2] at hfs
      have HFS2 := Lib.hid hfs
      have hjn : (j : Int) < nl := by omega
      have hjn2 : j < nl := by omega
      have hwj : IntKind.i64.wrap ((j : Int) - 1) = (j : Int) - 1 := IntWalk.i64_in _ (by omega)
      have hwj2 : IntKind.i64.wrap ((j : Int) + 1) = ((j + 1 : Nat) : Int) := by rw [IntWalk.i64_in _ (by omega)]; omega
      have HJ := Lib.hid hj
      have HS := Lib.hid S
      clear hcl hx S hj hi hj1 hfs
      by_cases hnm : x.1 = f.1
      · have hnm2 : (x.1 == f.1) = true := beq_iff_eq.2 hnm
        have hisn : isN f x = true := decide_eq_true hnm
        clear hnm
        go_upto_region 5 with fail
        go_quiet (fail)
        go_wp2_with fail
        go_roundw
        case rel => exact ⟨k + 1, by omega, by have := HJ.out; congr 1; omega, by rw [HFS2.out, hisn, hj2]; rfl, HS.out.drewQ _⟩
        case measure => simp [intOf]
      · have hnm2 : (x.1 == f.1) = false := beq_eq_false_iff_ne.2 hnm
        have hisn : isN f x = false := decide_eq_false hnm
        clear hnm
        go_upto_region 5 with fail
        go_quiet (fail)
        go_wp2_with fail
        go_roundw
        case rel => exact ⟨k + 1, by omega, by have := HJ.out; congr 1; omega, by rw [HFS2.out, hisn, hj2]; rfl, HS.out.drewQ _⟩
        case measure => simp [intOf]
    · have hk2 : k = nl := by omega
      have hlt0 : ¬ (0 ≤ (nl : Int) - 1 - k) := by omega
      rw [show nl - k = 0 by omega, HF0.out]
      clear hk2 hlt
      go_wp2_with fail
      go_loopw [8] (fun i wr => ∃ m : Nat, m ≤ nl ∧ i = .int .i64 m ∧ (∀ y ∈ L.take m, y ≠ f) ∧ Sat G wr (blk r #[.string (bstr f.1), .string (bstr f.2)] 47 :: l)) (fun i _ => nl - (intOf i).toNat)
      case atStart => exact ⟨0, Nat.zero_le _, rfl, by simp, S⟩
      case round =>
        obtain ⟨m, hm, rfl, hne, S2⟩ := hrel
        clear S
        by_cases hml : m < nl
        · have hx := List.getElem?_eq_getElem (l := L) (i := m) (by rw [← HNL.out]; exact hml)
          obtain ⟨g, o, rfl, hcl⟩ := HEL.out m _ hx
          have htk := take_snoc' hx
          have hsp : L.take (m + 1) ++ L.drop (m + 1) = L := List.take_append_drop _ _
          have hml2 : (L.take m).length = m := by rw [List.length_take, ← HNL.out]; omega
          generalize L[m]'(by rw [← HNL.out]; exact hml) = x at *
          have d0 := S2.cellR (hcl 0 _ rfl)
          have d1 := S2.cellR (hcl 1 _ rfl)
          rw [Nat.add_zero] at d0
          have e0 := S2.cell 0
          have e1 := S2.cell 1
          have he := eq_arrF x f
          have hmn : (m : Int) < nl := by omega
          have hwm : IntKind.i64.wrap ((m : Int) + 1) = ((m + 1 : Nat) : Int) := by rw [IntWalk.i64_in _ (by omega)]; omega
          have HS := Lib.hid S2
          by_cases hxf : x = f
          · rw [decide_eq_true hxf] at he
            have hfa : findR L f = (m + 1, true) := by
              have h1 : firstAt (isF f) L = m + 1 := by
                rw [← hsp, htk, hxf, firstAt_pre (firstAt_none hne) (by simp [isF]), hml2]
              unfold findR
              rw [if_neg (by rw [h1]; omega), h1]
            rw [hfa] at hK
            clear hcl hx S2 htk hsp hml2 hxf hne hfa
            go_upto_region 10 with fail
            go_quiet (fail)
            go_wp2_with fail
            exact hK.out _ _ ⟨rfl, (HS.out.drewQ _).drop⟩
          · rw [decide_eq_false hxf] at he
            have hne2 : Hid (∀ y ∈ L.take (m + 1), y ≠ f) := Lib.hid fun y hy => by
              rw [htk] at hy
              rcases List.mem_append.1 hy with h | h
              · exact hne y h
              · rw [List.mem_singleton.1 h]; exact hxf
            clear hcl hx S2 htk hsp hml2 hxf hne
            go_upto_region 10 with fail
            go_quiet (fail)
            go_wp2_with fail
            go_roundw
            case rel => exact ⟨m + 1, by omega, by go_num, hne2.out, HS.out.drewQ _⟩
            case measure => simp [intOf]; omega
        · have htk : L.take m = L := List.take_of_length_le (by rw [← HNL.out]; omega)
          rw [htk] at hne
          have hfa : findR L f = (firstAt (isN f) L, false) := by unfold findR; rw [if_pos (firstAt_none hne)]
          rw [hfa] at hK
          have HS := Lib.hid S2
          clear htk hne hfa S2
          go_wp2_with fail
          exact hK.out _ _ ⟨rfl, HS.out.drop⟩
end
end Go.Proofs.Ytkjkekhhhbopcaa
