/- slices.Delete at reg.one. -/
import Derived.Test.YtecnddhfjjnbkaaDoorFind
import Derived.StillTailTactics
import Derived.Room.AppendZeros
set_option linter.unusedSimpArgs false
set_option linter.unusedVariables false
namespace Go.Proofs.YtecnddhfjjnbkaaDoor
open Go.RowKit

theorem lay_del {α : Type} {enc : α → List Value} {size cap i : Nat} {cur : Array Value} {F : List α} (L : Lay enc size cap cur F) (hi : i < F.length) :
    Lay enc size cap (cur.toList.take (i * size) ++ encs enc (F.drop (i + 1)) ++ cur.toList.drop (i * size + (encs enc (F.drop (i + 1))).length)).toArray (F.take i ++ F.drop (i + 1)) := by
  have hl := L.len
  have hs : (encs enc (F.drop (i + 1))).length = (F.length - (i + 1)) * size := by rw [encs_length L.h, List.length_drop]
  have hc : F.length * size ≤ cur.size := by rw [L.all]; exact Nat.mul_le_mul_right _ hl
  have e1 : F.length * size = i * size + ((F.length - (i + 1)) * size + size) := by
    rw [← Nat.add_one_mul, ← Nat.add_mul]; congr 1; omega
  have hl1 : (cur.toList.take (i * size)).length = i * size := by rw [List.length_take]; simp; omega
  refine ⟨L.h, ?_, ?_, ?_⟩
  · rw [← L.all]
    simp only [List.size_toArray, List.length_append, hl1, hs, List.length_drop, Array.length_toList]
    omega
  · rw [List.length_append, List.length_take, List.length_drop]; omega
  · have e2 : (F.take i ++ F.drop (i + 1)).length * size = i * size + (F.length - (i + 1)) * size := by
      rw [List.length_append, List.length_take, List.length_drop, Nat.min_eq_left (by omega), Nat.add_mul]
    rw [e2, List.toList_toArray, List.take_left' (by rw [List.length_append, hl1, hs]), encs_append]
    congr 1
    rw [← encs_take L.h, ← L.at_, List.take_take, Nat.min_eq_left (by omega)]
theorem one_all (x : Ent) (u : Value) (h : u ∈ x.enc) : u.oneCell' = true := by
  simp only [Ent.enc, ints, List.mem_cons, List.mem_map] at h
  rcases h with rfl | rfl | ⟨y, -, rfl⟩ <;> rfl
section
variable {G : Gnd} {w w' : World} {l : List Asrt}
set_option maxHeartbeats 4000000 in
set_option maxRecDepth 100000 in
theorem del_one {v : Value} {F : List Ent} {i : Nat} (H : Sat G w (ownS 72 11 v F.length (encs Ent.enc F) :: l)) (hi : i < F.length) (hl : F.length ≤ 10000) :
    Calls Tryd.prog 28 #[v, .int .i64 i, .int .i64 ((i + 1 : Nat) : Int)] w fun e w' => ∃ v', e = .returned v' ∧ Sat G w' (ownS 72 11 v' (F.take i ++ F.drop (i + 1)).length (encs Ent.enc (F.take i ++ F.drop (i + 1))) :: l) := by
  refine calls_any fun K hK => ?_
  obtain ⟨g, cap, cur, rfl, hc, L, S⟩ := H.layOpen ent_len (by omega)
  have hc3 : cap ≤ 9223372036854775807 := hc
  have hlc := L.len
  obtain ⟨N, hN⟩ : ∃ N, N = F.length := ⟨_, rfl⟩
  rw [← hN] at hi hlc hl ⊢
  have HL := Lib.hid L
  have HN := Lib.hid hN
  have HCL := Lib.hid hc
  clear H L hN hc
  obtain ⟨j, hj⟩ : ∃ j, j = i + 1 := ⟨_, rfl⟩
  rw [← hj]
  have hne : (((i : Int)) == (j : Int)) = false := beq_eq_false_iff_ne.2 (by omega)
  have a1 : i ≤ cap := by omega
  have a2 : j ≤ N := by omega
  have a3 : j ≤ cap := by omega
  have a4 : (j : Int) ≤ (N : Int) := by omega
  have a5 : (i : Int) ≤ (cap : Int) := by omega
  have a6 : (N : Int) ≤ (cap : Int) := by omega
  have a7 : i ≤ j := by omega
  have HJ := Lib.hid hj
  clear hj
  obtain ⟨m1, hm1⟩ : ∃ m1, m1 = i + (N - j) := ⟨_, rfl⟩
  have hj := HJ.out
  have c1 : m1 ≤ N := by omega
  have c2 : m1 ≤ cap := by omega
  have c3 : ¬ (cap - m1 = 0) := by omega
  have c4 : (m1 : Int) ≤ (N : Int) := by omega
  have c5 : N - m1 = 1 := by omega
  obtain ⟨ti, hti, htz⟩ := Option.map_eq_some_iff.1 info_one
  simp only [Prod.mk.injEq] at htz
  obtain ⟨-, hts, -⟩ := htz
  have hnl : (encs Ent.enc (F.drop (i + 1))).length = (N - j) * ti.size := by rw [encs_length ent_len, List.length_drop, hts, ← HN.out, ← HJ.out]
  have hone : ∀ u ∈ encs Ent.enc (F.drop (i + 1)), u.oneCell' = true := fun u hu => by
    obtain ⟨x, hx, hu⟩ := List.mem_flatMap.1 hu
    exact one_all x u hu
  have hfit : i * ti.size + (encs Ent.enc (F.drop (i + 1))).length ≤ cur.size := by rw [hnl, HL.out.all, hts]; omega
  have HR := Lib.hid fun (ad : Addr) (c : Nat) (hn : ∀ k u, (encs Ent.enc (F.drop (i + 1)))[k]? = some u → w.drew.cell? (ad.add k) = some u) (ty : TypeId) =>
    run_append_room (P := Tryd.prog) w.drew 65 ty 72 ti Tryd.underlying65 hti g i cap cur S.drew.blk_at ad (N - j) c (encs Ent.enc (F.drop (i + 1))) hnl hn hone (by omega) hfit
  rw [← hm1, hts] at HR
  have S2 := S.drew.setRow (cur.toList.take (i * 11) ++ encs Ent.enc (F.drop (i + 1)) ++ cur.toList.drop (i * 11 + (encs Ent.enc (F.drop (i + 1))).length)).toArray
  have HL2 := Lib.hid (lay_del HL.out (i := i) (by rw [← HN.out]; omega))
  generalize (cur.toList.take (i * 11) ++ encs Ent.enc (F.drop (i + 1)) ++ cur.toList.drop (i * 11 + (encs Ent.enc (F.drop (i + 1))).length)).toArray = cur2 at HR S2 HL2
  have hall : m1 * 11 + 11 ≤ cur2.size := by rw [HL2.out.all]; omega
  have hlen1 : (F.take i ++ F.drop (i + 1)).length = m1 := by rw [List.length_append, List.length_take, List.length_drop, ← HN.out, ← HJ.out]; omega
  have HLN := Lib.hid hlen1
  have hat : ∀ k u, (encs Ent.enc (F.drop (i + 1)))[k]? = some u → w.drew.cell? ⟨g, j * 11 + k, none⟩ = some u := fun k u hk => by
    have hkl := (List.getElem?_eq_some_iff.1 hk).1
    rw [hnl, hts] at hkl
    rw [S.drew.cell]
    have e1 := HL.out.at_
    have e2 : (encs Ent.enc F)[j * 11 + k]? = some u := by
      conv => lhs; rw [← List.take_append_drop (i + 1) F, encs_append]
      rw [List.getElem?_append_right (by rw [encs_length ent_len, List.length_take, ← HN.out, ← HJ.out]; omega), encs_length ent_len, List.length_take, ← HN.out, ← HJ.out, Nat.min_eq_left (by omega), show j * 11 + k - j * 11 = k by omega]
      rw [HJ.out]; exact hk
    rw [← e1, List.getElem?_take] at e2
    split at e2
    · simpa using e2
    · cases e2
  have HAT := Lib.hid hat
  clear hj hti hts
  have HM1 := Lib.hid hm1
  have HNL := Lib.hid hnl
  have HS2 := Lib.hid S2
  have HC := Lib.hid (And.intro c1 (And.intro c2 (And.intro c3 (And.intro c4 (And.intro c5 hall)))))
  clear c1 c2 c3 c4 c5 hall
  clear hat hm1 hnl hone hfit S2 S hlen1
  go_enter Tryd.func28, Tryd.ntmps28
  go_upto_region 5 with fail
  by_cases hcj : cap = j
  · subst hcj
    have b1 : cap - cap = 0 := by omega
    have hz : ∀ k u, (encs Ent.enc (F.drop (i + 1)))[k]? = some u → w.drew.cell? ((⟨g, 0, none⟩ : Addr).add k) = some u := fun k u hk => by
      have := (List.getElem?_eq_some_iff.1 hk).1
      rw [HNL.out] at this
      rw [show N - cap = 0 by omega] at this
      omega
    have HR1 := HR.out ⟨g, 0, none⟩ 0 hz
    simp only [show N - cap = 0 by omega] at HR1
    have HR2 := Lib.hid HR1
    clear hz HR1
    go_still_tail 6, (by kernel_rfl)
    change wpList _ _ _ _ _ w.drew
    refine Go.Lib.wpList_append_run w.drew rfl (.tmp 22) (.tmp 25) 65 65 rfl (.slice (some ⟨g, 0, none⟩) i cap) (.slice (some ⟨g, 0, none⟩) 0 0) rfl rfl _ _ (HR2.out _) ?_
    clear HR2
    (refine list_world HS2.out fun w3 S3 => ?_; clear HS2 HR; obtain ⟨c1, c2, c3, c4, c5, hall⟩ := HC.out; go_wp2_with (refine st_clear rfl _ 65 rfl 72 (.agg #[.int .i64 0, .int .i64 0, .int .i64 0, .int .i64 0, .int .i64 0, .int .i64 0, .int .i64 0, .int .i64 0, .int .i64 0, .int .i64 0, .int .i64 0]) Tryd.underlying65 (by kernel_rfl) (by simp [Value.cells, Value.oneCell']) g (m1 * 11) 1 (cap - m1) rfl S3 hall fun W6 S6 => ?_))
    rw [if_neg (by omega)] at S6
    have S7 := S6.layClose (HL2.out.keep (by rw [HLN.out]; exact Nat.le_refl _) (by rw [Array.length_toList, zeroCells_length]; simp [Value.cells]; omega)) HCL.out m1 HLN.out.symm
    rw [← HLN.out]
    exact hK.out _ _ ⟨_, rfl, by rw [HLN.out] at S7 ⊢; exact S7⟩
  · have b1 : ¬ (cap - j = 0) := by omega
    go_still_tail 6, (by kernel_rfl)
    change wpList _ _ _ _ _ w.drew
    refine Go.Lib.wpList_append_run w.drew rfl (.tmp 22) (.tmp 25) 65 65 rfl (.slice (some ⟨g, 0, none⟩) i cap) (.slice (some ⟨g, j * 11, none⟩) (N - j) (cap - j)) rfl rfl _ _ (HR.out ⟨g, j * 11, none⟩ (cap - j) (fun k u hk => by
      have e : (⟨g, j * 11, none⟩ : Addr).add k = ⟨g, j * 11 + k, none⟩ := by unfold Addr.add; split <;> simp_all
      rw [e]; exact HAT.out k u hk) _) ?_
    (refine list_world HS2.out fun w3 S3 => ?_; clear HS2 HR; obtain ⟨c1, c2, c3, c4, c5, hall⟩ := HC.out; go_wp2_with (refine st_clear rfl _ 65 rfl 72 (.agg #[.int .i64 0, .int .i64 0, .int .i64 0, .int .i64 0, .int .i64 0, .int .i64 0, .int .i64 0, .int .i64 0, .int .i64 0, .int .i64 0, .int .i64 0]) Tryd.underlying65 (by kernel_rfl) (by simp [Value.cells, Value.oneCell']) g (m1 * 11) 1 (cap - m1) rfl S3 hall fun W6 S6 => ?_))
    rw [if_neg (by omega)] at S6
    have S7 := S6.layClose (HL2.out.keep (by rw [HLN.out]; exact Nat.le_refl _) (by rw [Array.length_toList, zeroCells_length]; simp [Value.cells]; omega)) HCL.out m1 HLN.out.symm
    rw [← HLN.out]
    exact hK.out _ _ ⟨_, rfl, by rw [HLN.out] at S7 ⊢; exact S7⟩
end
end Go.Proofs.YtecnddhfjjnbkaaDoor
