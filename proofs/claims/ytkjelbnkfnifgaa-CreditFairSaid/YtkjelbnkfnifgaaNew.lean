/- The walks over New, Parts, Copy. -/
import Derived.Test.YtkjelbnkfnifgaaRef3
import Derived.Deep.RegionHeld
import Derived.Laws.Cover3
set_option linter.unusedSimpArgs false
set_option linter.unusedVariables false
namespace Go.Proofs.Ytkjelbnkfnifgaa
open Go.RowKit

theorem info_wn : (Try.prog.info? 49).map (fun i => (i.zero, i.size, i.bytes)) = some (some (.agg #[.int .i64 0]), 1, 8) := by kernel_rfl
theorem isum_parts (t : Int) (m k : Nat) : isum ((List.range k).map (part t m)) = psum t m k := by
  induction k with
  | zero => rfl
  | succ k ih => rw [List.range_succ, List.map_append, isum_append, ih]; simp [isum, psum]
theorem parts_good (m : Nat) (h1 : 1 ≤ m) (h2 : m ≤ 64) : Good (parts 65535 m) ∧ isum (parts 65535 m) = 65535 := by
  have hs : isum (parts 65535 m) = 65535 := by unfold parts; rw [isum_parts, psum_all _ _ (by omega) (by omega)]
  refine ⟨⟨by simp [parts]; omega, by simp [parts]; omega, fun x hx => ?_, by omega⟩, hs⟩
  unfold parts at hx
  obtain ⟨i, -, rfl⟩ := List.mem_map.1 hx
  exact part_nonneg _ _ _ (by omega)
theorem slice_is_nil (A : Option Addr) (n c : Nat) (w : World) : (binOp .eql 50 (.slice A n c) (.slice none 0 0)).run Try.prog w = .ok (.bool A.isNone) w := by
  simp [binOp, run_equal_slice_nil w 50 49 A n c Try.underlying50]
section
variable {G : Gnd} {w w' : World} {l : List Asrt} {p : Nat} {L : List Int} {T : Nat}
theorem wn_clone {g cap : Nat} (H : Sat G w l) (h0 : 1 ≤ L.length) (h1 : L.length ≤ cap) (h2 : cap ≤ maxLen) (h3 : L.length ≤ 64) (hc : ∀ i, i < L.length → w.cell? ⟨g, i, none⟩ = some (.int .i64 (L.getD i 0))) :
    Calls Try.prog 27 #[.slice (some ⟨g, 0, none⟩) L.length cap] w fun e w' => ∃ u, e = .returned u ∧ Sat G w' (ownS 49 1 u L.length (ints L) :: l) := by
  refine calls_any fun K hK => ?_
  have S0 := (H.newBlk #[] 49).ownBlk (size := 1) 0 rfl (Nat.zero_le _)
  have hw : Hid (∀ j u, (ints L)[j]? = some u → (w.alloc (.cells #[] 49)).cell? ((⟨g, 0, none⟩ : Addr).add j) = some u) := Lib.hid fun j u hj => by
    have hlt := (List.getElem?_eq_some_iff.1 hj).1
    rw [show (ints L).length = L.length by simp [ints]] at hlt
    rw [ints_get hlt] at hj
    cases hj
    have e : (⟨g, 0, none⟩ : Addr).add j = ⟨g, j, none⟩ := by unfold Addr.add; split <;> simp_all
    rw [e, World.cell?_alloc_some _ _ _ (by rw [hc j hlt]; rfl)]
    exact hc j hlt
  have HL1 : Hid ((ints L).length = L.length * 1) := Lib.hid (by simp [ints])
  have HL3 : Hid ((ints L).all (·.oneCell') = true) := Lib.hid (by simp [ints, Value.oneCell'])
  have hnil := slice_is_nil (some ⟨g, 0, none⟩) L.length cap w
  clear hc H
  go_enter Try.func27, Try.ntmps27
  go_wp2_with (at_builtin; refine st_append rfl _ _ 50 rfl 49 (.agg #[.int .i64 0]) 1 8 Try.underlying50 info_wn rfl (by omega) _ 0 [] rfl S0 ⟨g, 0, none⟩ L.length cap (ints L) rfl HL1.out hw.out HL3.out (Nat.le_trans (show 0 + L.length ≤ 64 by omega) (by decide)) (by omega) ?_; intro v' w' S')
  exact hK.out _ _ ⟨v', rfl, by simpa using S'⟩
set_option maxHeartbeats 1000000 in
theorem cr_parts (H : Sat G w (crA p L T :: l)) (gd : Good L) : Calls Try.prog 15 #[.pointer (some ⟨p, 0, none⟩)] w fun e w' => ∃ v G', e = .returned v ∧ G.le G' ∧ IntsR G'.ro v L ∧ Sat G' w' (crA p L T :: l) := by
  refine calls_any fun K hK => ?_
  obtain ⟨g, cap, cur, S, h1, h2, h3, h4⟩ := cr_open H gd.pos
  have gl := gd.len
  have hcap : cap ≤ 9223372036854775807 := h2
  have c1 : w.cell? ⟨p, 1, none⟩ = some (.slice (some ⟨g, 0, none⟩) L.length cap) := S.cell 1
  have HC : Hid (∀ {W : World} {G' : Gnd}, Sat G' W (blk p #[.int .i64 (isum L), .slice (some ⟨g, 0, none⟩) L.length cap, .int .i64 ((T % L.length : Nat) : Int)] 52 :: blk g cur 49 :: l) → Sat G' W (crA p L T :: l)) := Lib.hid fun S =>
    cr_close S rfl rfl rfl h1 h2 h3 h4
  have HCU := Lib.hid fun i (hi : i < L.length) => cur_at (L := L) h4 rfl hi
  have S0 := S.ownNil 3 1
  have HTK := Lib.hid fun k (h : k < L.length) => ints_take h
  clear H S h4 h2
  go_enter Try.func15, Try.ntmps15
  go_wp2_with fail
  go_loopw [3, 11] (fun x i wr => ∃ k : Nat, k ≤ L.length ∧ i = .int .i64 k ∧ Sat G wr (ownS 3 1 x k (ints (L.take k)) :: blk p #[.int .i64 (isum L), .slice (some ⟨g, 0, none⟩) L.length cap, .int .i64 ((T % L.length : Nat) : Int)] 52 :: blk g cur 49 :: l)) (fun _ i _ => L.length - (intOf i).toNat)
  case atStart => exact ⟨0, Nat.zero_le _, rfl, S0⟩
  case round =>
    obtain ⟨k, hk, rfl, S⟩ := hrel
    clear S0
    by_cases hlt : k < L.length
    · have hcell : wr.cell? ⟨g, k, none⟩ = some (.int .i64 (L.getD k 0)) := (S.pull2.cell k).trans (HCU.out k hlt)
      have HT := Lib.hid (HTK.out k hlt)
      have hS : ∀ W, Below wr.heap.size wr W → Sat G W _ := fun W h => S.below h
      clear S
      generalize L.getD k 0 = x at *
      go_wp2_with fail
      (with_reducible refine (win_size _ _).mono ?_)
      rintro e w4 ⟨rfl, hb4⟩
      have S4 := (hS _ (by (repeat (first | exact Below.refl _ _ | refine Below.setCell ?_ (by simp; try omega) _ | refine Below.alloc ?_ (by simp; try omega) _ | refine Below.drew ?_)))).below hb4
      have hS4 : ∀ W, Below w4.heap.size w4 W → Sat G W _ := fun W h => S4.below h
      clear hb4 S4 hS
      go_wp2_with ((at_builtin; refine st_append rfl _ _ 34 rfl 3 (.int .i64 0) 1 8 Try.underlying34 info_int rfl (by omega) _ k _ rfl (hS4 _ (by (repeat (first | exact Below.refl _ _ | refine Below.setCell ?_ (by simp; try omega) _ | refine Below.alloc ?_ (by simp; try omega) _ | refine Below.drew ?_)))) ⟨w4.heap.size, 0, none⟩ 1 1 [.int .i64 x] rfl rfl (alloc_cells _ _ #[.int .i64 x] _ (by simp)) rfl (Nat.le_trans (show k + 1 ≤ 64 by omega) (by decide)) (by omega) ?_; intro v' w' S'))
      go_roundw
      case rel => exact ⟨k + 1, by omega, by go_num, by rw [HT.out]; exact S'⟩
      case measure => simp [intOf]; omega
    · obtain rfl : k = L.length := by omega
      have HS := Lib.hid S
      clear S
      go_wp2_with fail
      have S2 := HS.out
      rw [List.take_length] at S2
      obtain ⟨G', hG, S3, hi⟩ := Sat.ints S2
      exact hK.out _ _ ⟨_, G', rfl, hG, hi, HC.out S3⟩
end
end Go.Proofs.Ytkjelbnkfnifgaa
