/- The walks over slices.Concat of bytes, and bytes.Equal. -/
import Derived.Test.YtohknaoklcehaaaSlv
import Derived.Lib.AppendZeros
set_option linter.unusedSimpArgs false
set_option linter.unusedVariables false
namespace Go.Proofs.Ytohknaoklcehaaa
open Go.RowKit

set_option maxRecDepth 20000 in
theorem grow_bytes {G : Gnd} {w : World} {l : List Asrt} (H : Sat G w l) (n : Nat) (hn : n ≤ 140737488355328) :
    Calls Try.prog 36 #[.slice none 0 0, .int .i64 n] w fun e w' => ∃ u, e = .returned u ∧ Sat G w' (ownS 5 1 u 0 [] :: l) := by
  refine calls_any fun K hK => ?_
  have w1 : wrap64 ((n : Int) - 0) = n := by unfold wrap64; omega
  by_cases h0 : n = 0
  · subst h0
    have S := H.ownNil 5 1
    clear H
    go_enter Try.func36, Try.ntmps36
    go_wp2_with fail
    exact hK.out _ _ ⟨_, rfl, S⟩
  · have hi : ∃ i, Try.prog.info? 5 = some i ∧ i.zero = some (.int .u8 0) ∧ i.size = 1 ∧ i.bytes = 1 := by
      have hi := info_u8
      cases hi' : Try.prog.info? 5 with
      | none => rw [hi'] at hi; simp at hi
      | some i => rw [hi'] at hi; simp at hi; exact ⟨i, rfl, hi.1, hi.2.1, hi.2.2⟩
    obtain ⟨i, hi0, hz, hs, hb⟩ := hi
    have hr := fun ty => Go.Lib.run_append_nil_zeros (P := Try.prog) w 47 3 ty 5 i (.int .u8 0) .i64 .i64 Try.underlying47 Try.underlying3 hi0 hz n (by omega) (by omega) (by omega) (by rw [hb]; omega)
    have hcap1 := grownCap_ge w n 0 5
    have hcap2 := grownCap_le_maxLen w n 0 5 (Nat.le_trans hn (by decide))
    have hcap3 : grownCap w n 0 5 ≤ 9223372036854775807 := hcap2
    have S1 := H.drew.newBlk (Builtin.zeroCells (Value.int .u8 0).cells n ++ Builtin.zeroCells (Value.int .u8 0).cells (grownCap w n 0 5 - n)) 5
    have S2 : Sat G _ (ownS 5 1 (.slice (some ⟨w.drew.heap.size, 0, none⟩) 0 (grownCap w n 0 5)) 0 [] :: l) := own_iff.2 ⟨rfl, .inr ⟨_, _, _, rfl, Nat.zero_le _, hcap2, by simp [Builtin.zeroCells, Value.cells]; omega, by simp, S1⟩⟩
    clear S1 H hcap2
    generalize grownCap w n 0 5 = cp at *
    go_enter Try.func36, Try.ntmps36
    go_wp2_with (at_builtin; refine Go.Lib.wpList_append_run _ rfl _ _ _ _ rfl _ _ rfl rfl _ _ (hr _) ?_)
    exact hK.out _ _ ⟨_, rfl, S2⟩
theorem bstr_list (a : List UInt8) : (bstr a).toList = a := ByteArray.toList_mk _
theorem bytes_equal {w : World} (v1 v2 : Value) (a b : List UInt8) (h1 : SlV w.cell? v1 a.length (a.map byteV)) (h2 : SlV w.cell? v2 b.length (b.map byteV)) :
    Calls Try.prog 28 #[v1, v2] w fun e w' => e = .returned (.bool (a == b)) ∧ w = w' := by
  refine calls_any fun K hK => ?_
  have c1 := conv_bytes v1 a w h1
  have c2 := conv_bytes v2 b w h2
  have e1 := bstr_list a
  have e2 := bstr_list b
  go_enter Try.func28, Try.ntmps28
  go_wp2_with fail
  exact hK.out _ _ ⟨rfl, rfl⟩
set_option maxHeartbeats 2000000 in
/-- Bytes one behind the other: in memory of its own. -/
theorem concat_bytes {G : Gnd} {w : World} {l : List Asrt} (H : Sat G w l) (a : Addr) (c : Nat) (ps : List (List UInt8)) (hb : ∀ W, Sat G W l → ∀ i bs, ps[i]? = some bs → ∃ v, W.cell? (a.add i) = some v ∧ SlB W.cell? v bs) (hlen : ps.flatten.length ≤ 140737488355328) (hc : ps.length ≤ c) (hc2 : c ≤ 9223372036854775807) :
    Calls Try.prog 26 #[.slice (some a) ps.length c] w fun e w' => ∃ u, e = .returned u ∧ Sat G w' (ownS 5 1 u ps.flatten.length (ps.flatten.map byteV) :: l) := by
  refine calls_any fun K hK => ?_
  have HB := Lib.hid hb
  clear hb
  have hsum : ∀ k bs, ps[k]? = some bs → (ps.take k).flatten.length + bs.length = (ps.take (k + 1)).flatten.length ∧ (ps.take (k + 1)).flatten.length ≤ ps.flatten.length := by
    intro k bs hk
    have hlt := (List.getElem?_eq_some_iff.1 hk).1
    have hx := (List.getElem?_eq_some_iff.1 hk).2
    constructor
    · rw [List.take_succ_eq_append_getElem hlt, hx, List.flatten_append, List.length_append]; simp
    · have : ps = ps.take (k + 1) ++ ps.drop (k + 1) := (List.take_append_drop _ _).symm
      conv => rhs; rw [this, List.flatten_append, List.length_append]
      omega
  have HSM := Lib.hid hsum
  clear hsum
  go_enter Try.func26, Try.ntmps26
  go_wp2_with fail
  go_loop [3, 11] (fun s i => ∃ k : Nat, k ≤ ps.length ∧ i = .int .i64 k ∧ s = .int .i64 (ps.take k).flatten.length) (fun _ i => ps.length - (intOf i).toNat)
  case atStart => exact ⟨0, Nat.zero_le _, rfl, rfl⟩
  case round =>
    obtain ⟨k, hk, rfl, rfl⟩ := hrel
    by_cases hlt : k < ps.length
    · obtain ⟨v, hcell, hv⟩ := HB.out w H k ps[k] (List.getElem?_eq_getElem hlt)
      obtain ⟨hs1, hs2⟩ := HSM.out k ps[k] (List.getElem?_eq_getElem hlt)
      obtain ⟨A, cc, rfl, hx1, hx2, -⟩ := hv.form
      generalize (ps[k]).length = m at *
      have HS := Lib.hid hs1
      have hw : wrap64 (((ps.take k).flatten.length : Int) + (m : Int)) = ((ps.take k).flatten.length : Int) + (m : Int) := by unfold wrap64; omega
      have hneg : ¬ (((ps.take k).flatten.length : Int) + (m : Int) < 0) := by omega
      clear hv hs1 hs2
      generalize (ps.take k).flatten.length = s at *
      go_wp2_with fail
      refine ⟨⟨k + 1, by omega, by go_num, ?_⟩, by simp [intOf]; omega⟩
      rw [← HS.out]
      congr 1
    · obtain rfl : k = ps.length := by omega
      have hg := grow_bytes H ps.flatten.length (by omega)
      rw [List.take_length]
      generalize hL : ps.flatten.length = L at *
      go_wp2_with fail
      (with_reducible refine hg.mono ?_)
      clear hg
      rintro e w1 ⟨u, rfl, S1⟩
      go_wp2_with fail
      go_loopw [6, 27] (fun x i wr => ∃ k : Nat, k ≤ ps.length ∧ i = .int .i64 k ∧ Sat G wr (ownS 5 1 x (ps.take k).flatten.length ((ps.take k).flatten.map byteV) :: l)) (fun _ i _ => ps.length - (intOf i).toNat)
      case atStart => exact ⟨0, Nat.zero_le _, rfl, by simpa using S1⟩
      case round =>
        obtain ⟨k, hk, rfl, S2⟩ := hrel
        clear S1
        by_cases hlt : k < ps.length
        · obtain ⟨v, hcell, hv⟩ := HB.out wr S2.drop k ps[k] (List.getElem?_eq_getElem hlt)
          obtain ⟨hs1, hs2⟩ := HSM.out k ps[k] (List.getElem?_eq_getElem hlt)
          obtain ⟨A, cc, rfl, hx1, hx2, hx3⟩ := hv.form
          obtain ⟨A2, c2, rfl, -, -, -⟩ := S2.ownForm
          have hfl : (ps.take (k + 1)).flatten = (ps.take k).flatten ++ ps[k] := by rw [List.take_succ_eq_append_getElem hlt, List.flatten_append]; simp
          have hb2 := hv.1
          have HF := Lib.hid hfl
          have hbnd : (ps.take k).flatten.length + (ps[k]).length ≤ 140737488355328 := by omega
          clear hv hs1 hs2 hfl
          go_wp2_with (at_builtin; refine st_app S2 rfl _ _ rfl rfl rfl hb2 hx3 hbnd ?_; intro v' w' S')
          go_roundw
          case rel => exact ⟨k + 1, by omega, by go_num, by rw [HF.out]; simpa using S'⟩
          case measure => simp [intOf]; omega
        · obtain rfl : k = ps.length := by omega
          rw [List.take_length] at S2
          go_wp2_with fail
          exact hK.out _ _ ⟨_, rfl, by rw [hL] at S2; exact S2⟩
end Go.Proofs.Ytohknaoklcehaaa
