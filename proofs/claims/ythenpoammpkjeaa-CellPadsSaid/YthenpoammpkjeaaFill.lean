/- The walks over cell.Fill and its reference. -/
import Derived.Test.YthenpoammpkjeaaCell
set_option linter.unusedSimpArgs false
set_option linter.unusedVariables false
namespace Go.Proofs.Ythenpoammpkjeaa
open Go.RowKit

/-- The bytes of a slot. -/
def fillB (b : List UInt8) (z : Nat) : List UInt8 := b ++ frBytes 250 0 0 (List.replicate z 0)
theorem fillB_length (b : List UInt8) (z : Nat) : (fillB b z).length = b.length + 9 + z := by unfold fillB; rw [List.length_append, frBytes_length, List.length_replicate]; omega
theorem parts2 {G : Gnd} {w : World} {l : List Asrt} {u v : Value} {g : Nat} {bs b : List UInt8} (S : Sat G w (blk g #[u, v] 22 :: l)) (hu : SlB (cellR G.ro) u bs) (hv : SlB (cellR G.ro) v b) :
    ∀ i bs', [bs, b][i]? = some bs' → ∃ x, w.cell? ((⟨g, 0, none⟩ : Addr).add i) = some x ∧ SlB w.cell? x bs' := by
  have hc : ∀ i, w.cell? ((⟨g, 0, none⟩ : Addr).add i) = #[u, v][i]? := fun i => by
    have e : (⟨g, 0, none⟩ : Addr).add i = ⟨g, i, none⟩ := by unfold Addr.add; split <;> simp_all
    rw [e]; exact S.cell i
  intro i bs' hi
  rcases i with _ | _ | i
  · cases hi; exact ⟨_, by rw [hc]; rfl, hu.sat S⟩
  · cases hi; exact ⟨_, by rw [hc]; rfl, hv.sat S⟩
  · simp at hi
/-- Noughts that were just made: in the ground. -/
theorem noughts {G : Gnd} {w : World} {l : List Asrt} (H : Sat G w l) (z : Nat) (hz : z ≤ maxLen) : ∃ G', G.le G' ∧ Sat G' (w.alloc (.cells (madeCells #[.int .u8 0] z) 5)) l ∧ SlB (Go.Proofs.Ythenpoammpkjeaa.cellR G'.ro) (.slice (some ⟨w.heap.size, 0, none⟩) z z) (List.replicate z 0) := by
  have hzl : (List.replicate z (0 : UInt8)).length = z := List.length_replicate
  have hzm : (madeCells #[Value.int .u8 0] z).toList = (List.replicate z (0 : UInt8)).map byteV := by rw [toList_madeCells_one, List.map_replicate]; rfl
  have S2 : Sat G (w.alloc (.cells (madeCells #[.int .u8 0] z) 5)) (ownS 5 1 (.slice (some ⟨w.heap.size, 0, none⟩) z z) (List.replicate z (0 : UInt8)).length ((List.replicate z (0 : UInt8)).map byteV) :: l) := by
    rw [hzl, ← hzm]
    exact (H.newBlk (madeCells #[.int .u8 0] z) 5).ownBlk (size := 1) z (by rw [← Array.length_toList, hzm, List.length_map, hzl, Nat.mul_one]) hz
  exact S2.ownFrz
set_option maxHeartbeats 4000000 in
set_option maxRecDepth 100000 in
theorem cell_fill {G : Gnd} {w : World} {l : List Asrt} (H : Sat G w l) (v : Value) (b : List UInt8) (n : Int) (hb : SlB (cellR G.ro) v b) (hl : b.length ≤ 1000000) :
    Calls Try.prog 10 #[v, .int .i64 n] w fun e w' => ∃ G', G.le G' ∧ Sat G' w' l ∧
      ((clRight n = false ∧ e = .returned (.tuple #[.slice none 0 0, .int .i64 11])) ∨ (clRight n = true ∧ n + 9 < b.length ∧ e = .returned (.tuple #[.slice none 0 0, .int .i64 15])) ∨
       (clRight n = true ∧ ∃ z : Nat, n + 9 = b.length + z ∧ ∃ u, e = .returned (.tuple #[u, .int .i64 0]) ∧ SlB (Go.Proofs.Ythenpoammpkjeaa.cellR G'.ro) u (fillB b z))) := by
  refine calls_any fun K hK => ?_
  obtain ⟨A, c, rfl, -, -, -⟩ := hb.form
  have hr := fun w => cell_right n w
  have hm := fun w => cell_room n w
  cases h : clRight n with
  | false =>
    rw [h] at hr
    go_enter Try.func10, Try.ntmps10
    go_wp2_with fail
    (with_reducible refine (hr _).mono ?_)
    rintro e w1 ⟨rfl, rfl⟩
    go_wp2_with fail
    exact hK.out _ _ ⟨G, Gnd.le.rfl', H, .inl ⟨h, rfl⟩⟩
  | true =>
    rw [h] at hr
    obtain ⟨h1, h2⟩ := right_bounds h
    rw [show clRoom n = n + 9 by unfold clRoom; rw [h]; rfl] at hm
    by_cases hlt : n + 9 < (b.length : Int)
    · go_enter Try.func10, Try.ntmps10
      go_wp2_with fail
      (with_reducible refine (hr _).mono ?_)
      rintro e w1 ⟨rfl, rfl⟩
      go_wp2_with fail
      (with_reducible refine (hm _).mono ?_)
      rintro e w1 ⟨rfl, rfl⟩
      go_wp2_with fail
      exact hK.out _ _ ⟨G, Gnd.le.rfl', H, .inr (.inl ⟨h, hlt, rfl⟩)⟩
    · obtain ⟨z, hz⟩ : ∃ z : Nat, n + 9 - (b.length : Int) = z := ⟨(n + 9 - b.length).toNat, by omega⟩
      have hmk : ∀ w, (Instr.makeSlice 22 (.int .i64 (n + 9 - (b.length : Int))) (.int .i64 (n + 9 - (b.length : Int)))).run Try.prog w = .ok (.slice (some ⟨w.heap.size, 0, none⟩) z z) (w.alloc (.cells (madeCells #[.int .u8 0] z) 5)) := by
        rw [hz]
        exact run_make_row' (P := Try.prog) 22 5 (.int .u8 0) 1 Try.underlying22 info_u8 rfl .i64 .i64 z (by omega) (by omega)
      have HZ := Lib.hid hz
      obtain ⟨G1, hG1, S1, hzs⟩ := noughts H z (Nat.le_trans (show z ≤ 2000 by omega) (by decide))
      have hfb := frame_bytes S1 250 0 0 _ (List.replicate z 0) (fun W SW => hzs.sat SW) (by decide) (by decide) (by decide) (by rw [List.length_replicate]; omega)
      change Calls _ _ #[.agg #[.int .i64 250, .int .i64 0, .int .i64 0, _]] _ _ at hfb
      have hfl := fillB_length b z
      clear hz hzs
      go_enter Try.func10, Try.ntmps10
      go_wp2_with fail
      (with_reducible refine (hr _).mono ?_)
      rintro e w1 ⟨rfl, rfl⟩
      go_wp2_with fail
      (with_reducible refine (hm _).mono ?_)
      rintro e w1 ⟨rfl, rfl⟩
      go_wp2_with fail
      (with_reducible refine (hm _).mono ?_)
      rintro e w1 ⟨rfl, rfl⟩
      go_wp2_with fail
      (with_reducible refine hfb.mono ?_)
      clear hfb S1 hmk hr hm
      rintro e w2 ⟨u1, rfl, S2⟩
      obtain ⟨G2, hG2, S3, hu1⟩ := S2.ownFrz
      have hb2 := hb.mono (hG1.trans hG2)
      have S4 := S3.newBlk #[.slice A b.length c, u1] 22
      have hcat := concat_bytes S4 ⟨w2.heap.size, 0, none⟩ 2 [b, frBytes 250 0 0 (List.replicate z 0)] (fun W SW => parts2 SW hb2 hu1) (by
        have : [b, frBytes 250 0 0 (List.replicate z 0)].flatten = fillB b z := by simp [fillB]
        rw [this, hfl]; have := HZ.out; omega) (by simp) (by decide)
      rw [show [b, frBytes 250 0 0 (List.replicate z 0)].flatten = fillB b z by simp [fillB]] at hcat
      change Calls _ _ #[.slice _ 2 2] _ _ at hcat
      obtain ⟨U, cu, rfl, -, -, -⟩ := hu1.form
      clear S2 S3 S4 hfl
      go_wp2_with fail
      (with_reducible refine hcat.mono ?_)
      clear hcat
      rintro e w3 ⟨u, rfl, S5⟩
      obtain ⟨G3, hG3, S6, hu⟩ := S5.ownFrz
      go_wp2_with fail
      exact hK.out _ _ ⟨G3, (hG1.trans hG2).trans hG3, S6.drop, .inr (.inr ⟨h, z, by have := HZ.out; omega, u, rfl, hu⟩)⟩
/-- The reference's slot. -/
theorem ref20_fill (b : List UInt8) (n : Int) (z : Nat) (hz : n + 9 = b.length + z) (hb : b.length ≤ 100000) (hn : n ≤ 1024) (h0 : 1 ≤ n) (w : World) :
    Calls Try.prog 14 #[.string (bstr b), .int .i64 n] w fun e w' => e = .returned (.string (bstr (fillB b z))) ∧ Below w.heap.size w w' := by
  refine calls_any fun K hK => ?_
  have hsb := bstr_size b
  have hw : wrap64 (n + 9) = n + 9 := by unfold wrap64; omega
  go_enter Try.func14, Try.ntmps14
  go_wp2_with fail
  go_loop [5] (fun s => ∃ k : Nat, k ≤ z ∧ s = .string (bstr (List.replicate k 0))) (fun s => z - (match s with | .string x => x.size | _ => 0))
  case atStart => exact ⟨0, Nat.zero_le _, rfl⟩
  case round =>
    obtain ⟨k, hk, rfl⟩ := hrel
    have hsk : (bstr (List.replicate k 0)).size = k := by rw [bstr_size, List.length_replicate]
    have hs1 : (ByteArray.mk #[0]).size = 1 := rfl
    have hap : bstr (List.replicate k 0) ++ ⟨#[0]⟩ = bstr (List.replicate (k + 1) 0) := by
      rw [show (⟨#[0]⟩ : ByteArray) = bstr [0] from rfl, bstr_append, List.replicate_succ']
    by_cases hlt : k < z
    · have hlt' : (b.length : Int) + k < n + 9 := by omega
      have hsk1 : (bstr (List.replicate (k + 1) 0)).size = k + 1 := by rw [bstr_size, List.length_replicate]
      go_wp2_with fail
      refine ⟨⟨k + 1, by omega, rfl⟩, ?_⟩
      show z - (bstr (List.replicate (k + 1) 0)).size < z - (bstr (List.replicate k 0)).size
      omega
    · obtain rfl : k = z := by omega
      have hrb := ref9_bytes 250 0 0 (List.replicate k 0) w (by decide) (by decide) (by decide) (by rw [List.length_replicate]; omega)
      change Calls _ _ #[.int .i64 250, .int .i64 0, .int .i64 0, _] _ _ at hrb
      have hfz : (bstr (frBytes 250 0 0 (List.replicate k 0))).size = 9 + k := by rw [bstr_size, frBytes_length, List.length_replicate]
      have hfa : bstr b ++ bstr (frBytes 250 0 0 (List.replicate k 0)) = bstr (fillB b k) := bstr_append _ _
      clear hap
      go_wp2_with fail
      (with_reducible refine hrb.mono ?_)
      clear hrb
      rintro e w1 ⟨rfl, hb1⟩
      go_wp2_with fail
      exact hK.out _ _ ⟨rfl, hb1⟩
theorem ceil_eq (n d k : Int) (hd : 1 ≤ d) (h1 : n ≤ k * d) (h2 : (k - 1) * d < n) : (if n % d > 0 then n / d + 1 else n / d) = k := by
  have e := Int.emod_add_mul_ediv n d
  have p := Int.emod_lt_of_pos n (show 0 < d by omega)
  have q := Int.emod_nonneg n (show d ≠ 0 by omega)
  generalize n / d = a at *
  generalize n % d = r at *
  rw [Int.sub_mul, Int.one_mul] at h2
  rw [Int.mul_comm d a] at e
  have hak : a ≤ k := by
    refine Int.not_lt.1 fun h => ?_
    have : (k + 1) * d ≤ a * d := Int.mul_le_mul_of_nonneg_right (by omega) (by omega)
    rw [Int.add_mul, Int.one_mul] at this
    omega
  have hka : k - 1 ≤ a := by
    refine Int.not_lt.1 fun h => ?_
    have : (a + 1) * d ≤ (k - 1) * d := Int.mul_le_mul_of_nonneg_right (by omega) (by omega)
    rw [Int.add_mul, Int.one_mul, Int.sub_mul, Int.one_mul] at this
    omega
  split
  · by_cases ha : a = k
    · subst ha; omega
    · omega
  · by_cases ha : a = k
    · exact ha
    · have : a = k - 1 := by omega
      subst this
      rw [Int.sub_mul, Int.one_mul] at e
      omega
theorem ref20_cells (n c : Int) (h1 : 1 ≤ n) (h2 : 2 ≤ c) (hn : n ≤ 3000) (hc : c ≤ 5000) (w : World) :
    Calls Try.prog 16 #[.int .i64 n, .int .i64 c] w fun e w' => e = .returned (.int .i64 (clCells n c)) ∧ w = w' := by
  refine calls_any fun K hK => ?_
  go_enter Try.func16, Try.ntmps16
  go_wp2_with fail
  go_loop [0, 5] (fun m i => ∃ k : Nat, i = .int .i64 k ∧ m = .int .i64 (n - k * (c - 1)) ∧ ((k : Int) - 1) * (c - 1) < n ∧ (k : Int) ≤ n) (fun m _ => (intOf m).toNat)
  case atStart => exact ⟨0, rfl, by simp, by simp; omega, by simp; omega⟩
  case round =>
    obtain ⟨k, rfl, rfl, hk, hkn⟩ := hrel
    by_cases hpos : 0 < n - k * (c - 1)
    · have e : n - (k : Int) * (c - 1) - (c - 1) = n - ((k + 1 : Nat) : Int) * (c - 1) := by
        rw [Int.natCast_add, Int.add_mul]; simp; omega
      have hkl : (k : Int) < n := by
        have : (k : Int) * 1 ≤ k * (c - 1) := Int.mul_le_mul_of_nonneg_left (by omega) (by omega)
        omega
      have hk1 : ((k + 1 : Nat) : Int) - 1 = k := by omega
      have hk2 : (((k + 1 : Nat) : Int) - 1) * (c - 1) < n := by rw [hk1]; omega
      have HE := Lib.hid e
      have HK2 := Lib.hid hk2
      clear e hk2 hk1 hk
      have hm : n - (k : Int) * (c - 1) ≤ 3000 := by
        have : 0 ≤ (k : Int) * (c - 1) := Int.mul_nonneg (by omega) (by omega)
        omega
      generalize n - (k : Int) * (c - 1) = m at *
      go_wp2_with fail
      refine ⟨⟨k + 1, by go_num, by rw [← HE.out], HK2.out, by omega⟩, by simp [intOf]; omega⟩
    · have hce := ceil_eq n (c - 1) k (by omega) (by omega) hk
      have hcl : clCells n c = k := by unfold clCells; rw [if_neg (by omega)]; exact hce
      rw [hcl] at hK
      generalize n - (k : Int) * (c - 1) = m at *
      go_wp2_with fail
      exact hK.out _ _ ⟨rfl, rfl⟩
end Go.Proofs.Ythenpoammpkjeaa
