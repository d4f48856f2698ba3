/- The walks over awake and small of chapter 11; arguments of many chunks. -/
import Derived.Test.YtjaikmkfpkooiaaCopy
set_option linter.unusedSimpArgs false
set_option linter.unusedVariables false
namespace Go.Proofs.Ytjaikmkfpkooiaa
open Go.RowKit

theorem feed_ok {R : Hp} {most : Int} {bs b : List UInt8} {e : Ending} (h : FeedRes R most bs false b e) (K : Nat) (hk : kof most (bs ++ b) ((bs ++ b).length + 1) = K) (hE : headE (eat (bs ++ b) K) most = 16) :
    ∃ v1, e = .returned (.tuple #[v1, .int .i64 0]) ∧ RFr R v1 K (bs ++ b) := by
  rcases h with ⟨h, -⟩ | ⟨-, K', h1, h2⟩
  · cases h
  · have h3 := kof_eq h1 (by rcases h2 with h | h <;> rw [h.1] <;> decide) ((bs ++ b).length + 1)
    have h4 := eat_len h1
    rw [hk, Nat.min_eq_right (by omega)] at h3
    subst h3
    rcases h2 with ⟨-, h⟩ | ⟨h, -⟩
    · exact h
    · rw [hE] at h; exact absurd h (by decide)
theorem slb_ro {G : Gnd} {q : Nat} {bs : List UInt8} {t : TypeId} {fr : Nat × Nat} (h : G.ro q = some (.cells (bs.map byteV).toArray t fr)) (hl : bs.length ≤ maxLen) : SlB (cellR G.ro) (.slice (some ⟨q, 0, none⟩) bs.length bs.length) bs := by
  refine ⟨⟨_, _, rfl, Nat.le_refl _, hl, fun j u hj => ⟨_, rfl, ?_⟩⟩, fun n c e => by cases e⟩
  have e : (⟨q, 0, none⟩ : Addr).add j = ⟨q, j, none⟩ := by unfold Addr.add; split <;> simp_all
  rw [e]
  simp only [cellR, h]
  simpa using hj
set_option maxHeartbeats 4000000 in
set_option maxRecDepth 100000 in
theorem law_awake (w : World) :
    Calls Try.prog 8 #[] w fun e w' => e = .returned (.bool true) ∧ Below w.heap.size w w' := by
  refine calls_any fun K hK => ?_
  have hnew := rm_new (Sat.start w) 100 (by decide) (by decide)
  go_enter Try.func8, Try.ntmps8
  go_wp2_with fail
  (with_reducible refine hnew.mono ?_)
  clear hnew
  rintro e w1 ⟨r, rfl, S1⟩
  have hcv := Go.Lib.run_convert_bytes_const (P := Try.prog) w1 29 5 (([49, 50, 51, 52, 53, 54, 55, 56] : List UInt8).map byteV).toArray 8 8 Try.underlying29 Try.underlying5
  change _ = Result.ok _ (w1.alloc (.cells (([49, 50, 51, 52, 53, 54, 55, 56] : List UInt8).map byteV).toArray 5 (8, 9))) at hcv
  obtain ⟨G1, hG1, hq, S2⟩ := (S1.new (.cells (([49, 50, 51, 52, 53, 54, 55, 56] : List UInt8).map byteV).toArray 5 (8, 9))).freeze
  have hb8 := slb_ro hq (by decide)
  clear hq S1
  change Sat _ (w1.alloc (.cells #[.int .u8 49, .int .u8 50, .int .u8 51, .int .u8 52, .int .u8 53, .int .u8 54, .int .u8 55, .int .u8 56] 5 (8, 9))) _ at S2
  change Sem.run _ _ (w1.alloc (.cells #[.int .u8 49, .int .u8 50, .int .u8 51, .int .u8 52, .int .u8 53, .int .u8 54, .int .u8 55, .int .u8 56] 5)) = Result.ok _ (w1.alloc (.cells #[.int .u8 49, .int .u8 50, .int .u8 51, .int .u8 52, .int .u8 53, .int .u8 54, .int .u8 55, .int .u8 56] 5 (8, 9))) at hcv
  change SlB _ (.slice _ 8 8) _ at hb8
  have hfb := frame_bytes S2 6 0 0 (.slice (some ⟨w1.heap.size, 0, none⟩) 8 8) ([49, 50, 51, 52, 53, 54, 55, 56] : List UInt8) (fun W SW => hb8.sat SW) (by decide) (by decide) (by decide) (by decide)
  rw [show frBytes 6 0 0 ([49, 50, 51, 52, 53, 54, 55, 56] : List UInt8) = ([0, 0, 8, 6, 0, 0, 0, 0, 0, 49, 50, 51, 52, 53, 54, 55, 56] : List UInt8) by decide] at hfb
  change Calls _ _ #[.agg #[.int .i64 6, .int .i64 0, .int .i64 0, _]] _ _ at hfb
  clear S2 hb8
  go_wp2_with fail
  (with_reducible refine hfb.mono ?_)
  clear hfb hcv
  rintro e w2 ⟨u, rfl, S3⟩
  obtain ⟨G2, hG2, S4, hu⟩ := S3.ownFrz
  obtain ⟨B, cp, rfl, hc1, hc2, hc3⟩ := hu.form
  clear S3
  have hcm : cp ≤ 9223372036854775807 := hc2
  obtain ⟨ad, rfl⟩ : ∃ ad, B = some ad := by
    cases B with
    | none => have := hc3 rfl; subst this; simp at hc1
    | some ad => exact ⟨ad, rfl⟩
  obtain ⟨b0, o0, rfl⟩ := (hu.sat S4).addr (by decide)
  change 17 ≤ cp at hc1
  change SlB _ (.slice _ 17 _) _ at hu
  have hu5 := hu.to 5 (by decide) cp (by omega) (Nat.le_refl _)
  have hu12 := hu.from 5 (by decide)
  rw [show fromA (some (⟨b0, o0, none⟩ : Addr)) cp 5 = some ⟨b0, o0 + 5, none⟩ from if_neg (by omega)] at hu12
  change SlB _ _ ([0, 0, 8, 6, 0] : List UInt8) at hu5
  change SlB _ (.slice _ 12 _) ([0, 0, 0, 0, 49, 50, 51, 52, 53, 54, 55, 56] : List UInt8) at hu12
  clear hu hc3
  generalize w1.heap.size = q at *
  have hf1 := rm_feed S4 _ ([0, 0, 8, 6, 0] : List UInt8) hu5 (by decide)
  rw [show rmFeed 100 ([], false) ([0, 0, 8, 6, 0] : List UInt8) = (([0, 0, 8, 6, 0] : List UInt8), false) by decide] at hf1
  clear S4
  go_wp2_with fail
  (with_reducible refine hf1.mono ?_)
  clear hf1
  rintro e w3 ⟨G3, hG3, S5, hr⟩
  obtain ⟨v1, rfl, X1, c1, rfl, -, -, -⟩ := feed_ok hr 0 (by decide) (by decide)
  have hnd := rm_needs S5 (by decide)
  rw [show rmNeeds ([0, 0, 8, 6, 0] : List UInt8) false = 4 by decide] at hnd
  go_wp2_with fail
  (with_reducible refine hnd.mono ?_)
  clear hnd
  rintro e w4 ⟨rfl, rfl⟩
  have hf2 := rm_feed S5 _ ([0, 0, 0, 0, 49, 50, 51, 52, 53, 54, 55, 56] : List UInt8) (hu12.mono hG3) (by decide)
  rw [show rmFeed 100 (([0, 0, 8, 6, 0] : List UInt8), false) ([0, 0, 0, 0, 49, 50, 51, 52, 53, 54, 55, 56] : List UInt8) = ([], false) by decide] at hf2
  clear S5 hr
  go_wp2_with fail
  (with_reducible refine hf2.mono ?_)
  clear hf2
  rintro e w5 ⟨G4, hG4, S6, hr⟩
  obtain ⟨v2, rfl, X2, c2, rfl, -, -, -⟩ := feed_ok hr 1 (by decide) (by decide)
  have hn2 := rm_new_not (-1) w5 (.inl (by decide))
  go_wp2_with fail
  (with_reducible refine hn2.mono ?_)
  clear hn2
  rintro e w6 ⟨rfl, rfl⟩
  have hwt := rm_waiting S6
  go_wp2_with fail
  (with_reducible refine hwt.mono ?_)
  clear hwt
  rintro e w7 ⟨rfl, rfl⟩
  go_wp2_with fail
  exact hK.out _ _ ⟨rfl, S6.drop.above (((hG1.trans hG2).trans hG3).trans hG4)⟩
/-- Chunks of bytes that nobody turns. -/
def RBs (R : Hp) (v : Value) (bss : List (List UInt8)) : Prop :=
  ∃ A c, v = .slice A bss.length c ∧ bss.length ≤ 140737488351232 ∧ ∀ i b, bss[i]? = some b → ∃ a u, A = some a ∧ cellR R (a.add i) = some u ∧ SlB (cellR R) u b ∧ b.length ≤ 140737488351232
theorem chunks_of {R : Hp} {v : Value} {l : List D} (h : RdSl R 24 (.sl 1 (.int .u8)) v l) : ∃ bss, RBs R v bss := by
  obtain ⟨A, c, hv, hlc, hc, hb, _, hel⟩ := h.form
  have key : ∀ i, i < l.length → ∃ b : List UInt8, ∃ a u, A = some a ∧ cellR R (a.add i) = some u ∧ SlB (cellR R) u b ∧ b.length ≤ 140737488351232 := fun i hi => by
    obtain ⟨a, hA, es, he, hcl, hr⟩ := hel i l[i] (List.getElem?_eq_getElem hi)
    obtain ⟨u, rfl⟩ : ∃ u, es = [u] := by
      match es, he with
      | [u], _ => exact ⟨u, rfl⟩
    obtain ⟨d, hd⟩ : ∃ d, l[i] = .sl d := by
      cases hx : l[i] <;> rw [hx] at hr <;> simp only [Rd] at hr
      exact ⟨_, rfl⟩
    rw [hd] at hr
    have h3' : RdSl R 1 (.int .u8) u d := by simpa only [RdSl, Rd] using hr
    obtain ⟨bs, -, hbl, hs⟩ := slb_of h3'
    have h0 := hcl 0 (by simp [Ty.size])
    simp only [Ty.size, Nat.mul_one, Nat.add_zero] at h0
    exact ⟨bs, a, u, hA, h0, hs, hbl⟩
  obtain ⟨bss, hl, hbs⟩ := list_of_each (Q := fun i (b : List UInt8) => ∃ a u, A = some a ∧ cellR R (a.add i) = some u ∧ SlB (cellR R) u b ∧ b.length ≤ 140737488351232) l.length key
  exact ⟨bss, A, c, by rw [hl]; exact hv, by omega, hbs⟩
def lenAll : List (List UInt8) → Nat
  | [] => 0
  | b :: l => 3 + b.length + lenAll l
theorem lenAll_append (l l' : List (List UInt8)) : lenAll (l ++ l') = lenAll l + lenAll l' := by
  induction l with
  | nil => simp [lenAll]
  | cons b l ih => simp [lenAll, ih]; omega
theorem lenAll_take (l : List (List UInt8)) (k : Nat) : lenAll (l.take k) ≤ lenAll l := by
  have : lenAll l = lenAll (l.take k) + lenAll (l.drop k) := by rw [← lenAll_append, List.take_append_drop]
  omega
theorem lenAll_flat (l : List (List UInt8)) : l.flatten.length ≤ lenAll l := by
  induction l with
  | nil => simp [lenAll]
  | cons b l ih => rw [List.flatten_cons, List.length_append]; simp only [lenAll]; omega
theorem law_small {G : Gnd} {w : World} {l : List Asrt} (H : Sat G w l) (v : Value) (bss : List (List UInt8)) (hb : RBs G.ro v bss) :
    Calls Try.prog 7 #[v] w fun e w' => e = .returned (.bool (decide (lenAll bss ≤ 500))) ∧ w = w' := by
  refine calls_any fun K hK => ?_
  obtain ⟨A, c, rfl, hbl, hel⟩ := hb
  have HEL := Lib.hid hel
  clear hel
  go_enter Try.func7, Try.ntmps7
  go_wp2_with fail
  go_loop [3, 8] (fun n i => ∃ k : Nat, k ≤ bss.length ∧ i = .int .i64 k ∧ n = .int .i64 (lenAll (bss.take k)) ∧ lenAll (bss.take k) ≤ 500) (fun _ i => bss.length - (intOf i).toNat)
  case atStart => exact ⟨0, Nat.zero_le _, rfl, by simp [lenAll], by simp [lenAll]⟩
  case round =>
    obtain ⟨k, hk, rfl, rfl, hle⟩ := hrel
    by_cases hlt : k < bss.length
    · obtain ⟨a, u, rfl, hcl, hu, hmx⟩ := HEL.out k bss[k] (List.getElem?_eq_getElem hlt)
      have hc := H.cellR hcl
      obtain ⟨X, cx, rfl, hx1, hx2, -⟩ := hu.form
      have hst : lenAll (bss.take (k + 1)) = lenAll (bss.take k) + (3 + (bss[k]).length) := by
        rw [List.take_succ_eq_append_getElem hlt, lenAll_append]; simp [lenAll]
      have htk := lenAll_take bss (k + 1)
      have HST := Lib.hid hst
      have HTK := Lib.hid htk
      clear hu hcl hst htk
      generalize (bss[k]).length = m at *
      generalize lenAll (bss.take k) = s at *
      by_cases h500 : 500 < (s : Int) + (3 + m)
      · have hf : decide (lenAll bss ≤ 500) = false := decide_eq_false (by have := HST.out; have := HTK.out; omega)
        rw [hf] at hK
        go_wp2_with fail
        exact hK.out _ _ ⟨rfl, rfl⟩
      · go_wp2_with fail
        refine ⟨⟨k + 1, by omega, by go_num, by rw [HST.out]; first | rfl | (congr 1; omega), by rw [HST.out]; omega⟩, by simp [intOf]; omega⟩
    · obtain rfl : k = bss.length := by omega
      rw [List.take_length] at hle
      have hf : decide (lenAll bss ≤ 500) = true := decide_eq_true hle
      rw [hf] at hK
      go_wp2_with fail
      exact hK.out _ _ ⟨rfl, rfl⟩
end Go.Proofs.Ytjaikmkfpkooiaa
