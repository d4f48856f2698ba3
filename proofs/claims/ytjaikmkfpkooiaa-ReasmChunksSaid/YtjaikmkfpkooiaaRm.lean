/- The walks over reasm.Reasm: New, Dead, Waiting, Needs. -/
import Derived.Test.YtjaikmkfpkooiaaAll
import Derived.Test.YtjaikmkfpkooiaaRef9
set_option linter.unusedSimpArgs false
set_option linter.unusedVariables false
namespace Go.Proofs.Ytjaikmkfpkooiaa
open Go.RowKit

theorem SlB.up {R R' : Hp} {v : Value} {bs : List UInt8} (h : SlB (cellR R) v bs) (hR : ∀ k o, R k = some o → R' k = some o) : SlB (cellR R') v bs := by
  obtain ⟨⟨A, c, e, h1, h2, h3⟩, h4⟩ := h
  exact ⟨⟨A, c, e, h1, h2, fun j u hj => by obtain ⟨a, ha, hc⟩ := h3 j u hj; exact ⟨a, ha, cellR_mono hR hc⟩⟩, h4⟩
/-- A reassembler: its bytes, and whether it is dead. -/
def rmA (r : Nat) (most : Int) (bs : List UInt8) (d : Bool) : Asrt :=
  ⟨fun R h => ∃ v, h r = some (.cells #[.int .i64 most, v, .bool d] 48 (0, 0)) ∧ SlB (cellR R) v bs, fun hR ⟨v, h1, h2⟩ => ⟨v, h1, h2.up hR⟩⟩
theorem rm_iff {G : Gnd} {w : World} {l : List Asrt} {r : Nat} {most : Int} {bs : List UInt8} {d : Bool} : Sat G w (rmA r most bs d :: l) ↔ ∃ v, SlB (cellR G.ro) v bs ∧ Sat G w (blk r #[.int .i64 most, v, .bool d] 48 :: l) := by
  constructor
  · intro H
    obtain ⟨a, b', cc, lo, dd, h, f, k, h1, h2, x1, x2, x3, p, q⟩ := id H
    obtain ⟨v, p1, p2⟩ := p
    exact ⟨v, p2, a, b', cc, lo, dd, h, f, k, h1, h2, x1, x2, x3, p1, q⟩
  · rintro ⟨v, hv, H⟩
    exact H.conv fun h hb => ⟨v, hb, hv⟩
section
variable {G : Gnd} {w : World} {l : List Asrt} {r : Nat} {most : Int} {bs : List UInt8} {d : Bool}
theorem rm_new_not (most : Int) (w : World) (h : most < 0 ∨ 16777215 < most) :
    Calls Try.prog 9 #[.int .i64 most] w fun e w' => e = .returned (.tuple #[.pointer none, .int .i64 11]) ∧ w = w' := by
  refine calls_any fun K hK => ?_
  by_cases h0 : most < 0
  · go_enter Try.func9, Try.ntmps9
    go_wp2_with fail
    exact hK.out _ _ ⟨rfl, rfl⟩
  · have h1 : 16777215 < most := by omega
    go_enter Try.func9, Try.ntmps9
    go_wp2_with fail
    exact hK.out _ _ ⟨rfl, rfl⟩
theorem rm_new (H : Sat G w l) (most : Int) (h0 : 0 ≤ most) (h1 : most ≤ 16777215) :
    Calls Try.prog 9 #[.int .i64 most] w fun e w' => ∃ r, e = .returned (.tuple #[.pointer (some ⟨r, 0, none⟩), .int .i64 0]) ∧ Sat G w' (rmA r most [] false :: l) := by
  refine calls_any fun K hK => ?_
  have S := H.newBlk #[.int .i64 most, .slice none 0 0, .bool false] 48
  clear H
  go_enter Try.func9, Try.ntmps9
  go_wp2_with fail
  exact hK.out _ _ ⟨_, rfl, rm_iff.2 ⟨_, SlB.nil _, S⟩⟩
theorem rm_dead (H : Sat G w (rmA r most bs d :: l)) :
    Calls Try.prog 11 #[.pointer (some ⟨r, 0, none⟩)] w fun e w' => e = .returned (.bool d) ∧ w = w' := by
  refine calls_any fun K hK => ?_
  obtain ⟨v, hv, S⟩ := rm_iff.1 H
  have c2 : w.cell? ⟨r, 2, none⟩ = some (.bool d) := S.cell 2
  clear H S hv
  go_enter Try.func11, Try.ntmps11
  go_wp2_with fail
  exact hK.out _ _ ⟨rfl, rfl⟩
theorem rm_waiting (H : Sat G w (rmA r most bs d :: l)) :
    Calls Try.prog 13 #[.pointer (some ⟨r, 0, none⟩)] w fun e w' => e = .returned (.int .i64 bs.length) ∧ w = w' := by
  refine calls_any fun K hK => ?_
  obtain ⟨v, hv, S⟩ := rm_iff.1 H
  obtain ⟨A, c, rfl, -, -, -⟩ := hv.form
  have c1 : w.cell? ⟨r, 1, none⟩ = some (.slice A bs.length c) := S.cell 1
  clear H S hv
  go_enter Try.func13, Try.ntmps13
  go_wp2_with fail
  exact hK.out _ _ ⟨rfl, rfl⟩
/-- How many more there must be. -/
def rmNeeds (bs : List UInt8) (d : Bool) : Int := if d then 0 else if bs.length < 9 then 9 - bs.length else 9 + hdN bs - bs.length
theorem rm_needs (H : Sat G w (rmA r most bs d :: l)) (hl : bs.length ≤ 1000000000) :
    Calls Try.prog 14 #[.pointer (some ⟨r, 0, none⟩)] w fun e w' => e = .returned (.int .i64 (rmNeeds bs d)) ∧ w = w' := by
  refine calls_any fun K hK => ?_
  obtain ⟨v, hv, S⟩ := rm_iff.1 H
  obtain ⟨A, c, rfl, hc1, hc2, -⟩ := hv.form
  have hc3 : c ≤ 9223372036854775807 := hc2
  have c1 : w.cell? ⟨r, 1, none⟩ = some (.slice A bs.length c) := S.cell 1
  have c2 : w.cell? ⟨r, 2, none⟩ = some (.bool d) := S.cell 2
  have hv1 := hv.sat S
  clear H S hv
  cases d with
  | true =>
    clear hv1
    go_enter Try.func14, Try.ntmps14
    go_wp2_with fail
    exact hK.out _ _ ⟨rfl, rfl⟩
  | false =>
    by_cases h9 : bs.length < 9
    · have e1 : rmNeeds bs false = 9 - bs.length := by unfold rmNeeds; rw [if_neg (by decide), if_pos h9]
      rw [e1] at hK
      clear hv1 e1
      go_enter Try.func14, Try.ntmps14
      go_wp2_with fail
      exact hK.out _ _ ⟨rfl, rfl⟩
    · have e1 : rmNeeds bs false = 9 + hdN bs - bs.length := by unfold rmNeeds; rw [if_neg (by decide), if_neg h9]
      rw [e1] at hK
      have hn := octet_num (bs.take 3) (.slice A 3 c) w (hv1.to 3 (by omega) c (by omega) (Nat.le_refl _)).1
      have l3 : (bs.take 3).length = 3 := by rw [List.length_take]; omega
      rw [l3, if_pos (by decide), decide_eq_true (by decide)] at hn
      change Calls _ _ _ _ (fun e w' => e = .returned (.tuple #[.int .u64 (hdN bs), .bool true]) ∧ _) at hn
      obtain ⟨hz, -⟩ := head_bounds bs
      clear hv1 e1 l3
      generalize hdN bs = n at *
      go_enter Try.func14, Try.ntmps14
      go_wp2_with fail
      (with_reducible refine hn.mono ?_)
      clear hn
      rintro e w1 ⟨rfl, rfl⟩
      go_wp2_with fail
      exact hK.out _ _ ⟨rfl, rfl⟩
end
/-- How many frames bytes begin with (n: more than there can be). -/
def kof (most : Int) (cat : List UInt8) : Nat → Nat
  | 0 => 0
  | n + 1 => if headE (eat cat (kof most cat n)) most = 0 then kof most cat n + 1 else kof most cat n
theorem kof_eq {most : Int} {cat : List UInt8} {K : Nat} (h : Eats cat most K) (h' : headE (eat cat K) most ≠ 0) : ∀ n, kof most cat n = min n K
  | 0 => by simp [kof]
  | n + 1 => by
    have ih := kof_eq h h' n
    simp only [kof, ih]
    by_cases hn : n < K
    · rw [Nat.min_eq_left (by omega), if_pos (h n hn)]; omega
    · rw [Nat.min_eq_right (by omega), if_neg h']; omega
/-- A chunk comes: what is left, and whether it is dead. -/
def rmFeed (most : Int) (st : List UInt8 × Bool) (b : List UInt8) : List UInt8 × Bool :=
  if st.2 then st else
    let cat := st.1 ++ b
    let K := kof most cat (cat.length + 1)
    if headE (eat cat K) most = 106 then ([], true) else (eat cat K, false)
theorem feed_dead (most : Int) (bs b : List UInt8) : rmFeed most (bs, true) b = (bs, true) := rfl
theorem feed_of {most : Int} {bs b : List UInt8} {K : Nat} (h : Eats (bs ++ b) most K) (h' : headE (eat (bs ++ b) K) most ≠ 0) :
    rmFeed most (bs, false) b = if headE (eat (bs ++ b) K) most = 106 then ([], true) else (eat (bs ++ b) K, false) := by
  have hk := kof_eq h h' ((bs ++ b).length + 1)
  have := eat_len h
  rw [Nat.min_eq_right (by omega)] at hk
  unfold rmFeed
  simp only [hk]
  rfl
theorem feed_len (most : Int) (st : List UInt8 × Bool) (b : List UInt8) : (rmFeed most st b).1.length ≤ st.1.length + b.length := by
  obtain ⟨bs, d⟩ := st
  cases d with
  | true => simp [feed_dead]
  | false =>
    have key : ∀ n, Eats (bs ++ b) most (kof most (bs ++ b) n) := by
      intro n
      induction n with
      | zero => intro i hi; simp [kof] at hi
      | succ n ih =>
        simp only [kof]
        split
        · exact ih.succ (by assumption)
        · exact ih
    have := eat_len (key ((bs ++ b).length + 1))
    unfold rmFeed
    simp only
    split
    · simp_all
    · split
      · simp
      · simp only [List.length_append] at this ⊢; omega
end Go.Proofs.Ytjaikmkfpkooiaa
