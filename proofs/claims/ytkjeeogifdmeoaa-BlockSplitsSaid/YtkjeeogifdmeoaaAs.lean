/- An assembler in memory; the walks that only read it. -/
import Derived.Test.YtkjeeogifdmeoaaApp2
import Derived.Test.YtkjeeogifdmeoaaFld
import Derived.Test.YtkjeeogifdmeoaaPerm
import Derived.Deep.QuietTactic
import Derived.BigQuiet
import Derived.Deep.Cut
set_option linter.unusedSimpArgs false
set_option linter.unusedVariables false
namespace Go.Proofs.Ytkjeeogifdmeoaa
open Go.RowKit

theorem Sat.drewQ {G : Gnd} {w : World} {l : List Asrt} (H : Sat G w l) (n : Nat) : Sat G (w.drewN n) l := H.below ⟨rfl, rfl, rfl, Nat.le_refl _, fun _ _ => rfl⟩
theorem SlB.up {R R' : Hp} {v : Value} {bs : List UInt8} (h : SlB (cellR R) v bs) (hR : ∀ k o, R k = some o → R' k = some o) : SlB (cellR R') v bs := by
  obtain ⟨⟨A, c, e, h1, h2, h3⟩, h4⟩ := h
  exact ⟨⟨A, c, e, h1, h2, fun j u hj => by obtain ⟨a, ha, hc⟩ := h3 j u hj; exact ⟨a, ha, cellR_mono hR hc⟩⟩, h4⟩
theorem no_of {f : Nat → Bool} {i j : Nat} (h : f i = true → f j = true) (hj : f j = false) : f i = false := by
  cases hx : f i with
  | false => rfl
  | true => rw [h hx] at hj; cases hj
/-- A block's state: is it within one, of which stream, its text, does the stream end. -/
structure BSt where
  w : Bool
  s : Int
  t : List UInt8
  e : Bool
def asA (p : Nat) (lim : Int) (b : BSt) : Asrt :=
  ⟨fun R h => ∃ v, h p = some (.cells #[.int .i64 lim, .bool b.w, .int .i64 b.s, v, .bool b.e] 62 (0, 0)) ∧ SlB (cellR R) v b.t, fun hR ⟨v, h1, h2⟩ => ⟨v, h1, h2.up hR⟩⟩
section
variable {G : Gnd} {w : World} {l : List Asrt} {p : Nat} {lim : Int} {b : BSt}
theorem as_iff : Sat G w (asA p lim b :: l) ↔ ∃ v, SlB (cellR G.ro) v b.t ∧ Sat G w (blk p #[.int .i64 lim, .bool b.w, .int .i64 b.s, v, .bool b.e] 62 :: l) := by
  constructor
  · intro H
    obtain ⟨a, b', cc, lo, dd, h, f, k, h1, h2, x1, x2, x3, p, q⟩ := id H
    obtain ⟨v, p1, p2⟩ := p
    exact ⟨v, p2, a, b', cc, lo, dd, h, f, k, h1, h2, x1, x2, x3, p1, q⟩
  · rintro ⟨v, hv, H⟩
    exact H.conv fun h hb => ⟨v, hb, hv⟩
theorem as_new_not (n : Int) (w : World) (h : n < 0 ∨ 1048576 < n) : Calls Try.prog 9 #[.int .i64 n] w fun e w' => e = .returned (.tuple #[.pointer none, .int .i64 11]) ∧ w = w' := by
  refine calls_any fun K hK => ?_
  by_cases h0 : n < 0
  · go_enter Try.func9, Try.ntmps9
    go_wp2_with fail
    exact hK.out _ _ ⟨rfl, rfl⟩
  · have h1 : 1048576 < n := by omega
    go_enter Try.func9, Try.ntmps9
    go_wp2_with fail
    exact hK.out _ _ ⟨rfl, rfl⟩
def idle : BSt := ⟨false, 0, [], false⟩
theorem as_new (H : Sat G w l) (n : Int) (h0 : 0 ≤ n) (h1 : n ≤ 1048576) : Calls Try.prog 9 #[.int .i64 n] w fun e w' => ∃ p, e = .returned (.tuple #[.pointer (some ⟨p, 0, none⟩), .int .i64 0]) ∧ Sat G w' (asA p n idle :: l) := by
  refine calls_any fun K hK => ?_
  have S := H.newBlk #[.int .i64 n, .bool false, .int .i64 0, .slice none 0 0, .bool false] 62
  clear H
  go_enter Try.func9, Try.ntmps9
  go_wp2_with fail
  exact hK.out _ _ ⟨_, rfl, as_iff.2 ⟨_, SlB.nil _, S⟩⟩
theorem as_waiting (H : Sat G w (asA p lim b :: l)) : Calls Try.prog 13 #[.pointer (some ⟨p, 0, none⟩)] w fun e w' => e = .returned (.int .i64 b.t.length) ∧ w = w' := by
  refine calls_any fun K hK => ?_
  obtain ⟨v, hv, S⟩ := as_iff.1 H
  obtain ⟨A, c, rfl, -, -, -⟩ := hv.form
  have c1 : w.cell? ⟨p, 3, none⟩ = some (.slice A b.t.length c) := S.cell 3
  clear H S hv
  go_enter Try.func13, Try.ntmps13
  go_wp2_with fail
  exact hK.out _ _ ⟨rfl, rfl⟩
theorem as_within (H : Sat G w (asA p lim b :: l)) : Calls Try.prog 11 #[.pointer (some ⟨p, 0, none⟩)] w fun e w' => e = .returned (.tuple #[.int .i64 b.s, .bool b.w]) ∧ Sat G w' (asA p lim b :: l) := by
  refine calls_any fun K hK => ?_
  obtain ⟨v, hv, S⟩ := as_iff.1 H
  have c1 : w.cell? ⟨p, 1, none⟩ = some (.bool b.w) := S.cell 1
  have c2 : w.cell? ⟨p, 2, none⟩ = some (.int .i64 b.s) := S.cell 2
  have HH := Lib.hid H
  clear S hv H
  generalize hbw : b.w = bw at *
  generalize hbs : b.s = bs at *
  clear hbw hbs
  go_enter Try.func11, Try.ntmps11
  go_wp2_with fail
  go_quiet (fail)
  go_wp2_with fail
  exact hK.out _ _ ⟨rfl, HH.out.drewQ _⟩
end
theorem law_number (b : Bool) (w : World) : Calls Try.prog 20 #[.bool b] w fun e w' => e = .returned (.int .i64 (if b then 1 else 0)) ∧ w = w' := by
  refine calls_any fun K hK => ?_
  cases b
  · go_enter Try.func20, Try.ntmps20
    go_wp2_with fail
    exact hK.out _ _ ⟨rfl, rfl⟩
  · go_enter Try.func20, Try.ntmps20
    go_wp2_with fail
    exact hK.out _ _ ⟨rfl, rfl⟩
theorem law_wrong (c : Int) (b : Bool) (w : World) : Calls Try.prog 14 #[.agg #[.int .i64 c, .bool b]] w fun e w' => e = .returned (.bool (decide (c = 101 ∧ b = true))) ∧ Below w.heap.size w w' := by
  refine calls_any fun K hK => ?_
  have BB : ∀ o, Below w.heap.size w (w.alloc o) := fun o => (Below.refl _ _).alloc (Nat.le_refl _) o
  by_cases h : c = 101 ∧ b = true
  · rw [decide_eq_true h] at hK
    obtain ⟨rfl, rfl⟩ := h
    go_enter Try.func14, Try.ntmps14
    go_wp2_with fail
    exact hK.out _ _ ⟨rfl, BB _⟩
  · rw [decide_eq_false h] at hK
    go_enter Try.func14, Try.ntmps14
    go_wp2_with fail
    all_goals first | exact hK.out _ _ ⟨rfl, BB _⟩ | (exfalso; simp_all; done)
theorem fault_ok (c : Int) (b : Bool) (w : World) : Calls Try.prog 15 #[.agg #[.int .i64 c, .bool b]] w fun e w' => e = .returned (.bool (decide (c = 0 ∧ b = false))) ∧ Below w.heap.size w w' := by
  refine calls_any fun K hK => ?_
  have BB : ∀ o, Below w.heap.size w (w.alloc o) := fun o => (Below.refl _ _).alloc (Nat.le_refl _) o
  by_cases h : c = 0 ∧ b = false
  · rw [decide_eq_true h] at hK
    obtain ⟨rfl, rfl⟩ := h
    go_enter Try.func15, Try.ntmps15
    go_wp2_with fail
    exact hK.out _ _ ⟨rfl, BB _⟩
  · rw [decide_eq_false h] at hK
    go_enter Try.func15, Try.ntmps15
    go_wp2_with fail
    all_goals first | exact hK.out _ _ ⟨rfl, BB _⟩ | (exfalso; simp_all; done)
/-- What an item says, as far as a block is concerned; what else it says. -/
structure ItD where
  k : Int
  s : Int
  v : Value
  e : Bool
  l : Bool
  a : Bool
  n1 : Int
  n2 : Int
  n3 : Int
  n4 : Int
  n5 : Int
  n6 : Int
  b1 : Bool
  b2 : Bool
  q : Value
def ItD.cells (x : ItD) : Array Value := #[.int .i64 x.k, .int .i64 x.s, x.v, .bool x.e, .bool x.l, .bool x.a, .int .i64 x.n1, .int .i64 x.n2, .int .i64 x.n3, .int .i64 x.n4, .int .i64 x.n5, .int .i64 x.n6, .bool x.b1, .bool x.b2, x.q]
def ItD.ok (x : ItD) : Prop := (∃ A n c, x.v = .slice A n c) ∧ ∃ A n c, x.q = .slice A n c
def mayB (b : BSt) (k s : Int) : Bool := if b.w then k == 9 && s == b.s else !(k == 9)
section
variable {G : Gnd} {w : World} {l : List Asrt} {p : Nat} {lim : Int} {b : BSt}
set_option maxHeartbeats 1000000 in
theorem as_may (H : Sat G w (asA p lim b :: l)) (x : ItD) (hx : x.ok) : Calls Try.prog 21 #[.pointer (some ⟨p, 0, none⟩), .agg x.cells] w fun e w' => e = .returned (.bool (mayB b x.k x.s)) ∧ Sat G w' (asA p lim b :: l) := by
  refine calls_any fun K hK => ?_
  obtain ⟨v, hv, S⟩ := as_iff.1 H
  clear H
  obtain ⟨⟨A, n, c, hxv⟩, B, m, d, hxq⟩ := hx
  unfold ItD.cells
  rw [hxv, hxq]
  clear hxv hxq
  have S2 := S.newBlk #[.int .i64 x.k, .int .i64 x.s, .slice A n c, .bool x.e, .bool x.l, .bool x.a, .int .i64 x.n1, .int .i64 x.n2, .int .i64 x.n3, .int .i64 x.n4, .int .i64 x.n5, .int .i64 x.n6, .bool x.b1, .bool x.b2, .slice B m d] 34
  have HS := Lib.hid (as_iff.2 ⟨v, hv, S2.drop⟩)
  have c1 := S.cell 1
  have c2 := S.cell 2
  have d1 := S2.swap.cell 1
  have d2 := S2.swap.cell 2
  clear S S2 hv
  unfold mayB at hK
  generalize x.k = k at *
  generalize x.s = s at *
  generalize hbs : b.s = bs at *
  have HBS := Lib.hid hbs
  clear hbs
  cases hbw : b.w with
  | false =>
    rw [hbw] at c1 d1 hK
    clear hbw
    cases hk : (k == 9) with
    | true =>
      rw [hk] at hK
      go_enter Try.func21, Try.ntmps21
      go_wp2_with fail
      exact hK.out _ _ ⟨rfl, HS.out⟩
    | false =>
      rw [hk] at hK
      go_enter Try.func21, Try.ntmps21
      go_wp2_with fail
      exact hK.out _ _ ⟨rfl, HS.out⟩
  | true =>
    rw [hbw] at c1 d1 hK
    clear hbw
    cases hk : (k == 9) with
    | false =>
      rw [hk] at hK
      go_enter Try.func21, Try.ntmps21
      go_wp2_with fail
      go_quiet (fail)
      go_wp2_with fail
      exact hK.out _ _ ⟨rfl, HS.out.drewQ _⟩
    | true =>
      rw [hk] at hK
      cases hs : (s == bs) with
      | false =>
        rw [hs] at hK
        go_enter Try.func21, Try.ntmps21
        go_wp2_with fail
        go_quiet (fail)
        go_wp2_with fail
        exact hK.out _ _ ⟨rfl, HS.out.drewQ _⟩
      | true =>
        rw [hs] at hK
        go_enter Try.func21, Try.ntmps21
        go_wp2_with fail
        go_quiet (fail)
        go_wp2_with fail
        exact hK.out _ _ ⟨rfl, HS.out.drewQ _⟩
end
end Go.Proofs.Ytkjeeogifdmeoaa
