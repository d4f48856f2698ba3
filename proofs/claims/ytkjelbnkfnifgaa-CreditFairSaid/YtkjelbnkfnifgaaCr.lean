/- The connection's window in parts: what it is in memory, and the walks that only read it. -/
import Derived.Test.YtkjelbnkfnifgaaParts
import Derived.Test.YtkjelbnkfnifgaaRegJ
import Derived.Test.YtkjelbnkfnifgaaOpt
import Derived.Deep.Cut
set_option linter.unusedSimpArgs false
set_option linter.unusedVariables false
namespace Go.Proofs.Ytkjelbnkfnifgaa
open Go.RowKit

def psum (t : Int) (m : Nat) : Nat → Int
  | 0 => 0
  | k + 1 => psum t m k + part t m k
theorem psum_eq (t : Int) (m k : Nat) (h0 : 0 ≤ t) (hm : 0 < m) : psum t m k = k * (t / m) + min (k : Int) (t % m) := by
  have hr := Int.emod_nonneg t (show (m : Int) ≠ 0 by omega)
  induction k with
  | zero => simp [psum]; omega
  | succ k ih =>
    rw [psum, ih]
    unfold part
    have : ((k + 1 : Nat) : Int) * (t / m) = k * (t / m) + t / m := by rw [Int.natCast_add, Int.add_mul]; simp
    rw [this]
    split <;> omega
theorem psum_all (t : Int) (m : Nat) (h0 : 0 ≤ t) (hm : 0 < m) : psum t m m = t := by
  rw [psum_eq t m m h0 hm]
  have e1 := Int.mul_ediv_add_emod t m
  have e2 := Int.emod_lt_of_pos t (show (0 : Int) < m by omega)
  omega
theorem part_nonneg (t : Int) (m k : Nat) (h0 : 0 ≤ t) : 0 ≤ part t m k := by
  unfold part
  have := Int.ediv_nonneg h0 (show (0 : Int) ≤ m by omega)
  split <;> omega
theorem psum_mono (t : Int) (m : Nat) (h0 : 0 ≤ t) : ∀ k d, psum t m k ≤ psum t m (k + d) := by
  intro k d
  induction d with
  | zero => exact Int.le_refl _
  | succ d ih =>
    have := part_nonneg t m (k + d) h0
    show _ ≤ psum t m (k + d) + part t m (k + d)
    omega
theorem psum_range (t : Int) (m k : Nat) (h0 : 0 ≤ t) (hm : 0 < m) (hk : k ≤ m) : 0 ≤ psum t m k ∧ psum t m k ≤ t := by
  have h1 := psum_mono t m h0 0 k
  have h2 := psum_mono t m h0 k (m - k)
  rw [show k + (m - k) = m by omega, psum_all t m h0 hm] at h2
  rw [Nat.zero_add] at h1
  exact ⟨h1, h2⟩
theorem part_fall (t : Int) (m i j : Nat) (h : i ≤ j) : part t m j ≤ part t m i := by
  unfold part
  split <;> split <;> omega
theorem part_near (t : Int) (m i j : Nat) : part t m i - part t m j ≤ 1 := by
  unfold part
  split <;> split <;> omega
theorem part_lt (t : Int) (m k : Nat) (h0 : 0 ≤ t) (h1 : t ≤ 9223372036854775807) (hm : 0 < m) (hk : k < m) : part t m k ≤ t := by
  have h1 := psum_range t m k h0 hm (by omega)
  have h2 := psum_range t m (k + 1) h0 hm (by omega)
  have : psum t m (k + 1) = psum t m k + part t m k := rfl
  omega
def ints (L : List Int) : List Value := L.map (Value.int .i64)
def isum : List Int → Int
  | [] => 0
  | x :: l => x + isum l
theorem isum_append (a b : List Int) : isum (a ++ b) = isum a + isum b := by
  induction a with
  | nil => simp [isum]
  | cons x a ih => simp [isum, ih]; omega
theorem isum_nonneg {L : List Int} (h : ∀ x ∈ L, 0 ≤ x) : 0 ≤ isum L := by
  induction L with
  | nil => exact Int.le_refl _
  | cons x a ih =>
    have := ih fun y hy => h y (.tail _ hy)
    have := h x (.head _)
    simp [isum]; omega
theorem le_isum {L : List Int} (h : ∀ x ∈ L, 0 ≤ x) : ∀ x ∈ L, x ≤ isum L := by
  induction L with
  | nil => intro x hx; cases hx
  | cons y a ih =>
    have h1 := isum_nonneg fun z hz => h z (.tail _ hz)
    have h2 := h y (.head _)
    intro x hx
    cases hx with
    | head => simp [isum]; omega
    | tail _ hx => have := ih (fun z hz => h z (.tail _ hz)) x hx; simp [isum]; omega
theorem isum_set : ∀ (L : List Int) (i : Nat) (x : Int), i < L.length → isum (L.set i x) = isum L - L.getD i 0 + x
  | [], i, x, h => by simp at h
  | y :: L, 0, x, h => by simp [isum]; omega
  | y :: L, i + 1, x, h => by
    have := isum_set L i x (by simpa using h)
    simp [isum] at this ⊢
    omega
structure Good (L : List Int) : Prop where
  pos : 1 ≤ L.length
  len : L.length ≤ 64
  nonneg : ∀ x ∈ L, 0 ≤ x
  sum : isum L ≤ 2147483647
theorem getD_mem {L : List Int} {i : Nat} (h : i < L.length) : L.getD i 0 ∈ L := by
  rw [List.getD_eq_getElem?_getD, List.getElem?_eq_getElem h]; exact List.getElem_mem h
theorem Good.at_ {L : List Int} (g : Good L) {i : Nat} (h : i < L.length) : 0 ≤ L.getD i 0 ∧ L.getD i 0 ≤ isum L := ⟨g.nonneg _ (getD_mem h), le_isum g.nonneg _ (getD_mem h)⟩
theorem Good.s0 {L : List Int} (g : Good L) : 0 ≤ isum L := isum_nonneg g.nonneg
/-- The credit at p: its parts, and how many grants there were. -/
def crA (p : Nat) (L : List Int) (T : Nat) : Asrt := ex fun v => star [blk p #[.int .i64 (isum L), v, .int .i64 ((T % L.length : Nat) : Int)] 52, ownS 49 1 v L.length (ints L)]
section
variable {G : Gnd} {w w' : World} {l : List Asrt} {p : Nat} {L : List Int} {T : Nat}
theorem cr_iff : Sat G w (crA p L T :: l) ↔ ∃ v, Sat G w (blk p #[.int .i64 (isum L), v, .int .i64 ((T % L.length : Nat) : Int)] 52 :: ownS 49 1 v L.length (ints L) :: l) := by
  unfold crA
  rw [Sat.ex_iff]
  simp only [Sat.star_iff]
  rfl
theorem cr_open (H : Sat G w (crA p L T :: l)) (hL : 1 ≤ L.length) : ∃ g cap cur, Sat G w (blk p #[.int .i64 (isum L), .slice (some ⟨g, 0, none⟩) L.length cap, .int .i64 ((T % L.length : Nat) : Int)] 52 :: blk g cur 49 :: l) ∧
    L.length ≤ cap ∧ cap ≤ maxLen ∧ cur.size = cap ∧ cur.toList.take L.length = ints L := by
  obtain ⟨v, S⟩ := cr_iff.1 H
  obtain ⟨_, ⟨_, h0, _⟩ | ⟨g, cap, cur, rfl, h1, h2, h3, h4, S⟩⟩ := own_iff.1 S.swap
  · omega
  · exact ⟨g, cap, cur, S.swap, h1, h2, by omega, by rw [Nat.mul_one] at h4; exact h4⟩
theorem cr_close {g cap : Nat} {cur : Array Value} {s t : Int} {n : Nat} (S : Sat G w (blk p #[.int .i64 s, .slice (some ⟨g, 0, none⟩) n cap, .int .i64 t] 52 :: blk g cur 49 :: l)) (hs : s = isum L) (ht : t = ((T % L.length : Nat) : Int)) (hn : n = L.length)
    (h1 : L.length ≤ cap) (h2 : cap ≤ maxLen) (h3 : cur.size = cap) (h4 : cur.toList.take L.length = ints L) : Sat G w (crA p L T :: l) := by
  subst hs ht hn
  exact cr_iff.2 ⟨_, (own_iff.2 ⟨by simp [ints], .inr ⟨g, cap, cur, rfl, h1, h2, by omega, by rw [Nat.mul_one]; exact h4, S.swap⟩⟩).swap⟩
theorem cur_at {cur : Array Value} {n i : Nat} (h : cur.toList.take n = ints L) (hn : n = L.length) (hi : i < L.length) : cur[i]? = some (.int .i64 (L.getD i 0)) := by
  have e : (cur.toList.take n)[i]? = (ints L)[i]? := by rw [h]
  rw [List.getElem?_take, if_pos (by omega)] at e
  rw [← Array.getElem?_toList, e]
  simp [ints, hi]
theorem cur_set {cur : Array Value} {n i : Nat} (h : cur.toList.take n = ints L) (x : Int) : (cur.setIfInBounds i (.int .i64 x)).toList.take n = ints (L.set i x) := by
  rw [Array.toList_setIfInBounds, List.take_set, h]
  simp [ints, List.map_set]
/-- The window at a place of a row. -/
theorem grow_at {b off : Nat} {cells : Array Value} {t : TypeId} {m n : Int} (S : Sat G w (blk b cells t :: l)) (hm : cells[off]? = some (.int .i64 m)) (h0 : -2147483648 ≤ m) (h1 : m ≤ 2147483647) :
    Calls Try.prog 20 #[.pointer (some ⟨b, off, none⟩), .int .i64 n] w fun e w' => e = .returned (.int .i64 (winGrow m n).2) ∧ Sat G w' (blk b (cells.setIfInBounds off (.int .i64 (winGrow m n).1)) t :: l) :=
  (win_grow b off m n w h0 h1 ((S.cell off).trans hm) (S.frozen off)).mono fun e w' ⟨h, h'⟩ => ⟨h, h' ▸ S.setCell off _⟩
theorem spend_at {b off : Nat} {cells : Array Value} {t : TypeId} {m n : Int} (S : Sat G w (blk b cells t :: l)) (hm : cells[off]? = some (.int .i64 m)) (h0 : -2147483648 ≤ m) (h1 : m ≤ 2147483647) :
    Calls Try.prog 22 #[.pointer (some ⟨b, off, none⟩), .int .i64 n] w fun e w' => e = .returned (.int .i64 (winSpend m n).2) ∧ Sat G w' (blk b (cells.setIfInBounds off (.int .i64 (winSpend m n).1)) t :: l) :=
  (win_spend b off m n w h0 h1 ((S.cell off).trans hm) (S.frozen off)).mono fun e w' ⟨h, w1, hb, h'⟩ => ⟨h, h' ▸ (S.below hb).setCell off _⟩
def crHas (m : Nat) (k : Int) : Bool := decide (0 ≤ k ∧ k < m)
theorem cr_has (H : Sat G w (crA p L T :: l)) (hL : 1 ≤ L.length) (k : Int) : Calls Try.prog 21 #[.pointer (some ⟨p, 0, none⟩), .int .i64 k] w fun e w' => e = .returned (.bool (crHas L.length k)) ∧ w = w' := by
  refine calls_any fun K hK => ?_
  obtain ⟨g, cap, cur, S, -⟩ := cr_open H hL
  have c1 : w.cell? ⟨p, 1, none⟩ = some (.slice (some ⟨g, 0, none⟩) L.length cap) := S.cell 1
  clear S H
  generalize L.length = m at *
  by_cases a1 : k ≥ 0
  · by_cases a2 : k < m
    · rw [show crHas m k = true from decide_eq_true ⟨a1, a2⟩] at hK
      replace a1 := decide_eq_true a1
      replace a2 := decide_eq_true a2
      go_enter Try.func21, Try.ntmps21
      go_wp2_with fail
      exact hK.out _ _ ⟨rfl, rfl⟩
    · rw [show crHas m k = false from decide_eq_false fun h => a2 h.2] at hK
      replace a1 := decide_eq_true a1
      replace a2 := decide_eq_false a2
      go_enter Try.func21, Try.ntmps21
      go_wp2_with fail
      exact hK.out _ _ ⟨rfl, rfl⟩
  · rw [show crHas m k = false from decide_eq_false fun h => a1 h.1] at hK
    replace a1 := decide_eq_false a1
    go_enter Try.func21, Try.ntmps21
    go_wp2_with fail
    exact hK.out _ _ ⟨rfl, rfl⟩
/-- A tenant's part. -/
def crLeft (L : List Int) (k : Int) : Int := if crHas L.length k then L.getD k.toNat 0 else 0
theorem cr_left (H : Sat G w (crA p L T :: l)) (hL : 1 ≤ L.length) (k : Int) : Calls Try.prog 11 #[.pointer (some ⟨p, 0, none⟩), .int .i64 k] w fun e w' => e = .returned (.int .i64 (crLeft L k)) ∧ Below w.heap.size w w' := by
  refine calls_any fun K hK => ?_
  have hh := cr_has H hL k
  cases h : crHas L.length k with
  | false =>
    rw [h] at hh
    rw [show crLeft L k = 0 by unfold crLeft; rw [h]; rfl] at hK
    go_enter Try.func11, Try.ntmps11
    go_wp2_with fail
    (with_reducible refine hh.mono ?_)
    rintro e w1 ⟨rfl, rfl⟩
    go_wp2_with fail
    exact hK.out _ _ ⟨rfl, Below.refl _ _⟩
  | true =>
    rw [h] at hh
    rw [show crLeft L k = L.getD k.toNat 0 by unfold crLeft; rw [h]; rfl] at hK
    obtain ⟨k0, k1⟩ := of_decide_eq_true h
    obtain ⟨k, rfl⟩ : ∃ j : Nat, k = j := ⟨k.toNat, by omega⟩
    obtain ⟨g, cap, cur, S, h1, h2, h3, h4⟩ := cr_open H hL
    have c1 : w.cell? ⟨p, 1, none⟩ = some (.slice (some ⟨g, 0, none⟩) L.length cap) := S.cell 1
    have c2 : w.cell? ⟨g, k, none⟩ = some (.int .i64 (L.getD k 0)) := (S.swap.cell k).trans (cur_at h4 rfl (by omega))
    rw [Int.toNat_natCast] at hK
    have hk : k < L.length := by omega
    clear S H h1 h2 h3 h4 h
    generalize L.length = m at *
    generalize L.getD k 0 = x at *
    go_enter Try.func11, Try.ntmps11
    go_wp2_with fail
    (with_reducible refine hh.mono ?_)
    rintro e w1 ⟨rfl, rfl⟩
    go_wp2_with fail
    (with_reducible refine (win_size _ _).mono ?_)
    rintro e w4 ⟨rfl, hb4⟩
    have HB := Lib.hid hb4
    clear hb4
    go_wp2_with fail
    exact hK.out _ _ ⟨rfl, HB.out⟩
theorem cr_whole (H : Sat G w (crA p L T :: l)) : Calls Try.prog 17 #[.pointer (some ⟨p, 0, none⟩)] w fun e w' => e = .returned (.int .i64 (isum L)) ∧ Below w.heap.size w w' := by
  refine calls_any fun K hK => ?_
  obtain ⟨v, S⟩ := cr_iff.1 H
  have c1 : w.cell? ⟨p, 0, none⟩ = some (.int .i64 (isum L)) := S.cell 0
  clear S H
  go_enter Try.func17, Try.ntmps17
  go_wp2_with fail
  (with_reducible refine (win_size _ _).mono ?_)
  rintro e w4 ⟨rfl, hb4⟩
  have HB := Lib.hid hb4
  clear hb4
  go_wp2_with fail
  exact hK.out _ _ ⟨rfl, HB.out⟩
end
end Go.Proofs.Ytkjelbnkfnifgaa
