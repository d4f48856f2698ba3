/- The walk over window.Parts: a number, split. -/
import Derived.Test.YtkjelbnkfnifgaaWin
import Derived.Deep.OwnRows
set_option linter.unusedSimpArgs false
set_option linter.unusedVariables false
namespace Go.Proofs.Ytkjelbnkfnifgaa
open Go.RowKit

theorem info_int : (Try.prog.info? 3).map (fun i => (i.zero, i.size, i.bytes)) = some (some (.int .i64 0), 1, 8) := by kernel_rfl
def part (t : Int) (m i : Nat) : Int := t / m + if (i : Int) < t % m then 1 else 0
def parts (t : Int) (m : Nat) : List Int := (List.range m).map (part t m)
theorem win_parts_none (t n : Int) (w : World) (h : n < 1 ∨ 64 < n ∨ t < 0) :
    Calls Try.prog 18 #[.int .i64 t, .int .i64 n] w fun e w' => e = .returned (.slice none 0 0) ∧ w = w' := by
  refine calls_any fun K hK => ?_
  by_cases h1 : n < 1
  · go_enter Try.func18, Try.ntmps18
    go_wp2_with fail
    exact hK.out _ _ ⟨rfl, rfl⟩
  · by_cases h2 : 64 < n
    · go_enter Try.func18, Try.ntmps18
      go_wp2_with fail
      exact hK.out _ _ ⟨rfl, rfl⟩
    · have h3 : t < 0 := by omega
      go_enter Try.func18, Try.ntmps18
      go_wp2_with fail
      exact hK.out _ _ ⟨rfl, rfl⟩
/-- After k rounds: the first k cells. -/
structure PartsAt (t : Int) (m k : Nat) (w wr : World) : Prop where
  below : Below w.heap.size w wr
  row : ∃ cs, wr.heap[w.heap.size]? = some (.cells cs 3 (0, 0)) ∧ cs.size = m ∧ ∀ j, j < k → cs[j]? = some (.int .i64 (part t m j))
theorem PartsAt.step {t : Int} {m k : Nat} {w wr : World} (h : PartsAt t m k w wr) (hk : k < m) (v : Int) (hv : v = part t m k) :
    PartsAt t m (k + 1) w (wr.setCell ⟨w.heap.size, k, none⟩ (.int .i64 v)) := by
  obtain ⟨hb, cs, hh, hs, hc⟩ := h
  refine ⟨hb.setCell (Nat.le_refl _) _, cs.setIfInBounds k (.int .i64 v), by simp [World.setCell, Array.getElem?_modify, hh], by simpa using hs, fun j hj => ?_⟩
  rw [Array.getElem?_setIfInBounds]
  by_cases e : k = j
  · subst e; simp [hs, hk, hv]
  · rw [if_neg e]; exact hc j (by omega)
theorem PartsAt.step2 {t : Int} {m k : Nat} {w wr : World} (h : PartsAt t m k w wr) (hk : k < m) (u v : Int) (hv : v = part t m k) :
    PartsAt t m (k + 1) w ((wr.setCell ⟨w.heap.size, k, none⟩ (.int .i64 u)).setCell ⟨w.heap.size, k, none⟩ (.int .i64 v)) := by
  obtain ⟨hb, cs, hh, hs, hc⟩ := h
  refine ⟨(hb.setCell (Nat.le_refl _) _).setCell (Nat.le_refl _) _, (cs.setIfInBounds k (.int .i64 u)).setIfInBounds k (.int .i64 v), by simp [World.setCell, Array.getElem?_modify, hh], by simpa using hs, fun j hj => ?_⟩
  rw [Array.getElem?_setIfInBounds]
  by_cases e : k = j
  · subst e; simp [hs, hk, hv]
  · rw [if_neg e, Array.getElem?_setIfInBounds, if_neg e]; exact hc j (by omega)
set_option maxHeartbeats 1000000 in
theorem win_parts (t : Int) (m : Nat) (w : World) (h0 : 0 ≤ t) (h1 : t ≤ 9223372036854775807) (hm0 : 1 ≤ m) (hm : m ≤ 64) :
    Calls Try.prog 18 #[.int .i64 t, .int .i64 m] w fun e w' => e = .returned (.slice (some ⟨w.heap.size, 0, none⟩) m m) ∧ Below w.heap.size w w' ∧
      w'.heap[w.heap.size]? = some (.cells ((parts t m).map (Value.int .i64)).toArray 3 (0, 0)) := by
  refine calls_any fun K hK => ?_
  have hmk := run_make_row' (P := Try.prog) 34 3 (.int .i64 0) 8 Try.underlying34 info_int rfl .i64 .i64 m (by omega) (by omega)
  go_enter Try.func18, Try.ntmps18
  go_wp2_with fail
  go_loopw [21] (fun i wr => ∃ k : Nat, k ≤ m ∧ i = .int .i64 k ∧ PartsAt t m k w wr) (fun i _ => m - (intOf i).toNat)
  case atStart =>
    exact ⟨0, Nat.zero_le _, rfl, (Below.refl _ _).alloc (Nat.le_refl _) _, _, heap_alloc_new w _, size_madeCells _ _, fun j hj => absurd hj (Nat.not_lt_zero _)⟩
  case round =>
    obtain ⟨k, hk, rfl, hp⟩ := hrel
    by_cases hlt : k < m
    · obtain ⟨cs, hh, hs, hc⟩ := hp.row
      have hcell : ∃ v, wr.cell? ⟨w.heap.size, k, none⟩ = some v := ⟨cs[k]'(by omega), by simp [World.cell?, hh, hs, hlt]⟩
      obtain ⟨v, hcell⟩ := hcell
      have hfr := frozen_of_block hh k
      have hq : 0 ≤ t / m := Int.ediv_nonneg h0 (by omega)
      have hq2 : t / m ≤ t := Int.ediv_le_self _ h0
      have HP := Lib.hid hp
      clear hh hs hc hp
      by_cases hr : (k : Int) < t % m
      · have hq3 : t / m ≤ 4611686018427387904 := by
          have e1 := Int.mul_ediv_add_emod t m
          have e2 := Int.emod_lt_of_pos t (show (0 : Int) < m by omega)
          have e3 : (2 : Int) * (t / m) ≤ m * (t / m) := Int.mul_le_mul_of_nonneg_right (by omega) hq
          omega
        go_wp2_with fail
        go_roundw
        case rel => exact ⟨k + 1, by omega, by go_num, HP.out.step2 hlt _ _ (by unfold part; rw [if_pos hr])⟩
        case measure => simp [intOf]; omega
      · go_wp2_with fail
        go_roundw
        case rel => exact ⟨k + 1, by omega, by go_num, HP.out.step hlt _ (by unfold part; rw [if_neg hr]; omega)⟩
        case measure => simp [intOf]; omega
    · have HP := Lib.hid hp
      clear hp
      go_wp2_with fail
      refine hK.out _ _ ⟨rfl, HP.out.below, ?_⟩
      obtain ⟨cs, hh, hs, hc⟩ := HP.out.row
      rw [hh]
      have : cs = ((parts t m).map (Value.int .i64)).toArray := by
        apply Array.ext_getElem?
        intro j
        by_cases hj : j < m
        · rw [hc j (by omega)]; simp [parts, hj]
        · rw [Array.getElem?_eq_none (by omega)]; simp [parts, hj]
      rw [this]
end Go.Proofs.Ytkjelbnkfnifgaa
