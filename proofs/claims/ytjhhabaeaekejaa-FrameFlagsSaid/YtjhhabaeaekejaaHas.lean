/- The walk of the law FrameFlags. -/
import Derived.Test.YtjhhabaeaekejaaFlags
set_option linter.unusedSimpArgs false
set_option linter.unusedVariables false
namespace Go.Proofs.Ytjhhabaeaekejaa
open Go.RowKit

/-- Is a number one of the first k powers of two? -/
def oneOf (flag : Int) : Nat → Bool
  | 0 => false
  | k + 1 => oneOf flag k || flag == 2 ^ k
theorem oneOf_small : ∀ n : Fin 256, n.val = 0 ∨ oneOf (n.val : Int) 8 = (bits .and .i64 (n.val : Int) ((n.val : Int) - 1) == 0) := by decide +kernel
theorem oneOf_out (flag : Int) (h : flag ≤ 0 ∨ 255 < flag) : oneOf flag 8 = false := by
  simp [oneOf]; omega
theorem frame_has {G : Gnd} {w : World} {l : List Asrt} (H : Sat G w l) (t f s flag : Int) (v : Value) :
    Calls Try.prog 18 #[.agg #[.int .i64 t, .int .i64 f, .int .i64 s, v], .int .i64 flag] w fun e w' => e = .returned (.bool (oneOf flag 8 && bits .and .i64 f flag != 0)) ∧ Sat G w' l := by
  refine calls_any fun K hK => ?_
  have S := H.alloc (.cells #[.int .i64 t, .int .i64 f, .int .i64 s, v] 24)
  clear H
  by_cases h0 : flag > 0
  · by_cases h1 : flag ≤ 255
    · have h2 := oneOf_small ⟨flag.toNat, by omega⟩
      simp only at h2
      have e1 : ((flag.toNat : Nat) : Int) = flag := by omega
      rw [e1] at h2
      replace h2 := h2.resolve_left (by omega)
      have w1 : wrap64 (flag - 1) = flag - 1 := by unfold wrap64; omega
      rw [h2] at hK
      replace h0 := decide_eq_true h0
      replace h1 := decide_eq_true h1
      cases y : (bits .and .i64 flag (flag - 1) == 0)
      · rw [y, Bool.false_and] at hK
        clear h2 e1
        go_enter Try.func18, Try.ntmps18
        go_wp2_with fail
        exact hK.out _ _ ⟨rfl, S⟩
      · rw [y, Bool.true_and] at hK
        clear h2 e1
        go_enter Try.func18, Try.ntmps18
        go_wp2_with fail
        exact hK.out _ _ ⟨rfl, S⟩
    · rw [oneOf_out flag (.inr (by omega)), Bool.false_and] at hK
      replace h0 := decide_eq_true h0
      replace h1 := decide_eq_false h1
      go_enter Try.func18, Try.ntmps18
      go_wp2_with fail
      exact hK.out _ _ ⟨rfl, S⟩
  · rw [oneOf_out flag (.inl (by omega)), Bool.false_and] at hK
    replace h0 := decide_eq_false h0
    go_enter Try.func18, Try.ntmps18
    go_wp2_with fail
    exact hK.out _ _ ⟨rfl, S⟩
set_option maxHeartbeats 4000000 in
set_option maxRecDepth 100000 in
theorem frameFlags_walk (w : World) (v0 v1 : Value) (h0 : ∃ d, ArgV w (Ty.agg [.int .i64, .int .i64, .int .i64, .sl 1 (.int .u8)]) v0 d) (h1 : ∃ d, ArgV w (.int .i64) v1 d) :
    Calls Try.prog 6 #[v0, v1] w fun e w' => e = .returned (.bool true) ∧ Below w.heap.size w w' := by
  refine calls_any fun K hK => ?_
  obtain ⟨_, h0⟩ := h0
  obtain ⟨t, f, s, A, bs, c, rfl, -, -, -, -, hb⟩ := arg_frame h0
  obtain ⟨_, h1⟩ := h1
  obtain ⟨flag, rfl, -⟩ := arg_int h1
  clear h0 h1 hb
  have S1 := (Sat.start w).newBlk #[.int .i64 t, .int .i64 f, .int .i64 s, .slice A bs.length c] 24
  go_enter Try.func6, Try.ntmps6
  go_upto_region 2 with fail
  generalize w.heap.size = q at S1 ⊢
  refine wp_world S1 fun W S => ?_
  clear S1
  go_wp2_with fail
  go_loopw [5, 7] (fun o i wr => ∃ k : Nat, k ≤ 8 ∧ i = .int .i64 k ∧ o = .bool (oneOf flag k) ∧ W = wr) (fun _ i _ => 8 - (intOf i).toNat)
  case atStart => exact ⟨0, by omega, rfl, rfl, rfl⟩
  case round =>
    obtain ⟨k, hk, rfl, rfl, rfl⟩ := hrel
    by_cases hlt : k < 8
    · have hk8 : k = 0 ∨ k = 1 ∨ k = 2 ∨ k = 3 ∨ k = 4 ∨ k = 5 ∨ k = 6 ∨ k = 7 := by omega
      have HO : Hid (oneOf flag (k + 1) = (oneOf flag k || flag == 2 ^ k)) := rfl
      rcases hk8 with rfl | rfl | rfl | rfl | rfl | rfl | rfl | rfl
      · cases y : oneOf flag 0
        · go_wp2_with fail
          exact ⟨⟨1, by omega, rfl, by rw [show oneOf flag 1 = _ from HO.out, y]; rfl, by trivial⟩, by decide⟩
        · go_wp2_with fail
          exact ⟨⟨1, by omega, rfl, by rw [show oneOf flag 1 = _ from HO.out, y]; rfl, by trivial⟩, by decide⟩
      · cases y : oneOf flag 1
        · go_wp2_with fail
          exact ⟨⟨2, by omega, rfl, by rw [show oneOf flag 2 = _ from HO.out, y]; rfl, by trivial⟩, by decide⟩
        · go_wp2_with fail
          exact ⟨⟨2, by omega, rfl, by rw [show oneOf flag 2 = _ from HO.out, y]; rfl, by trivial⟩, by decide⟩
      · cases y : oneOf flag 2
        · go_wp2_with fail
          exact ⟨⟨3, by omega, rfl, by rw [show oneOf flag 3 = _ from HO.out, y]; rfl, by trivial⟩, by decide⟩
        · go_wp2_with fail
          exact ⟨⟨3, by omega, rfl, by rw [show oneOf flag 3 = _ from HO.out, y]; rfl, by trivial⟩, by decide⟩
      · cases y : oneOf flag 3
        · go_wp2_with fail
          exact ⟨⟨4, by omega, rfl, by rw [show oneOf flag 4 = _ from HO.out, y]; rfl, by trivial⟩, by decide⟩
        · go_wp2_with fail
          exact ⟨⟨4, by omega, rfl, by rw [show oneOf flag 4 = _ from HO.out, y]; rfl, by trivial⟩, by decide⟩
      · cases y : oneOf flag 4
        · go_wp2_with fail
          exact ⟨⟨5, by omega, rfl, by rw [show oneOf flag 5 = _ from HO.out, y]; rfl, by trivial⟩, by decide⟩
        · go_wp2_with fail
          exact ⟨⟨5, by omega, rfl, by rw [show oneOf flag 5 = _ from HO.out, y]; rfl, by trivial⟩, by decide⟩
      · cases y : oneOf flag 5
        · go_wp2_with fail
          exact ⟨⟨6, by omega, rfl, by rw [show oneOf flag 6 = _ from HO.out, y]; rfl, by trivial⟩, by decide⟩
        · go_wp2_with fail
          exact ⟨⟨6, by omega, rfl, by rw [show oneOf flag 6 = _ from HO.out, y]; rfl, by trivial⟩, by decide⟩
      · cases y : oneOf flag 6
        · go_wp2_with fail
          exact ⟨⟨7, by omega, rfl, by rw [show oneOf flag 7 = _ from HO.out, y]; rfl, by trivial⟩, by decide⟩
        · go_wp2_with fail
          exact ⟨⟨7, by omega, rfl, by rw [show oneOf flag 7 = _ from HO.out, y]; rfl, by trivial⟩, by decide⟩
      · cases y : oneOf flag 7
        · go_wp2_with fail
          exact ⟨⟨8, by omega, rfl, by rw [show oneOf flag 8 = _ from HO.out, y]; rfl, by trivial⟩, by decide⟩
        · go_wp2_with fail
          exact ⟨⟨8, by omega, rfl, by rw [show oneOf flag 8 = _ from HO.out, y]; rfl, by trivial⟩, by decide⟩
    · obtain rfl : k = 8 := by omega
      have c0 : W.cell? ⟨q, 0, none⟩ = some (.int .i64 t) := S.cell 0
      have c1 : W.cell? ⟨q, 1, none⟩ = some (.int .i64 f) := S.cell 1
      have c2 : W.cell? ⟨q, 2, none⟩ = some (.int .i64 s) := S.cell 2
      have c3 : W.cell? ⟨q, 3, none⟩ = some (.slice A bs.length c) := S.cell 3
      have hh := frame_has S t f s flag (.slice A bs.length c)
      cases y : oneOf flag 8 <;> cases z : (bits .and .i64 f flag != 0) <;> simp only [y, z, Bool.false_and, Bool.and_false, Bool.and_true, Bool.true_and] at hh
      all_goals
        go_wp2_with fail
        (with_reducible refine hh.mono ?_)
        clear hh c0 c1 c2 c3
        rintro e w1 ⟨rfl, S2⟩
        have c1 : w1.cell? ⟨q, 1, none⟩ = some (.int .i64 f) := S2.cell 1
        go_wp2_with fail
        (with_reducible refine (law_awake S2.drop).mono ?_); rintro e w9 ⟨rfl, G9, hG9, S9⟩; go_wp2_with fail; exact hK.out _ _ ⟨rfl, S9.above hG9⟩
end Go.Proofs.Ytjhhabaeaekejaa
