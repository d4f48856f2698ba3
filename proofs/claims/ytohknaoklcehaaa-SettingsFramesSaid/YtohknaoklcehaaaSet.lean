/- The walks over the settings' functions. -/
import Derived.Test.YtohknaoklcehaaaSat
import Derived.Test.YtohknaoklcehaaaCall
import Derived.StillTailTactics
set_option linter.unusedSimpArgs false
set_option linter.unusedVariables false
namespace Go.Proofs.Ytohknaoklcehaaa
open Go.RowKit

/-- Six settings. -/
structure S6 where
  (a b c d e f : Int)
def cells6 (s : S6) : Array Value := #[.int .i64 s.a, .int .i64 s.b, .int .i64 s.c, .int .i64 s.d, .int .i64 s.e, .int .i64 s.f]
def S6.set (s : S6) (n v : Int) : S6 :=
  if n = 1 then { s with a := v } else if n = 2 then { s with b := v } else if n = 3 then { s with c := v } else if n = 4 then { s with d := v } else if n = 5 then { s with e := v } else if n = 6 then { s with f := v } else s
/-- A pair is applied: the settings then, and an error's number. -/
def one6 (s : S6) (n v : Int) : S6 × Int :=
  if v < 0 ∨ 4294967295 < v then (s, 101)
  else if n < 1 ∨ 6 < n then (s, 0)
  else if n = 2 ∧ 1 < v then (s, 101)
  else if n = 4 ∧ 2147483647 < v then (s, 103)
  else if n = 5 ∧ (v < 16384 ∨ 16777215 < v) then (s, 101)
  else (s.set n v, 0)
def fault (c : Int) : Value := .agg #[.int .i64 c, .bool (c != 0)]

def setValue (n : Int) : Bool := decide (0 ≤ n) && decide (n ≤ 4294967295)
theorem set_value (n : Int) (w : World) : Calls Try.prog 24 #[.int .i64 n] w fun e w' => e = .returned (.bool (setValue n)) ∧ w = w' := by
  refine calls_any fun K hK => ?_
  by_cases h : 0 ≤ n
  · go_enter Try.func24, Try.ntmps24
    go_wp2_with fail
    exact hK.out _ _ ⟨by simp [setValue, h], rfl⟩
  · go_enter Try.func24, Try.ntmps24
    go_wp2_with fail
    exact hK.out _ _ ⟨by simp [setValue]; omega, rfl⟩
def rules (b : Nat) : Array Value := #[
  .pointer (some ⟨b, 0, none⟩), .int .i64 0, .int .i64 4294967295, .int .i64 101,
  .pointer (some ⟨b, 1, none⟩), .int .i64 0, .int .i64 1, .int .i64 101,
  .pointer (some ⟨b, 2, none⟩), .int .i64 0, .int .i64 4294967295, .int .i64 101,
  .pointer (some ⟨b, 3, none⟩), .int .i64 0, .int .i64 2147483647, .int .i64 103,
  .pointer (some ⟨b, 4, none⟩), .int .i64 16384, .int .i64 16777215, .int .i64 101,
  .pointer (some ⟨b, 5, none⟩), .int .i64 0, .int .i64 4294967295, .int .i64 101]
abbrev zrules : Array Value := #[.pointer none, .int .i64 0, .int .i64 0, .int .i64 0, .pointer none, .int .i64 0, .int .i64 0, .int .i64 0, .pointer none, .int .i64 0, .int .i64 0, .int .i64 0, .pointer none, .int .i64 0, .int .i64 0, .int .i64 0, .pointer none, .int .i64 0, .int .i64 0, .int .i64 0, .pointer none, .int .i64 0, .int .i64 0, .int .i64 0]
set_option maxHeartbeats 1000000 in
set_option maxRecDepth 100000 in
theorem set_rules (b : Nat) (w : World) : Calls Try.prog 22 #[.pointer (some ⟨b, 0, none⟩)] w fun e w' => e = .returned (.agg (rules b)) ∧ Below w.heap.size w w' := by
  refine calls_any fun K hK => ?_
  go_enter Try.func22, Try.ntmps22
  go_wp2_with fail
  go_still_tail 25, (by kernel_rfl)
  refine wpList_store_row rfl 63 (.tmp 2) (.tmp 27) rfl w.heap.size (rules b) rfl rfl 63 zrules (heap_alloc_new w _) (by kernel_rfl) rfl (by simp [rules, Value.oneCell']) ?_
  go_wp2_with fail
  refine bodyPost_ret (results_cell_row rfl _ _ w.heap.size 63 (rules b) (0, 0) _ rfl (setRow_at (heap_alloc_new w _) _) Try.underlying63 rfl (by kernel_rfl)) rfl ?_
  exact hK.out _ _ ⟨rfl, below_setRow (below_drew ((Below.refl _ _).alloc (Nat.le_refl _) _)) (Nat.le_refl _) _⟩
theorem fault_none (w : World) : Calls Try.prog 14 #[.agg #[.int .i64 0, .bool false]] w fun e w' => e = .returned (.bool true) ∧ Below w.heap.size w w' := by
  refine calls_any fun K hK => ?_
  go_enter Try.func14, Try.ntmps14
  go_wp2_with fail
  exact hK.out _ _ ⟨rfl, (Below.refl _ _).alloc (Nat.le_refl _) _⟩
theorem fault_some (c : Int) (k : Bool) (w : World) (hc : c ≠ 0) : Calls Try.prog 14 #[.agg #[.int .i64 c, .bool k]] w fun e w' => e = .returned (.bool false) ∧ Below w.heap.size w w' := by
  refine calls_any fun K hK => ?_
  have hb : (c == 0) = false := by simpa using hc
  clear hc
  go_enter Try.func14, Try.ntmps14
  go_wp2_with fail
  exact hK.out _ _ ⟨rfl, (Below.refl _ _).alloc (Nat.le_refl _) _⟩
theorem fault_ok (c : Int) (w : World) : Calls Try.prog 14 #[fault c] w fun e w' => e = .returned (.bool (c == 0)) ∧ Below w.heap.size w w' := by
  by_cases h : c = 0
  · subst h; exact fault_none w
  · have := fault_some c true w h
    have e1 : (c != 0) = true := by simpa using h
    have e2 : (c == 0) = false := by simpa using h
    unfold fault
    rw [e1, e2]
    exact this
set_option maxHeartbeats 10000000 in
set_option maxRecDepth 100000 in
theorem set_one {G : Gnd} {w : World} {b : Nat} {s : S6} {l : List Asrt} (H : Sat G w (blk b (cells6 s) 26 :: l)) (n v : Int) :
    Calls Try.prog 21 #[.pointer (some ⟨b, 0, none⟩), .agg #[.int .i64 n, .int .i64 v]] w fun e w' => e = .returned (fault (one6 s n v).2) ∧ Sat G w' (blk b (cells6 (one6 s n v).1) 26 :: l) := by
  refine calls_any fun K hK => ?_
  have hv := set_value v
  by_cases h1 : v < 0 ∨ 4294967295 < v
  · have e0 : setValue v = false := by simp [setValue]; omega
    rw [e0] at hv
    have e1 : one6 s n v = (s, 101) := by unfold one6; rw [if_pos h1]
    rw [e1] at hK
    clear e0 e1 h1
    have HS := Lib.hid H
    clear H
    go_enter Try.func21, Try.ntmps21
    go_wp2_with ((go_at_call 24; (with_reducible refine (hv _).mono ?_); rintro e w1 ⟨rfl, rfl⟩))
    refine bodyPost_ret (v := fault 101) (by simp [fault, results, Try.results21, go_sem]) rfl ?_
    exact hK.out _ _ ⟨rfl, (HS.out.alloc _).alloc _⟩
  · have e0 : setValue v = true := by simp [setValue]; omega
    rw [e0] at hv
    have S1 := (H.newBlk #[.int .i64 n, .int .i64 v] 31).newBlk #[.int .i64 0, .bool false] 38
    rw [World.size_alloc] at S1
    have v0 : 0 ≤ v := by omega
    have v1 : v ≤ 4294967295 := by omega
    clear e0 H
    have hone : ∀ r : S6 × Int, one6 s n v = r → Hid (∀ (e : Ending) (w' : World), e = .returned (fault r.2) ∧ Sat G w' (blk b (cells6 r.1) 26 :: l) → K e w') := by
      rintro r rfl; exact hK
    clear hK
    by_cases h2 : n < 1
    · have hK := hone (s, 0) (by unfold one6; rw [if_neg h1, if_pos (.inl h2)])
      clear hone h1
      go_enter Try.func21, Try.ntmps21
      go_wp2_with fail; (with_reducible refine (hv _).mono ?_); rintro e w1 ⟨rfl, rfl⟩; go_wp2_with fail; (with_reducible refine (set_rules b _).mono ?_); rintro e w2 ⟨rfl, hb2⟩; have S2 := S1.below hb2; clear hb2 S1 hv; have f0 := S2.cell 0; have f1 := S2.cell 1; have ff0 := S2.frozen 0; have ff1 := S2.frozen 1; have p0 := S2.swap.cell 0; have p1 := S2.swap.cell 1
      go_wp2_with (first | (refine st_store rfl 63 (.tmp 5) (.tmp 13) rfl _ (rules b) rfl rfl 63 zrules (S2.newBlk zrules 63) (by kernel_rfl) rfl (by simp [rules, Value.oneCell']) ?_; clear f0 f1 ff0 ff1 p0 p1 S2; intro w3 S3; have f0 := S3.swap.cell 0; have f1 := S3.swap.cell 1; have ff0 := S3.swap.frozen 0; have ff1 := S3.swap.frozen 1; have p0 := S3.pull2.cell 0; have p1 := S3.pull2.cell 1; have l0 := S3.swap.blk_lt; have l1 := S3.pull2.blk_lt; have l2 := S3.pull3.blk_lt; have l3 := S3.blk_lt) | (refine st_store rfl 38 (.tmp 4) (.tmp 22) rfl _ #[.int .i64 0, .bool (0 != 0)] rfl rfl 38 _ (S3.swap) (by kernel_rfl) rfl (by simp [Value.oneCell']) ?_; intro w5 S5))
      refine ret_cell S5 4 38 rfl _ rfl Try.underlying38 rfl (by kernel_rfl) rfl ?_
      exact hK.out _ _ ⟨rfl, S5.drop.drop.drop⟩
    by_cases h3 : 6 < n
    · have hK := hone (s, 0) (by unfold one6; rw [if_neg h1, if_pos (.inr h3)])
      clear hone h1
      go_enter Try.func21, Try.ntmps21
      go_wp2_with fail; (with_reducible refine (hv _).mono ?_); rintro e w1 ⟨rfl, rfl⟩; go_wp2_with fail; (with_reducible refine (set_rules b _).mono ?_); rintro e w2 ⟨rfl, hb2⟩; have S2 := S1.below hb2; clear hb2 S1 hv; have f0 := S2.cell 0; have f1 := S2.cell 1; have ff0 := S2.frozen 0; have ff1 := S2.frozen 1; have p0 := S2.swap.cell 0; have p1 := S2.swap.cell 1
      go_wp2_with (first | (refine st_store rfl 63 (.tmp 5) (.tmp 13) rfl _ (rules b) rfl rfl 63 zrules (S2.newBlk zrules 63) (by kernel_rfl) rfl (by simp [rules, Value.oneCell']) ?_; clear f0 f1 ff0 ff1 p0 p1 S2; intro w3 S3; have f0 := S3.swap.cell 0; have f1 := S3.swap.cell 1; have ff0 := S3.swap.frozen 0; have ff1 := S3.swap.frozen 1; have p0 := S3.pull2.cell 0; have p1 := S3.pull2.cell 1; have l0 := S3.swap.blk_lt; have l1 := S3.pull2.blk_lt; have l2 := S3.pull3.blk_lt; have l3 := S3.blk_lt) | (refine st_store rfl 38 (.tmp 4) (.tmp 22) rfl _ #[.int .i64 0, .bool (0 != 0)] rfl rfl 38 _ (S3.swap) (by kernel_rfl) rfl (by simp [Value.oneCell']) ?_; intro w5 S5))
      refine ret_cell S5 4 38 rfl _ rfl Try.underlying38 rfl (by kernel_rfl) rfl ?_
      exact hK.out _ _ ⟨rfl, S5.drop.drop.drop⟩
    by_cases n1 : n = 1
    · subst n1
      have hK := hone ({ s with a := v }, 0) (by unfold one6 S6.set; rw [if_neg h1, if_neg (by omega), if_neg (by omega), if_neg (by omega), if_neg (by omega)]; rfl)
      clear hone h1
      go_enter Try.func21, Try.ntmps21
      go_wp2_with fail; (with_reducible refine (hv _).mono ?_); rintro e w1 ⟨rfl, rfl⟩; go_wp2_with fail; (with_reducible refine (set_rules b _).mono ?_); rintro e w2 ⟨rfl, hb2⟩; have S2 := S1.below hb2; clear hb2 S1 hv; have f0 := S2.cell 0; have f1 := S2.cell 1; have ff0 := S2.frozen 0; have ff1 := S2.frozen 1; have p0 := S2.swap.cell 0; have p1 := S2.swap.cell 1
      go_wp2_with (first | ((refine st_store rfl 63 (.tmp 5) (.tmp 13) rfl _ (rules b) rfl rfl 63 zrules (S2.newBlk zrules 63) (by kernel_rfl) rfl (by simp [rules, Value.oneCell']) ?_; clear f0 f1 ff0 ff1 p0 p1 S2; intro w3 S3; have f0 := S3.swap.cell 0; have f1 := S3.swap.cell 1; have ff0 := S3.swap.frozen 0; have ff1 := S3.swap.frozen 1; have p0 := S3.pull2.cell 0; have p1 := S3.pull2.cell 1; have l0 := S3.swap.blk_lt; have l1 := S3.pull2.blk_lt; have l2 := S3.pull3.blk_lt; have l3 := S3.blk_lt); have cb : w3.cell? ⟨b, 0, none⟩ = some (.int .i64 s.a) := S3.pull3.cell 0; have fb := S3.pull3.frozen 0; have r0 : w3.cell? ⟨w2.heap.size, 0, none⟩ = some (.pointer (some ⟨b, 0, none⟩)) := S3.cell 0; have r1 : w3.cell? ⟨w2.heap.size, 1, none⟩ = some (.int .i64 0) := S3.cell 1; have r2 : w3.cell? ⟨w2.heap.size, 2, none⟩ = some (.int .i64 4294967295) := S3.cell 2; have r3 : w3.cell? ⟨w2.heap.size, 3, none⟩ = some (.int .i64 101) := S3.cell 3) | (refine st_store rfl 38 (.tmp 4) (.tmp 48) rfl _ #[.int .i64 0, .bool (0 != 0)] rfl rfl 38 _ (((S3.pull3.setCell 0 (.int .i64 v)).alloc _).pull2) (by kernel_rfl) rfl (by simp [Value.oneCell']) ?_; intro w5 S5))
      refine ret_cell S5 4 38 rfl _ rfl Try.underlying38 rfl (by kernel_rfl) rfl ?_
      exact hK.out _ _ ⟨rfl, S5.drop.drop2.drop2⟩
    by_cases n2 : n = 2
    · subst n2
      by_cases bad : 1 < v
      · have hK := hone (s, 101) (by unfold one6; rw [if_neg h1, if_neg (by omega), if_pos ⟨rfl, bad⟩])
        clear hone h1
        go_enter Try.func21, Try.ntmps21
        go_wp2_with fail; (with_reducible refine (hv _).mono ?_); rintro e w1 ⟨rfl, rfl⟩; go_wp2_with fail; (with_reducible refine (set_rules b _).mono ?_); rintro e w2 ⟨rfl, hb2⟩; have S2 := S1.below hb2; clear hb2 S1 hv; have f0 := S2.cell 0; have f1 := S2.cell 1; have ff0 := S2.frozen 0; have ff1 := S2.frozen 1; have p0 := S2.swap.cell 0; have p1 := S2.swap.cell 1
        go_wp2_with (first | ((refine st_store rfl 63 (.tmp 5) (.tmp 13) rfl _ (rules b) rfl rfl 63 zrules (S2.newBlk zrules 63) (by kernel_rfl) rfl (by simp [rules, Value.oneCell']) ?_; clear f0 f1 ff0 ff1 p0 p1 S2; intro w3 S3; have f0 := S3.swap.cell 0; have f1 := S3.swap.cell 1; have ff0 := S3.swap.frozen 0; have ff1 := S3.swap.frozen 1; have p0 := S3.pull2.cell 0; have p1 := S3.pull2.cell 1; have l0 := S3.swap.blk_lt; have l1 := S3.pull2.blk_lt; have l2 := S3.pull3.blk_lt; have l3 := S3.blk_lt); have r4 : w3.cell? ⟨w2.heap.size, 4, none⟩ = some (.pointer (some ⟨b, 1, none⟩)) := S3.cell 4; have r5 : w3.cell? ⟨w2.heap.size, 5, none⟩ = some (.int .i64 0) := S3.cell 5; have r6 : w3.cell? ⟨w2.heap.size, 6, none⟩ = some (.int .i64 1) := S3.cell 6; have r7 : w3.cell? ⟨w2.heap.size, 7, none⟩ = some (.int .i64 101) := S3.cell 7) | (refine st_store rfl 38 (.tmp 4) (.tmp 42) rfl _ #[.int .i64 101, .bool (101 != 0)] rfl rfl 38 _ ((S3.alloc _).swap) (by kernel_rfl) rfl (by simp [Value.oneCell']) ?_; intro w5 S5))
        refine ret_cell S5 4 38 rfl _ rfl Try.underlying38 rfl (by kernel_rfl) rfl ?_
        exact hK.out _ _ ⟨rfl, S5.drop.drop.drop⟩
      have hK := hone ({ s with b := v }, 0) (by unfold one6 S6.set; rw [if_neg h1, if_neg (by omega), if_neg (by omega), if_neg (by omega), if_neg (by omega)]; rfl)
      clear hone h1
      go_enter Try.func21, Try.ntmps21
      go_wp2_with fail; (with_reducible refine (hv _).mono ?_); rintro e w1 ⟨rfl, rfl⟩; go_wp2_with fail; (with_reducible refine (set_rules b _).mono ?_); rintro e w2 ⟨rfl, hb2⟩; have S2 := S1.below hb2; clear hb2 S1 hv; have f0 := S2.cell 0; have f1 := S2.cell 1; have ff0 := S2.frozen 0; have ff1 := S2.frozen 1; have p0 := S2.swap.cell 0; have p1 := S2.swap.cell 1
      go_wp2_with (first | ((refine st_store rfl 63 (.tmp 5) (.tmp 13) rfl _ (rules b) rfl rfl 63 zrules (S2.newBlk zrules 63) (by kernel_rfl) rfl (by simp [rules, Value.oneCell']) ?_; clear f0 f1 ff0 ff1 p0 p1 S2; intro w3 S3; have f0 := S3.swap.cell 0; have f1 := S3.swap.cell 1; have ff0 := S3.swap.frozen 0; have ff1 := S3.swap.frozen 1; have p0 := S3.pull2.cell 0; have p1 := S3.pull2.cell 1; have l0 := S3.swap.blk_lt; have l1 := S3.pull2.blk_lt; have l2 := S3.pull3.blk_lt; have l3 := S3.blk_lt); have cb : w3.cell? ⟨b, 1, none⟩ = some (.int .i64 s.b) := S3.pull3.cell 1; have fb := S3.pull3.frozen 1; have r4 : w3.cell? ⟨w2.heap.size, 4, none⟩ = some (.pointer (some ⟨b, 1, none⟩)) := S3.cell 4; have r5 : w3.cell? ⟨w2.heap.size, 5, none⟩ = some (.int .i64 0) := S3.cell 5; have r6 : w3.cell? ⟨w2.heap.size, 6, none⟩ = some (.int .i64 1) := S3.cell 6; have r7 : w3.cell? ⟨w2.heap.size, 7, none⟩ = some (.int .i64 101) := S3.cell 7) | (refine st_store rfl 38 (.tmp 4) (.tmp 48) rfl _ #[.int .i64 0, .bool (0 != 0)] rfl rfl 38 _ (((S3.pull3.setCell 1 (.int .i64 v)).alloc _).pull2) (by kernel_rfl) rfl (by simp [Value.oneCell']) ?_; intro w5 S5))
      refine ret_cell S5 4 38 rfl _ rfl Try.underlying38 rfl (by kernel_rfl) rfl ?_
      exact hK.out _ _ ⟨rfl, S5.drop.drop2.drop2⟩
    by_cases n3 : n = 3
    · subst n3
      have hK := hone ({ s with c := v }, 0) (by unfold one6 S6.set; rw [if_neg h1, if_neg (by omega), if_neg (by omega), if_neg (by omega), if_neg (by omega)]; rfl)
      clear hone h1
      go_enter Try.func21, Try.ntmps21
      go_wp2_with fail; (with_reducible refine (hv _).mono ?_); rintro e w1 ⟨rfl, rfl⟩; go_wp2_with fail; (with_reducible refine (set_rules b _).mono ?_); rintro e w2 ⟨rfl, hb2⟩; have S2 := S1.below hb2; clear hb2 S1 hv; have f0 := S2.cell 0; have f1 := S2.cell 1; have ff0 := S2.frozen 0; have ff1 := S2.frozen 1; have p0 := S2.swap.cell 0; have p1 := S2.swap.cell 1
      go_wp2_with (first | ((refine st_store rfl 63 (.tmp 5) (.tmp 13) rfl _ (rules b) rfl rfl 63 zrules (S2.newBlk zrules 63) (by kernel_rfl) rfl (by simp [rules, Value.oneCell']) ?_; clear f0 f1 ff0 ff1 p0 p1 S2; intro w3 S3; have f0 := S3.swap.cell 0; have f1 := S3.swap.cell 1; have ff0 := S3.swap.frozen 0; have ff1 := S3.swap.frozen 1; have p0 := S3.pull2.cell 0; have p1 := S3.pull2.cell 1; have l0 := S3.swap.blk_lt; have l1 := S3.pull2.blk_lt; have l2 := S3.pull3.blk_lt; have l3 := S3.blk_lt); have cb : w3.cell? ⟨b, 2, none⟩ = some (.int .i64 s.c) := S3.pull3.cell 2; have fb := S3.pull3.frozen 2; have r8 : w3.cell? ⟨w2.heap.size, 8, none⟩ = some (.pointer (some ⟨b, 2, none⟩)) := S3.cell 8; have r9 : w3.cell? ⟨w2.heap.size, 9, none⟩ = some (.int .i64 0) := S3.cell 9; have r10 : w3.cell? ⟨w2.heap.size, 10, none⟩ = some (.int .i64 4294967295) := S3.cell 10; have r11 : w3.cell? ⟨w2.heap.size, 11, none⟩ = some (.int .i64 101) := S3.cell 11) | (refine st_store rfl 38 (.tmp 4) (.tmp 48) rfl _ #[.int .i64 0, .bool (0 != 0)] rfl rfl 38 _ (((S3.pull3.setCell 2 (.int .i64 v)).alloc _).pull2) (by kernel_rfl) rfl (by simp [Value.oneCell']) ?_; intro w5 S5))
      refine ret_cell S5 4 38 rfl _ rfl Try.underlying38 rfl (by kernel_rfl) rfl ?_
      exact hK.out _ _ ⟨rfl, S5.drop.drop2.drop2⟩
    by_cases n4 : n = 4
    · subst n4
      by_cases bad : 2147483647 < v
      · have hK := hone (s, 103) (by unfold one6; rw [if_neg h1, if_neg (by omega), if_neg (by omega), if_pos ⟨rfl, bad⟩])
        clear hone h1
        go_enter Try.func21, Try.ntmps21
        go_wp2_with fail; (with_reducible refine (hv _).mono ?_); rintro e w1 ⟨rfl, rfl⟩; go_wp2_with fail; (with_reducible refine (set_rules b _).mono ?_); rintro e w2 ⟨rfl, hb2⟩; have S2 := S1.below hb2; clear hb2 S1 hv; have f0 := S2.cell 0; have f1 := S2.cell 1; have ff0 := S2.frozen 0; have ff1 := S2.frozen 1; have p0 := S2.swap.cell 0; have p1 := S2.swap.cell 1
        go_wp2_with (first | ((refine st_store rfl 63 (.tmp 5) (.tmp 13) rfl _ (rules b) rfl rfl 63 zrules (S2.newBlk zrules 63) (by kernel_rfl) rfl (by simp [rules, Value.oneCell']) ?_; clear f0 f1 ff0 ff1 p0 p1 S2; intro w3 S3; have f0 := S3.swap.cell 0; have f1 := S3.swap.cell 1; have ff0 := S3.swap.frozen 0; have ff1 := S3.swap.frozen 1; have p0 := S3.pull2.cell 0; have p1 := S3.pull2.cell 1; have l0 := S3.swap.blk_lt; have l1 := S3.pull2.blk_lt; have l2 := S3.pull3.blk_lt; have l3 := S3.blk_lt); have r12 : w3.cell? ⟨w2.heap.size, 12, none⟩ = some (.pointer (some ⟨b, 3, none⟩)) := S3.cell 12; have r13 : w3.cell? ⟨w2.heap.size, 13, none⟩ = some (.int .i64 0) := S3.cell 13; have r14 : w3.cell? ⟨w2.heap.size, 14, none⟩ = some (.int .i64 2147483647) := S3.cell 14; have r15 : w3.cell? ⟨w2.heap.size, 15, none⟩ = some (.int .i64 103) := S3.cell 15) | (refine st_store rfl 38 (.tmp 4) (.tmp 42) rfl _ #[.int .i64 103, .bool (103 != 0)] rfl rfl 38 _ ((S3.alloc _).swap) (by kernel_rfl) rfl (by simp [Value.oneCell']) ?_; intro w5 S5))
        refine ret_cell S5 4 38 rfl _ rfl Try.underlying38 rfl (by kernel_rfl) rfl ?_
        exact hK.out _ _ ⟨rfl, S5.drop.drop.drop⟩
      have hK := hone ({ s with d := v }, 0) (by unfold one6 S6.set; rw [if_neg h1, if_neg (by omega), if_neg (by omega), if_neg (by omega), if_neg (by omega)]; rfl)
      clear hone h1
      go_enter Try.func21, Try.ntmps21
      go_wp2_with fail; (with_reducible refine (hv _).mono ?_); rintro e w1 ⟨rfl, rfl⟩; go_wp2_with fail; (with_reducible refine (set_rules b _).mono ?_); rintro e w2 ⟨rfl, hb2⟩; have S2 := S1.below hb2; clear hb2 S1 hv; have f0 := S2.cell 0; have f1 := S2.cell 1; have ff0 := S2.frozen 0; have ff1 := S2.frozen 1; have p0 := S2.swap.cell 0; have p1 := S2.swap.cell 1
      go_wp2_with (first | ((refine st_store rfl 63 (.tmp 5) (.tmp 13) rfl _ (rules b) rfl rfl 63 zrules (S2.newBlk zrules 63) (by kernel_rfl) rfl (by simp [rules, Value.oneCell']) ?_; clear f0 f1 ff0 ff1 p0 p1 S2; intro w3 S3; have f0 := S3.swap.cell 0; have f1 := S3.swap.cell 1; have ff0 := S3.swap.frozen 0; have ff1 := S3.swap.frozen 1; have p0 := S3.pull2.cell 0; have p1 := S3.pull2.cell 1; have l0 := S3.swap.blk_lt; have l1 := S3.pull2.blk_lt; have l2 := S3.pull3.blk_lt; have l3 := S3.blk_lt); have cb : w3.cell? ⟨b, 3, none⟩ = some (.int .i64 s.d) := S3.pull3.cell 3; have fb := S3.pull3.frozen 3; have r12 : w3.cell? ⟨w2.heap.size, 12, none⟩ = some (.pointer (some ⟨b, 3, none⟩)) := S3.cell 12; have r13 : w3.cell? ⟨w2.heap.size, 13, none⟩ = some (.int .i64 0) := S3.cell 13; have r14 : w3.cell? ⟨w2.heap.size, 14, none⟩ = some (.int .i64 2147483647) := S3.cell 14; have r15 : w3.cell? ⟨w2.heap.size, 15, none⟩ = some (.int .i64 103) := S3.cell 15) | (refine st_store rfl 38 (.tmp 4) (.tmp 48) rfl _ #[.int .i64 0, .bool (0 != 0)] rfl rfl 38 _ (((S3.pull3.setCell 3 (.int .i64 v)).alloc _).pull2) (by kernel_rfl) rfl (by simp [Value.oneCell']) ?_; intro w5 S5))
      refine ret_cell S5 4 38 rfl _ rfl Try.underlying38 rfl (by kernel_rfl) rfl ?_
      exact hK.out _ _ ⟨rfl, S5.drop.drop2.drop2⟩
    by_cases n5 : n = 5
    · subst n5
      by_cases bad : v < 16384
      · have hK := hone (s, 101) (by unfold one6; rw [if_neg h1, if_neg (by omega), if_neg (by omega), if_neg (by omega), if_pos ⟨rfl, .inl bad⟩])
        clear hone h1
        go_enter Try.func21, Try.ntmps21
        go_wp2_with fail; (with_reducible refine (hv _).mono ?_); rintro e w1 ⟨rfl, rfl⟩; go_wp2_with fail; (with_reducible refine (set_rules b _).mono ?_); rintro e w2 ⟨rfl, hb2⟩; have S2 := S1.below hb2; clear hb2 S1 hv; have f0 := S2.cell 0; have f1 := S2.cell 1; have ff0 := S2.frozen 0; have ff1 := S2.frozen 1; have p0 := S2.swap.cell 0; have p1 := S2.swap.cell 1
        go_wp2_with (first | ((refine st_store rfl 63 (.tmp 5) (.tmp 13) rfl _ (rules b) rfl rfl 63 zrules (S2.newBlk zrules 63) (by kernel_rfl) rfl (by simp [rules, Value.oneCell']) ?_; clear f0 f1 ff0 ff1 p0 p1 S2; intro w3 S3; have f0 := S3.swap.cell 0; have f1 := S3.swap.cell 1; have ff0 := S3.swap.frozen 0; have ff1 := S3.swap.frozen 1; have p0 := S3.pull2.cell 0; have p1 := S3.pull2.cell 1; have l0 := S3.swap.blk_lt; have l1 := S3.pull2.blk_lt; have l2 := S3.pull3.blk_lt; have l3 := S3.blk_lt); have r16 : w3.cell? ⟨w2.heap.size, 16, none⟩ = some (.pointer (some ⟨b, 4, none⟩)) := S3.cell 16; have r17 : w3.cell? ⟨w2.heap.size, 17, none⟩ = some (.int .i64 16384) := S3.cell 17; have r18 : w3.cell? ⟨w2.heap.size, 18, none⟩ = some (.int .i64 16777215) := S3.cell 18; have r19 : w3.cell? ⟨w2.heap.size, 19, none⟩ = some (.int .i64 101) := S3.cell 19) | (refine st_store rfl 38 (.tmp 4) (.tmp 42) rfl _ #[.int .i64 101, .bool (101 != 0)] rfl rfl 38 _ ((S3.alloc _).swap) (by kernel_rfl) rfl (by simp [Value.oneCell']) ?_; intro w5 S5))
        refine ret_cell S5 4 38 rfl _ rfl Try.underlying38 rfl (by kernel_rfl) rfl ?_
        exact hK.out _ _ ⟨rfl, S5.drop.drop.drop⟩
      by_cases bad : 16777215 < v
      · have hK := hone (s, 101) (by unfold one6; rw [if_neg h1, if_neg (by omega), if_neg (by omega), if_neg (by omega), if_pos ⟨rfl, .inr bad⟩])
        clear hone h1
        go_enter Try.func21, Try.ntmps21
        go_wp2_with fail; (with_reducible refine (hv _).mono ?_); rintro e w1 ⟨rfl, rfl⟩; go_wp2_with fail; (with_reducible refine (set_rules b _).mono ?_); rintro e w2 ⟨rfl, hb2⟩; have S2 := S1.below hb2; clear hb2 S1 hv; have f0 := S2.cell 0; have f1 := S2.cell 1; have ff0 := S2.frozen 0; have ff1 := S2.frozen 1; have p0 := S2.swap.cell 0; have p1 := S2.swap.cell 1
        go_wp2_with (first | ((refine st_store rfl 63 (.tmp 5) (.tmp 13) rfl _ (rules b) rfl rfl 63 zrules (S2.newBlk zrules 63) (by kernel_rfl) rfl (by simp [rules, Value.oneCell']) ?_; clear f0 f1 ff0 ff1 p0 p1 S2; intro w3 S3; have f0 := S3.swap.cell 0; have f1 := S3.swap.cell 1; have ff0 := S3.swap.frozen 0; have ff1 := S3.swap.frozen 1; have p0 := S3.pull2.cell 0; have p1 := S3.pull2.cell 1; have l0 := S3.swap.blk_lt; have l1 := S3.pull2.blk_lt; have l2 := S3.pull3.blk_lt; have l3 := S3.blk_lt); have r16 : w3.cell? ⟨w2.heap.size, 16, none⟩ = some (.pointer (some ⟨b, 4, none⟩)) := S3.cell 16; have r17 : w3.cell? ⟨w2.heap.size, 17, none⟩ = some (.int .i64 16384) := S3.cell 17; have r18 : w3.cell? ⟨w2.heap.size, 18, none⟩ = some (.int .i64 16777215) := S3.cell 18; have r19 : w3.cell? ⟨w2.heap.size, 19, none⟩ = some (.int .i64 101) := S3.cell 19) | (refine st_store rfl 38 (.tmp 4) (.tmp 42) rfl _ #[.int .i64 101, .bool (101 != 0)] rfl rfl 38 _ ((S3.alloc _).swap) (by kernel_rfl) rfl (by simp [Value.oneCell']) ?_; intro w5 S5))
        refine ret_cell S5 4 38 rfl _ rfl Try.underlying38 rfl (by kernel_rfl) rfl ?_
        exact hK.out _ _ ⟨rfl, S5.drop.drop.drop⟩
      have hK := hone ({ s with e := v }, 0) (by unfold one6 S6.set; rw [if_neg h1, if_neg (by omega), if_neg (by omega), if_neg (by omega), if_neg (by omega)]; rfl)
      clear hone h1
      go_enter Try.func21, Try.ntmps21
      go_wp2_with fail; (with_reducible refine (hv _).mono ?_); rintro e w1 ⟨rfl, rfl⟩; go_wp2_with fail; (with_reducible refine (set_rules b _).mono ?_); rintro e w2 ⟨rfl, hb2⟩; have S2 := S1.below hb2; clear hb2 S1 hv; have f0 := S2.cell 0; have f1 := S2.cell 1; have ff0 := S2.frozen 0; have ff1 := S2.frozen 1; have p0 := S2.swap.cell 0; have p1 := S2.swap.cell 1
      go_wp2_with (first | ((refine st_store rfl 63 (.tmp 5) (.tmp 13) rfl _ (rules b) rfl rfl 63 zrules (S2.newBlk zrules 63) (by kernel_rfl) rfl (by simp [rules, Value.oneCell']) ?_; clear f0 f1 ff0 ff1 p0 p1 S2; intro w3 S3; have f0 := S3.swap.cell 0; have f1 := S3.swap.cell 1; have ff0 := S3.swap.frozen 0; have ff1 := S3.swap.frozen 1; have p0 := S3.pull2.cell 0; have p1 := S3.pull2.cell 1; have l0 := S3.swap.blk_lt; have l1 := S3.pull2.blk_lt; have l2 := S3.pull3.blk_lt; have l3 := S3.blk_lt); have cb : w3.cell? ⟨b, 4, none⟩ = some (.int .i64 s.e) := S3.pull3.cell 4; have fb := S3.pull3.frozen 4; have r16 : w3.cell? ⟨w2.heap.size, 16, none⟩ = some (.pointer (some ⟨b, 4, none⟩)) := S3.cell 16; have r17 : w3.cell? ⟨w2.heap.size, 17, none⟩ = some (.int .i64 16384) := S3.cell 17; have r18 : w3.cell? ⟨w2.heap.size, 18, none⟩ = some (.int .i64 16777215) := S3.cell 18; have r19 : w3.cell? ⟨w2.heap.size, 19, none⟩ = some (.int .i64 101) := S3.cell 19) | (refine st_store rfl 38 (.tmp 4) (.tmp 48) rfl _ #[.int .i64 0, .bool (0 != 0)] rfl rfl 38 _ (((S3.pull3.setCell 4 (.int .i64 v)).alloc _).pull2) (by kernel_rfl) rfl (by simp [Value.oneCell']) ?_; intro w5 S5))
      refine ret_cell S5 4 38 rfl _ rfl Try.underlying38 rfl (by kernel_rfl) rfl ?_
      exact hK.out _ _ ⟨rfl, S5.drop.drop2.drop2⟩
    by_cases n6 : n = 6
    · subst n6
      have hK := hone ({ s with f := v }, 0) (by unfold one6 S6.set; rw [if_neg h1, if_neg (by omega), if_neg (by omega), if_neg (by omega), if_neg (by omega)]; rfl)
      clear hone h1
      go_enter Try.func21, Try.ntmps21
      go_wp2_with fail; (with_reducible refine (hv _).mono ?_); rintro e w1 ⟨rfl, rfl⟩; go_wp2_with fail; (with_reducible refine (set_rules b _).mono ?_); rintro e w2 ⟨rfl, hb2⟩; have S2 := S1.below hb2; clear hb2 S1 hv; have f0 := S2.cell 0; have f1 := S2.cell 1; have ff0 := S2.frozen 0; have ff1 := S2.frozen 1; have p0 := S2.swap.cell 0; have p1 := S2.swap.cell 1
      go_wp2_with (first | ((refine st_store rfl 63 (.tmp 5) (.tmp 13) rfl _ (rules b) rfl rfl 63 zrules (S2.newBlk zrules 63) (by kernel_rfl) rfl (by simp [rules, Value.oneCell']) ?_; clear f0 f1 ff0 ff1 p0 p1 S2; intro w3 S3; have f0 := S3.swap.cell 0; have f1 := S3.swap.cell 1; have ff0 := S3.swap.frozen 0; have ff1 := S3.swap.frozen 1; have p0 := S3.pull2.cell 0; have p1 := S3.pull2.cell 1; have l0 := S3.swap.blk_lt; have l1 := S3.pull2.blk_lt; have l2 := S3.pull3.blk_lt; have l3 := S3.blk_lt); have cb : w3.cell? ⟨b, 5, none⟩ = some (.int .i64 s.f) := S3.pull3.cell 5; have fb := S3.pull3.frozen 5; have r20 : w3.cell? ⟨w2.heap.size, 20, none⟩ = some (.pointer (some ⟨b, 5, none⟩)) := S3.cell 20; have r21 : w3.cell? ⟨w2.heap.size, 21, none⟩ = some (.int .i64 0) := S3.cell 21; have r22 : w3.cell? ⟨w2.heap.size, 22, none⟩ = some (.int .i64 4294967295) := S3.cell 22; have r23 : w3.cell? ⟨w2.heap.size, 23, none⟩ = some (.int .i64 101) := S3.cell 23) | (refine st_store rfl 38 (.tmp 4) (.tmp 48) rfl _ #[.int .i64 0, .bool (0 != 0)] rfl rfl 38 _ (((S3.pull3.setCell 5 (.int .i64 v)).alloc _).pull2) (by kernel_rfl) rfl (by simp [Value.oneCell']) ?_; intro w5 S5))
      refine ret_cell S5 4 38 rfl _ rfl Try.underlying38 rfl (by kernel_rfl) rfl ?_
      exact hK.out _ _ ⟨rfl, S5.drop.drop2.drop2⟩
    exfalso; omega
end Go.Proofs.Ytohknaoklcehaaa
