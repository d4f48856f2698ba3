/- An item in memory; the walks over own and weigh. -/
import Derived.Test.YtdfdcenbpanegaaPl
import Derived.Deep.QuietTactic
import Derived.BigQuiet
import Derived.Deep.Cut
set_option linter.unusedSimpArgs false
set_option linter.unusedVariables false
namespace Go.Proofs.Ytdfdcenbpanegaa
open Go.RowKit

theorem Sat.drewP {G : Gnd} {w : World} {l : List Asrt} (H : Sat G w l) (n : Nat) : Sat G (w.drewN n) l := H.below ⟨rfl, rfl, rfl, Nat.le_refl _, fun _ _ => rfl⟩
theorem pl_mask (n : Int) : bits .and .i64 n 2147483647 = n % 2147483648 := by
  have h31 : (BitVec.ofInt 64 2147483647).toNat = 2 ^ 31 - 1 := by decide
  have key : (BitVec.ofInt 64 n &&& BitVec.ofInt 64 2147483647).toNat = (n % ((2 ^ 64 : Nat) : Int)).toNat % 2 ^ 31 := by
    rw [BitVec.toNat_and, h31, Nat.and_two_pow_sub_one_eq_mod, BitVec.toNat_ofInt]
  show IntKind.i64.wrap ((BitVec.ofInt 64 n &&& BitVec.ofInt 64 2147483647).toNat : Nat) = n % 2147483648
  rw [key]
  rw [IntWalk.i64_in _ (by omega)]
  omega
/-- An item: all but its text and its pairs. -/
structure ItS where
  k : Int
  s : Int
  e : Bool
  l : Bool
  a : Bool
  fl : Int
  code : Int
  last : Int
  inc : Int
  dep : Int
  wgt : Int
  wd : Bool
  ex : Bool
def ItS.cs (x : ItS) (v q : Value) : Array Value := #[.int .i64 x.k, .int .i64 x.s, v, .bool x.e, .bool x.l, .bool x.a, .int .i64 x.fl, .int .i64 x.code, .int .i64 x.last, .int .i64 x.inc, .int .i64 x.dep, .int .i64 x.wgt, .bool x.wd, .bool x.ex, q]
section
variable {G : Gnd} {w : World} {l : List Asrt} {q r : Nat} {bs : List UInt8}
theorem pl_own (x : ItS) (v u : Value) (H : Sat G w (blk q (x.cs v u) 28 :: l)) :
    Calls Try.prog 31 #[.pointer (some ⟨q, 0, none⟩)] w fun e w' => e = .returned (.agg #[.int .i64 (if x.wd && x.dep == x.s then 101 else 0), .bool false]) ∧ Sat G w' (blk q (x.cs v u) 28 :: l) := by
  refine calls_any fun K hK => ?_
  have S0 := H.newBlk #[.int .i64 0, .bool false] 31
  have k1 : (x.cs v u)[1]? = some (.int .i64 x.s) := rfl
  have k10 : (x.cs v u)[10]? = some (.int .i64 x.dep) := rfl
  have k12 : (x.cs v u)[12]? = some (.bool x.wd) := rfl
  generalize x.cs v u = cs at *
  generalize x.s = s at *
  generalize x.dep = dep at *
  generalize x.wd = wd at *
  clear H
  go_enter Try.func31, Try.ntmps31
  go_upto_region 1 with fail
  refine wp_world S0 fun w1 S1 => ?_
  clear S0
  generalize w.heap.size = aa at *
  have c1 := (S1.swap.cell 1).trans k1
  have c10 := (S1.swap.cell 10).trans k10
  have c12 := (S1.swap.cell 12).trans k12
  have HS1 := Lib.hid S1
  clear S1 k1 k10 k12
  cases wd with
  | false =>
    simp only [Bool.false_and, Bool.false_eq_true, if_false] at hK
    go_quiet (fail)
    go_upto_region 3 with fail
    refine wp_world (HS1.out.drewP _) fun w2 S2 => ?_
    clear c1 c10 c12
    have f0 := S2.frozen 0
    have f1 := S2.frozen 1
    have b0 := S2.cell 0
    have b1 := S2.cell 1
    have HS2 := Lib.hid ((S2.setCell 0 (.int .i64 0)).setCell 1 (.bool false))
    clear S2
    go_wp2_with fail
    refine ret_cell HS2.out 2 31 rfl _ rfl Try.underlying31 rfl (by kernel_rfl) rfl ?_
    exact hK.out _ _ ⟨rfl, HS2.out.drop⟩
  | true =>
  cases hd : (dep == s) with
  | false =>
    simp only [hd, Bool.true_and, Bool.false_eq_true, if_false] at hK
    go_quiet (fail)
    go_upto_region 3 with fail
    refine wp_world (HS1.out.drewP _) fun w2 S2 => ?_
    clear c1 c10 c12 hd
    have f0 := S2.frozen 0
    have f1 := S2.frozen 1
    have b0 := S2.cell 0
    have b1 := S2.cell 1
    have HS2 := Lib.hid ((S2.setCell 0 (.int .i64 0)).setCell 1 (.bool false))
    clear S2
    go_wp2_with fail
    refine ret_cell HS2.out 2 31 rfl _ rfl Try.underlying31 rfl (by kernel_rfl) rfl ?_
    exact hK.out _ _ ⟨rfl, HS2.out.drop⟩
  | true =>
    simp only [hd, Bool.true_and, if_true] at hK
    go_quiet (fail)
    go_upto_region 2 with fail
    refine wp_world (HS1.out.drewP _) fun w2 S2 => ?_
    clear c1 c10 c12 hd
    have f0 := S2.frozen 0
    have f1 := S2.frozen 1
    have b0 := S2.cell 0
    have b1 := S2.cell 1
    have HS2 := Lib.hid ((S2.setCell 0 (.int .i64 101)).setCell 1 (.bool false))
    clear S2
    go_wp2_with fail
    refine ret_cell HS2.out 2 31 rfl _ rfl Try.underlying31 rfl (by kernel_rfl) rfl ?_
    exact hK.out _ _ ⟨rfl, HS2.out.drop⟩
/-- What is said of priority. -/
def wghS (x : ItS) (bs : List UInt8) : ItS := { x with dep := (numOf (bs.take 4) : Int) % 2147483648, ex := decide (2147483647 < (numOf (bs.take 4) : Int)), wgt := (numOf ((bs.drop 4).take 1) : Int) + 1, wd := true }
theorem pl_weigh_not (H : RdF G w r bs l) (p : Value) (h : bs.length < 5) :
    Calls Try.prog 32 #[p, .pointer (some ⟨r, 0, none⟩)] w fun e w' => e = .returned (.bool false) ∧ w = w' := by
  refine calls_any fun K hK => ?_
  have hl := rf_left H
  clear H
  go_enter Try.func32, Try.ntmps32
  go_wp2_with fail
  (with_reducible refine hl.mono ?_)
  clear hl
  rintro e w1 ⟨rfl, rfl⟩
  go_wp2_with fail
  exact hK.out _ _ ⟨rfl, rfl⟩
theorem RdF.set {g j : Nat} {cs : Array Value} {t : TypeId} (H : RdF G w r bs (blk g cs t :: l)) (v : Value) : RdF G (w.setCell ⟨g, j, none⟩ v) r bs (blk g (cs.setIfInBounds j v) t :: l) := by
  obtain ⟨A, c, hs, H⟩ := H; exact ⟨A, c, hs, (H.swap.setCell j v).swap⟩
theorem RdF.cellL {g : Nat} {cs : Array Value} {t : TypeId} (H : RdF G w r bs (blk g cs t :: l)) (j : Nat) : w.cell? ⟨g, j, none⟩ = cs[j]? := by obtain ⟨A, c, hs, H⟩ := H; exact H.swap.cell j
theorem RdF.frozenL {g : Nat} {cs : Array Value} {t : TypeId} (H : RdF G w r bs (blk g cs t :: l)) (j : Nat) : w.frozen? ⟨g, j, none⟩ = false := by obtain ⟨A, c, hs, H⟩ := H; exact H.swap.frozen j
set_option maxHeartbeats 1000000 in
theorem pl_weigh (x : ItS) (v u : Value) (H : RdF G w r bs (blk q (x.cs v u) 28 :: l)) (h : 5 ≤ bs.length) :
    Calls Try.prog 32 #[.pointer (some ⟨q, 0, none⟩), .pointer (some ⟨r, 0, none⟩)] w fun e w' => e = .returned (.bool true) ∧ RdF G w' r (bs.drop 5) (blk q ((wghS x bs).cs v u) 28 :: l) := by
  refine calls_any fun K hK => ?_
  have hl := rf_left H
  have hn := pl_number H 4 (by omega) (by omega)
  change Calls _ _ #[_, .int .i64 4] _ _ at hn
  have hlt : numOf (bs.take 4) < 4294967296 := by
    have h1 := numOf_lt (bs.take 4)
    rw [show (bs.take 4).length = 4 by rw [List.length_take]; omega] at h1
    exact h1
  have hlt2 : numOf ((bs.drop 4).take 1) < 256 := by
    have h1 := numOf_lt ((bs.drop 4).take 1)
    rw [show ((bs.drop 4).take 1).length = 1 by rw [List.length_take, List.length_drop]; omega] at h1
    exact h1
  clear H
  go_enter Try.func32, Try.ntmps32
  go_wp2_with fail
  (with_reducible refine hl.mono ?_)
  clear hl
  rintro e w1 ⟨rfl, rfl⟩
  go_wp2_with fail
  (with_reducible refine hn.mono ?_)
  clear hn
  rintro e w1 ⟨rfl, S1⟩
  have f10 := S1.frozenL 10
  have f13 := S1.frozenL 13
  have c10 : w1.cell? ⟨q, 10, none⟩ = some _ := S1.cellL 10
  have c13 : w1.cell? ⟨q, 13, none⟩ = some _ := S1.cellL 13
  have S2 := (S1.set (j := 10) (.int .i64 ((numOf (bs.take 4) : Int) % 2147483648))).set (j := 13) (.bool (decide (2147483647 < (numOf (bs.take 4) : Int))))
  have hm := pl_mask (numOf (bs.take 4))
  have hn2 := pl_number S2 1 (by rw [List.length_drop]; omega) (by omega)
  change Calls _ _ #[_, .int .i64 1] _ _ at hn2
  rw [List.drop_drop] at hn2
  obtain ⟨x2, hx2⟩ : ∃ x2, x2 = wghS x bs := ⟨_, rfl⟩
  have e2 : x2.cs v u = ((((x.cs v u).setIfInBounds 10 (.int .i64 ((numOf (bs.take 4) : Int) % 2147483648))).setIfInBounds 13 (.bool (decide (2147483647 < (numOf (bs.take 4) : Int))))).setIfInBounds 11 (.int .i64 ((numOf ((bs.drop 4).take 1) : Int) + 1))).setIfInBounds 12 (.bool true) := by rw [hx2]; rfl
  rw [← hx2] at hK
  have HE2 := Lib.hid e2
  clear S1 S2 e2 hx2
  generalize hz : (numOf (bs.take 4) : Int) = z at *
  generalize hy : numOf ((bs.drop 4).take 1) = y at *
  have hz2 : z < 4294967296 := by omega
  have hz3 : 0 ≤ z := by omega
  clear hz hy hlt
  go_wp2_with fail
  (with_reducible refine hn2.mono ?_)
  clear hn2 f10 f13 c10 c13
  rintro e w2 ⟨rfl, S3⟩
  have f11 := S3.frozenL 11
  have f12 := S3.frozenL 12
  have c11 : w2.cell? ⟨q, 11, none⟩ = some _ := S3.cellL 11
  have c12 : w2.cell? ⟨q, 12, none⟩ = some _ := S3.cellL 12
  have S4 := (S3.set (j := 11) (.int .i64 ((y : Int) + 1))).set (j := 12) (.bool true)
  rw [← HE2.out] at S4
  clear S3
  go_wp2_with fail
  exact hK.out _ _ ⟨rfl, S4⟩
end
end Go.Proofs.Ytdfdcenbpanegaa
