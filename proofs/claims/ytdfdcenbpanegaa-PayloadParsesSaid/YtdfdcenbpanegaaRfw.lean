/- Chapter 10: the reference's flag, word, weigh, walked. -/
import Derived.Test.YtdfdcenbpanegaaEqI
import Derived.Test.YtdfdcenbpanegaaParse
import Derived.Test.YtdfdcenbpanegaaFaultP
import Derived.Deep.Cut
set_option linter.unusedSimpArgs false
set_option linter.unusedVariables false
namespace Go.Proofs.Ytdfdcenbpanegaa
open Go.RowKit

def b2i (b : Bool) : Int := if b then 1 else 0
/-- An item of the reference: truths are numbers. -/
def ItS.rs (x : ItS) (t : List UInt8) (q : Value) : Array Value := #[.int .i64 x.k, .int .i64 x.s, .string (bstr t), .int .i64 (b2i x.e), .int .i64 (b2i x.l), .int .i64 (b2i x.a), .int .i64 x.fl, .int .i64 x.code, .int .i64 x.last, .int .i64 x.inc, .int .i64 x.dep, .int .i64 x.wgt, .int .i64 (b2i x.wd), .int .i64 (b2i x.ex), q]
theorem rs_one (x : ItS) (t : List UInt8) (A : Option Addr) (n c : Nat) : (x.rs t (.slice A n c)).all (·.oneCell') = true := by
  simp [ItS.rs, Value.oneCell']
theorem flag1 : ∀ f : Fin 256, ((f.val / 1 % 2 : Nat) : Int) = b2i (hasF (f.val : Int) 1) := by decide +kernel
theorem flag4 : ∀ f : Fin 256, ((f.val / 4 % 2 : Nat) : Int) = b2i (hasF (f.val : Int) 4) := by decide +kernel
theorem flag8 : ∀ f : Fin 256, ((f.val / 8 % 2 : Nat) : Int) = b2i (hasF (f.val : Int) 8) := by decide +kernel
theorem flag32 : ∀ f : Fin 256, ((f.val / 32 % 2 : Nat) : Int) = b2i (hasF (f.val : Int) 32) := by decide +kernel
theorem ref_flag (f : Nat) (hf : f < 256) (bit : Nat) (hb : bit = 1 ∨ bit = 4 ∨ bit = 8 ∨ bit = 32) (w : World) : Calls Try.prog 21 #[.int .i64 f, .int .i64 bit] w fun e w' => e = .returned (.int .i64 (b2i (hasF f bit))) ∧ w = w' := by
  refine calls_any fun K hK => ?_
  have hv : ((f / bit % 2 : Nat) : Int) = b2i (hasF f bit) := by
    rcases hb with rfl | rfl | rfl | rfl
    · exact flag1 ⟨f, hf⟩
    · exact flag4 ⟨f, hf⟩
    · exact flag8 ⟨f, hf⟩
    · exact flag32 ⟨f, hf⟩
  rw [← hv] at hK
  have h0 : ((bit : Int) == 0) = false := beq_eq_false_iff_ne.2 (by omega)
  have hq : Int.tdiv (f : Int) (bit : Int) = ((f / bit : Nat) : Int) := by rw [Int.tdiv_eq_ediv_of_nonneg (by omega)]; rfl
  have hle : f / bit ≤ f := Nat.div_le_self _ _
  obtain ⟨d, hd⟩ : ∃ d, d = f / bit := ⟨_, rfl⟩
  rw [← hd] at hq hK hle
  have hr : Int.tmod (d : Int) 2 = ((d % 2 : Nat) : Int) := by rw [Int.tmod_eq_emod_of_nonneg (by omega)]; rfl
  have hw1 : IntKind.i64.wrap (d : Int) = d := IntWalk.i64_in _ (by omega)
  have hd2 : d % 2 < 2 := Nat.mod_lt _ (by decide)
  generalize d % 2 = m at *
  have hw2 : IntKind.i64.wrap (m : Int) = m := IntWalk.i64_in _ (by omega)
  have hb0 : ¬ (bit : Int) = 0 := by omega
  have hb1 : ¬ bit = 0 := by omega
  clear hv hb hd
  go_enter Try.func21, Try.ntmps21
  go_wp2_with fail
  exact hK.out _ _ ⟨rfl, rfl⟩
theorem num4_lt {xs : List UInt8} (h : xs.length ≤ 4) : numOf xs < 4294967296 :=
  Nat.lt_of_lt_of_le (numOf_lt _) (Nat.le_trans (Nat.pow_le_pow_right (by omega) h) (by decide))
theorem ref_word (xs : List UInt8) (h : xs.length ≤ 4) (w : World) : Calls Try.prog 23 #[.string (bstr xs)] w fun e w' => e = .returned (.int .i64 (numOf xs)) ∧ w = w' := by
  refine calls_any fun K hK => ?_
  have hn := ref_num xs (by omega) w
  have hl := num4_lt h
  generalize numOf xs = n at *
  have hw : IntKind.i64.wrap (n : Int) = n := IntWalk.i64_in _ (by omega)
  clear h
  go_enter Try.func23, Try.ntmps23
  go_wp2_with fail
  (with_reducible refine hn.mono ?_)
  rintro e w1 ⟨rfl, rfl⟩
  go_wp2_with fail
  exact hK.out _ _ ⟨rfl, rfl⟩
section
variable {G : Gnd} {w : World} {l : List Asrt}
set_option maxHeartbeats 4000000 in
set_option maxRecDepth 100000 in
theorem ref_weigh (H : Sat G w l) (x : ItS) (t bs : List UInt8) (A : Option Addr) (n c : Nat) (hb : 5 ≤ bs.length) (hm : bs.length ≤ 1000) :
    Calls Try.prog 22 #[.agg (x.rs t (.slice A n c)), .string (bstr bs)] w fun e w' => e = .returned (.agg ((wghS x bs).rs t (.slice A n c))) ∧ Sat G w' l := by
  refine calls_any fun K hK => ?_
  obtain ⟨k, s, e, ll, a, fl, code, last, inc, dep, wgt, wd, ex⟩ := x
  have hsz := bstr_size bs
  have hl4 : (bs.take 4).length ≤ 4 := by rw [List.length_take]; omega
  have hwd := fun W => ref_word (bs.take 4) hl4 W
  have ht4 := bstr_take bs 4
  have hn := num4_lt hl4
  have hi4 : ∀ h, ((bstr bs)[4]'h).toNat = (bs[4]).toNat := fun h => congrArg UInt8.toNat (bstr_get bs 4 (by omega) h)
  have hq4 := (bs[4]).toNat_lt
  have hnum : numOf ((bs.drop 4).take 1) = (bs[4]).toNat := by
    rw [List.drop_eq_getElem_cons (by omega)]; simp only [List.take_succ_cons, List.take_zero, numOf, List.foldl_cons, List.foldl_nil]; omega
  unfold wghS ItS.rs at hK
  simp only at hK
  rw [hnum] at hK
  generalize numOf (bs.take 4) = m at *
  have hr : Int.tmod (m : Int) 2147483648 = (m : Int) % 2147483648 := Int.tmod_eq_emod_of_nonneg (by omega)
  have hq : Int.tdiv (m : Int) 2147483648 = (m : Int) / 2147483648 := Int.tdiv_eq_ediv_of_nonneg (by omega)
  have hex : b2i (decide (2147483647 < (m : Int))) = (m : Int) / 2147483648 := by
    by_cases h : 2147483647 < (m : Int)
    · rw [decide_eq_true h]; unfold b2i; rw [if_pos rfl]; omega
    · rw [decide_eq_false h]; unfold b2i; rw [if_neg (by decide)]; omega
  rw [hex, show b2i true = 1 from rfl] at hK
  have hw1 : IntKind.i64.wrap ((m : Int) % 2147483648) = (m : Int) % 2147483648 := IntWalk.i64_in _ (by omega)
  have hw2 : IntKind.i64.wrap ((m : Int) / 2147483648) = (m : Int) / 2147483648 := IntWalk.i64_in _ (by omega)
  have hw3 : IntKind.i64.wrap (((bs[4]).toNat : Int) + 1) = ((bs[4]).toNat : Int) + 1 := IntWalk.i64_in _ (by omega)
  have hw4 : IntKind.i64.wrap ((bs[4]).toNat : Int) = ((bs[4]).toNat : Int) := IntWalk.i64_in _ (by omega)
  have S1 := (H.newBlk (ItS.rs ⟨k, s, e, ll, a, fl, code, last, inc, dep, wgt, wd, ex⟩ t (.slice A n c)) 35).newBlk #[.int .i64 0, .int .i64 0, .string (bstr []), .int .i64 0, .int .i64 0, .int .i64 0, .int .i64 0, .int .i64 0, .int .i64 0, .int .i64 0, .int .i64 0, .int .i64 0, .int .i64 0, .int .i64 0, .slice none 0 0] 35
  simp only [World.size_alloc] at S1
  unfold ItS.rs at S1 ⊢
  simp only at S1 ⊢
  generalize b2i e = e' at *
  generalize b2i ll = l' at *
  generalize b2i a = a' at *
  generalize b2i wd = wd' at *
  generalize b2i ex = ex' at *
  clear H hn hnum hex hl4
  have hb4 : (4 : Int) < bs.length := by omega
  go_enter Try.func22, Try.ntmps22
  go_upto_region 1 with fail
  generalize w.heap.size + 1 = r4 at *
  generalize w.heap.size = r2 at *
  refine wp_world S1 fun w2 S2 => ?_
  clear S1
  go_wp2_with fail
  (with_reducible refine (hwd _).mono ?_)
  clear hwd
  rintro e w3 ⟨rfl, rfl⟩
  have S3 := S2.swap
  have f12 := S3.frozen 12
  have f10 := S3.frozen 10
  have f13 := S3.frozen 13
  have f11 := S3.frozen 11
  have c12 := S3.cell 12
  have c10 := S3.cell 10
  have c13 := S3.cell 13
  have c11 := S3.cell 11
  have S4 := (((S3.setCell 12 (.int .i64 1)).setCell 10 (.int .i64 ((m : Int) % 2147483648))).setCell 13 (.int .i64 ((m : Int) / 2147483648))).setCell 11 (.int .i64 (((bs[4]).toNat : Int) + 1))
  clear S2 S3
  go_upto_region 6 with fail
  refine wp_world S4 fun w4 S5 => ?_
  clear S4 f12 f10 f13 f11 c12 c10 c13 c11
  change Sat G w4 (blk r2 #[.int .i64 k, .int .i64 s, .string (bstr t), .int .i64 e', .int .i64 l', .int .i64 a', .int .i64 fl, .int .i64 code, .int .i64 last, .int .i64 inc, .int .i64 ((m : Int) % 2147483648), .int .i64 (((bs[4]).toNat : Int) + 1), .int .i64 1, .int .i64 ((m : Int) / 2147483648), .slice A n c] _ :: _) at S5
  refine wp_region_lit ?_
  refine st_load rfl _ _ rfl r2 rfl _ _ S5 _ Try.underlying35 rfl (by kernel_rfl) ?_
  refine st_store rfl _ _ _ rfl r4 _ rfl rfl _ _ S5.swap (by kernel_rfl) rfl (by simp [Value.oneCell']) fun w5 S6 => ?_
  have HS := Lib.hid S6
  clear S5 S6
  go_wp2_with fail
  refine ret_cell HS.out _ _ rfl _ rfl Try.underlying35 rfl (by kernel_rfl) rfl ?_
  exact hK.out _ _ ⟨rfl, HS.out.drop.drop⟩
end
end Go.Proofs.Ytdfdcenbpanegaa
