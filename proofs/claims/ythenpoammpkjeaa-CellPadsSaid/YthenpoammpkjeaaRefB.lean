/- The walk over the reference of frame.Bytes. -/
import Derived.Test.YthenpoammpkjeaaAll
set_option linter.unusedSimpArgs false
set_option linter.unusedVariables false
namespace Go.Proofs.Ythenpoammpkjeaa
open Go.RowKit

theorem ref9_bytes (t f s : Nat) (bs : List UInt8) (w : World) (ht : t ≤ 255) (hf : f ≤ 255) (hs : s ≤ 2147483647) (hn : bs.length ≤ 16777215) :
    Calls Try.prog 28 #[.int .i64 t, .int .i64 f, .int .i64 s, .string (bstr bs)] w fun e w' => e = .returned (.string (bstr (frBytes t f s bs))) ∧ Below w.heap.size w w' := by
  refine calls_any fun K hK => ?_
  have m1 : IntKind.u64.wrap (t : Int) = t := IntWalk.u64_in _ ⟨by omega, by omega⟩
  have m2 : IntKind.u64.wrap (f : Int) = f := IntWalk.u64_in _ ⟨by omega, by omega⟩
  have m3 : IntKind.u64.wrap (s : Int) = s := IntWalk.u64_in _ ⟨by omega, by omega⟩
  have m4 : IntKind.u64.wrap (bs.length : Int) = bs.length := IntWalk.u64_in _ ⟨by omega, by omega⟩
  have hsz := bstr_size bs
  have b1 : ∀ W, Calls Try.prog 42 #[.int .u64 bs.length, .int .i64 3] W _ := fun W => ref_big bs.length 3 (by omega) (by decide) W
  have b2 : ∀ W, Calls Try.prog 42 #[.int .u64 t, .int .i64 1] W _ := fun W => ref_big t 1 (by omega) (by decide) W
  have b3 : ∀ W, Calls Try.prog 42 #[.int .u64 f, .int .i64 1] W _ := fun W => ref_big f 1 (by omega) (by decide) W
  have b4 : ∀ W, Calls Try.prog 42 #[.int .u64 s, .int .i64 4] W _ := fun W => ref_big s 4 (by omega) (by decide) W
  have z1 : (bstr (bigOf bs.length 3)).size = 3 := by rw [bstr_size, bigOf_length]
  have z2 : (bstr (bigOf t 1)).size = 1 := by rw [bstr_size, bigOf_length]
  have z3 : (bstr (bigOf f 1)).size = 1 := by rw [bstr_size, bigOf_length]
  have z4 : (bstr (bigOf s 4)).size = 4 := by rw [bstr_size, bigOf_length]
  have HE : Hid (bstr (bigOf bs.length 3) ++ bstr (bigOf t 1) ++ bstr (bigOf f 1) ++ bstr (bigOf s 4) ++ bstr bs = bstr (frBytes t f s bs)) := by
    show _ = _
    rw [bstr_append, bstr_append, bstr_append, bstr_append]
    congr 1
    have u1 : t % 256 = t := by omega
    have u2 : f % 256 = f := by omega
    simp [frBytes, bigOf, u1, u2]
  generalize bstr (bigOf bs.length 3) = x1 at *
  generalize bstr (bigOf t 1) = x2 at *
  generalize bstr (bigOf f 1) = x3 at *
  generalize bstr (bigOf s 4) = x4 at *
  generalize bstr bs = x5 at *
  go_enter Try.func28, Try.ntmps28
  go_wp2_with fail
  (with_reducible refine (b1 _).mono ?_)
  clear b1
  rintro e w1 ⟨rfl, h1⟩
  go_wp2_with fail
  (with_reducible refine (b2 _).mono ?_)
  clear b2
  rintro e w2 ⟨rfl, h2⟩
  go_wp2_with fail
  (with_reducible refine (b3 _).mono ?_)
  clear b3
  rintro e w3 ⟨rfl, h3⟩
  go_wp2_with fail
  (with_reducible refine (b4 _).mono ?_)
  clear b4
  rintro e w4 ⟨rfl, h4⟩
  go_wp2_with fail
  exact hK.out _ _ ⟨by rw [← HE.out]; rfl, ((h1.trans (h2.mono h1.size)).trans (h3.mono (Nat.le_trans h1.size h2.size))).trans (h4.mono (Nat.le_trans (Nat.le_trans h1.size h2.size) h3.size))⟩
end Go.Proofs.Ythenpoammpkjeaa
