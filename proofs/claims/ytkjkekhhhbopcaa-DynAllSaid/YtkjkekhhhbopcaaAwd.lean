/- The fixed answer; fields and calls that came in. -/
import Derived.Test.YtkjkekhhhbopcaaAdd
import Derived.Test.YtkjkekhhhbopcaaRdA
set_option linter.unusedSimpArgs false
set_option linter.unusedVariables false
namespace Go.Proofs.Ytkjkekhhhbopcaa
open Go.RowKit

def f1A : Fd := ([97, 98, 99, 100], [101, 102, 103, 104])
def f2A : Fd := ([105, 106, 107, 108], [109, 110, 111, 112])
def f3A : Fd := ([120], [])
section
variable {G : Gnd} {w w' : World} {l : List Asrt} {p : Nat} {Z F : List Fd} {lim : Int}
set_option maxHeartbeats 4000000 in
set_option maxRecDepth 100000 in
theorem law_awake (H : Sat G w l) : Calls Try.prog 9 #[] w fun e w' => e = .returned (.bool true) ∧ Sat G w' l := by
  refine calls_any fun K hK => ?_
  have hnew := tb_new H 80 (by decide)
  have hn2 := tb_new_not (-1) (by decide)
  clear H
  go_enter Try.func9, Try.ntmps9
  go_wp2_with fail
  (with_reducible refine hnew.mono ?_)
  clear hnew
  rintro e w1 ⟨p, rfl, S1⟩
  have hadd := tb_add S1 ⟨by decide, by decide, by decide, by decide⟩ f1A (by decide) (by decide)
  rw [show addF 80 [] f1A = [f1A] from by decide, show (shrF (80 - (fsz1 f1A : Int)) []).2 = 0 from by decide] at hadd
  change Calls _ _ #[_, .agg #[.string { data := #[97, 98, 99, 100] }, .string { data := #[101, 102, 103, 104] }]] _ _ at hadd
  clear S1
  go_wp2_with fail
  (with_reducible refine hadd.mono ?_)
  clear hadd
  rintro e w2 ⟨rfl, Z2, wf2, S2⟩
  have hadd := tb_add S2 wf2 f2A (by decide) (by decide)
  rw [show addF 80 [f1A] f2A = [f1A, f2A] from by decide, show (shrF (80 - (fsz1 f2A : Int)) [f1A]).2 = 0 from by decide] at hadd
  change Calls _ _ #[_, .agg #[.string { data := #[105, 106, 107, 108] }, .string { data := #[109, 110, 111, 112] }]] _ _ at hadd
  clear S2
  go_wp2_with fail
  (with_reducible refine hadd.mono ?_)
  clear hadd
  rintro e w3 ⟨rfl, Z3, wf3, S3⟩
  have hadd := tb_add S3 wf3 f3A (by decide) (by decide)
  rw [show addF 80 [f1A, f2A] f3A = [f2A, f3A] from by decide, show (shrF (80 - (fsz1 f3A : Int)) [f1A, f2A]).2 = 1 from by decide] at hadd
  change Calls _ _ #[_, .agg #[.string { data := #[120] }, .string { data := #[] }]] _ _ at hadd
  clear S3
  go_wp2_with fail
  (with_reducible refine hadd.mono ?_)
  clear hadd
  rintro e w4 ⟨rfl, Z4, wf4, S4⟩
  have hzl := wf4.z
  simp only [List.length_cons, List.length_nil] at hzl
  have hget := tb_get S4 (by omega) (by decide) 1 (by decide) (by decide) f3A rfl
  change Calls _ _ #[_, .int .i64 1] _ (fun e w' => e = .returned (.tuple #[.agg #[.string { data := #[120] }, .string { data := #[] }], .int .i64 0]) ∧ _) at hget
  clear S4
  go_wp2_with fail
  (with_reducible refine hget.mono ?_)
  clear hget
  rintro e w5 ⟨rfl, S5⟩
  have S6 := S5.newBlk #[.string { data := #[120] }, .string { data := #[] }] 23
  have HS6 := Lib.hid S6
  clear S5 S6
  go_wp2_with fail
  refine calls_world HS6.out fun w6 S6 => ?_
  generalize w5.heap.size = r at *
  clear HS6
  (with_reducible refine (hn2 _).mono ?_)
  clear hn2
  rintro e w7 ⟨rfl, rfl⟩
  have c0 := S6.cell 0
  have hlen := tb_len S6.swap (by omega) (by decide)
  have hsz := tb_size S6.swap
  rw [show fsz [f2A, f3A] = 73 from by decide] at hsz
  change Calls _ _ _ _ (fun e w' => e = .returned (.int .i64 2) ∧ _) at hlen
  change Calls _ _ _ _ (fun e w' => e = .returned (.int .i64 73) ∧ _) at hsz
  clear S6
  go_wp2_with fail
  (with_reducible refine hlen.mono ?_)
  clear hlen hsz c0
  rintro e w8 ⟨rfl, S8⟩
  have hsz := tb_size S8
  rw [show fsz [f2A, f3A] = 73 from by decide] at hsz
  change Calls _ _ _ _ (fun e w' => e = .returned (.int .i64 73) ∧ _) at hsz
  have HS := Lib.hid S8.drop.drop
  clear S8
  go_wp2_with fail
  (with_reducible refine hsz.mono ?_)
  clear hsz
  rintro e w9 ⟨rfl, rfl⟩
  go_wp2_with fail
  exact hK.out _ _ ⟨rfl, HS.out⟩
end
theorem rd_str1 {R : Hp} {d : D} {c : List Value} (h : Rd R .str d c) : ∃ bs : List UInt8, c = [.string (bstr bs)] ∧ bs.length ≤ 140737488351232 := by
  cases d <;> simp only [Rd] at h
  rename_i s
  refine ⟨s.data.toList, by rw [h.1]; rfl, ?_⟩
  rw [Array.length_toList]
  exact h.2
theorem rd_field {R : Hp} {d : D} {es : List Value} (h : Rd R (Ty.agg [.str, .str]) d es) : ∃ f : Fd, es = fenc f ∧ f.1.length ≤ 140737488351232 ∧ f.2.length ≤ 140737488351232 := by
  obtain ⟨ds, rfl⟩ : ∃ ds, d = .agg ds := by cases d <;> (try simp only [Rd] at h) <;> exact ⟨_, rfl⟩
  simp only [Rd] at h
  obtain ⟨_, _, c1, _, rfl, rfl, l1, r1, h⟩ := rdAll_cons h
  obtain ⟨_, _, c2, _, rfl, rfl, l2, r2, h⟩ := rdAll_cons h
  obtain rfl := rdAll_nil h
  obtain ⟨b1, rfl, z1⟩ := rd_str1 r1
  obtain ⟨b2, rfl, z2⟩ := rd_str1 r2
  exact ⟨(b1, b2), rfl, z1, z2⟩
theorem arg_field {w : World} {v : Value} {d : D} (h : ArgV w (Ty.agg [.str, .str]) v d) : ∃ f : Fd, v = .agg #[.string (bstr f.1), .string (bstr f.2)] ∧ f.1.length ≤ 140737488351232 ∧ f.2.length ≤ 140737488351232 := by
  obtain ⟨cs, rfl, h⟩ := h
  obtain ⟨x, e, r⟩ := rd_field h
  exact ⟨x, by rw [show cs = #[.string (bstr x.1), .string (bstr x.2)] from Array.toList_inj.1 (by rw [e]; rfl)], r⟩
end Go.Proofs.Ytkjkekhhhbopcaa
