/- The walk of the law PayloadFaults. -/
import Derived.Test.YtdfdcenbpanegaaFaultP
set_option linter.unusedSimpArgs false
set_option linter.unusedVariables false
namespace Go.Proofs.Ytdfdcenbpanegaa
open Go.RowKit

set_option maxHeartbeats 8000000 in
set_option maxRecDepth 100000 in
theorem pf_ok (w : World) (k fl s : Int) (A : Option Addr) (n c : Nat) (h300 : ¬ 300 < n) (x : ItS) (t : List UInt8) (ps : List (Int × Int)) (hp : Calls Try.prog 9 #[.agg #[.int .i64 k, .int .i64 fl, .int .i64 s, .slice A n c]] (w.alloc (.cells #[.int .i64 k, .int .i64 fl, .int .i64 s, .slice A n c] 24)) fun e w' => ∃ G' v' u', (Gnd.of w).le G' ∧ e = .returned (.tuple #[.agg (((⟨(0, false), x, t, ps⟩ : RdRes)).x.cs v' u'), .agg #[.int .i64 ((⟨(0, false), x, t, ps⟩ : RdRes)).f.1, .bool ((⟨(0, false), x, t, ps⟩ : RdRes)).f.2]]) ∧ SlB (Go.Proofs.Ytdfdcenbpanegaa.cellR G'.ro) v' ((⟨(0, false), x, t, ps⟩ : RdRes)).t ∧ RPr G'.ro u' ((⟨(0, false), x, t, ps⟩ : RdRes)).ps ∧ Sat G' w' [blk w.heap.size #[.int .i64 k, .int .i64 fl, .int .i64 s, .slice A n c] 24]) :
    Calls Try.prog 7 #[.agg #[.int .i64 k, .int .i64 fl, .int .i64 s, .slice A n c]] w fun e w' => e = .returned (.bool true) ∧ Below w.heap.size w w' := by
  refine calls_any fun K hK => ?_
  have hG := Gnd.le.rfl' (G := Gnd.of w)
  simp only [ItS.cs] at hp
  go_enter Try.func7, Try.ntmps7
  go_wp2_with fail
  (with_reducible refine hp.mono ?_)
  clear hp
  rintro e w1 ⟨G1, v, u, hG1, rfl, hv, hu, S2⟩
  obtain ⟨VA, vc, rfl, -, -, -⟩ := hv.form
  obtain ⟨UA, uc, rfl, -⟩ := id hu
  generalize w.heap.size = aF at S2 ⊢
  have hG := hG.trans hG1
  have S3 := (S2.alloc (.cells (x.cs (.slice VA t.length vc) (.slice UA ps.length uc)) 28)).newBlk #[.int .i64 0, .bool false] 31
  simp only [World.size_alloc] at S3
  clear S2 hv hu
  go_upto_region 4 with fail
  refine wp_world S3 fun w2 S4 => ?_
  clear S3
  generalize w1.heap.size + 1 = a4 at *
  generalize w1.heap.size = a3 at *
  have c0 := S4.cell 0
  have c1 := S4.cell 1
  have hok := pl_ok S4 0 false
  clear S4
  go_wp2_with fail
  (with_reducible refine hok.mono ?_)
  clear hok c0 c1
  rintro e w3 ⟨rfl, S4⟩
  have c0 := S4.cell 0
  have c1 := S4.cell 1
  rw [show ((0 : Int) == 0 && !false) = true from rfl]
  go_wp2_with fail
  (with_reducible refine (law_awake S4.drop.drop).mono ?_); rintro e w9 ⟨rfl, G9, hG9, S9⟩; go_wp2_with fail; exact hK.out _ _ ⟨rfl, S9.above (hG.trans hG9)⟩
set_option maxHeartbeats 8000000 in
set_option maxRecDepth 100000 in
theorem pf_0 (w : World) (fl s : Int) (A : Option Addr) (n c : Nat) (h300 : ¬ 300 < n) (pc : Int) (hpc : (pc == 0) = false) (hpn : (pc != 0) = true) (hp : Calls Try.prog 9 #[.agg #[.int .i64 0, .int .i64 fl, .int .i64 s, .slice A n c]] (w.alloc (.cells #[.int .i64 0, .int .i64 fl, .int .i64 s, .slice A n c] 24)) fun e w' => ∃ G' v' u', (Gnd.of w).le G' ∧ e = .returned (.tuple #[.agg ((bareR 0 s n (pc, true)).x.cs v' u'), .agg #[.int .i64 (bareR 0 s n (pc, true)).f.1, .bool (bareR 0 s n (pc, true)).f.2]]) ∧ SlB (Go.Proofs.Ytdfdcenbpanegaa.cellR G'.ro) v' (bareR 0 s n (pc, true)).t ∧ RPr G'.ro u' (bareR 0 s n (pc, true)).ps ∧ Sat G' w' [blk w.heap.size #[.int .i64 0, .int .i64 fl, .int .i64 s, .slice A n c] 24]) :
    Calls Try.prog 7 #[.agg #[.int .i64 0, .int .i64 fl, .int .i64 s, .slice A n c]] w fun e w' => e = .returned (.bool true) ∧ Below w.heap.size w w' := by
  refine calls_any fun K hK => ?_
  have hG := Gnd.le.rfl' (G := Gnd.of w)
  have hbx : bareS 0 s n = ⟨0, s, false, false, false, (n : Int), 0, 0, 0, 0, 0, false, false⟩ := by simp [bareS]
  rw [show bareR 0 s n (pc, true) = ⟨(pc, true), ⟨0, s, false, false, false, (n : Int), 0, 0, 0, 0, 0, false, false⟩, [], []⟩ by unfold bareR; rw [hbx]] at hp
  clear hbx
  simp only [ItS.cs] at hp
  go_enter Try.func7, Try.ntmps7
  go_wp2_with fail
  (with_reducible refine hp.mono ?_)
  clear hp
  rintro e w1 ⟨G1, v, u, hG1, rfl, hv, hu, S2⟩
  obtain ⟨VA, vc, rfl, -, -, -⟩ := hv.form
  obtain ⟨UA, uc, rfl, -⟩ := id hu
  generalize w.heap.size = aF at S2 ⊢
  have hG := hG.trans hG1
  have S3 := (S2.newBlk #[.int .i64 0, .int .i64 s, .slice VA 0 vc, .bool false, .bool false, .bool false, .int .i64 (n : Int), .int .i64 0, .int .i64 0, .int .i64 0, .int .i64 0, .int .i64 0, .bool false, .bool false, .slice UA 0 uc] 28).newBlk #[.int .i64 pc, .bool true] 31
  simp only [World.size_alloc] at S3
  have HV := Lib.hid hv
  have HU := Lib.hid hu
  clear S2 hv hu
  go_upto_region 4 with fail
  refine wp_world S3 fun w2 S4 => ?_
  clear S3
  generalize w1.heap.size + 1 = a4 at *
  generalize w1.heap.size = a3 at *
  have c0 := S4.cell 0
  have c1 := S4.cell 1
  have hok := pl_ok S4 pc true
  rw [show (pc == 0 && !true) = false by rw [hpc]; rfl] at hok
  clear S4
  go_wp2_with fail
  (with_reducible refine hok.mono ?_)
  clear hok c0 c1
  rintro e w3 ⟨rfl, S4⟩
  have c0 := S4.cell 0
  have c1 := S4.cell 1
  have y0 : w3.cell? ⟨a3, 0, none⟩ = some (.int .i64 0) := S4.swap.cell 0
  have y1 : w3.cell? ⟨a3, 1, none⟩ = some (.int .i64 s) := S4.swap.cell 1
  have y2 : w3.cell? ⟨a3, 2, none⟩ = some (.slice VA 0 vc) := S4.swap.cell 2
  have y3 : w3.cell? ⟨a3, 3, none⟩ = some (.bool false) := S4.swap.cell 3
  have y4 : w3.cell? ⟨a3, 4, none⟩ = some (.bool false) := S4.swap.cell 4
  have y5 : w3.cell? ⟨a3, 5, none⟩ = some (.bool false) := S4.swap.cell 5
  have y6 : w3.cell? ⟨a3, 6, none⟩ = some (.int .i64 (n : Int)) := S4.swap.cell 6
  have y7 : w3.cell? ⟨a3, 7, none⟩ = some (.int .i64 0) := S4.swap.cell 7
  have y8 : w3.cell? ⟨a3, 8, none⟩ = some (.int .i64 0) := S4.swap.cell 8
  have y9 : w3.cell? ⟨a3, 9, none⟩ = some (.int .i64 0) := S4.swap.cell 9
  have y10 : w3.cell? ⟨a3, 10, none⟩ = some (.int .i64 0) := S4.swap.cell 10
  have y11 : w3.cell? ⟨a3, 11, none⟩ = some (.int .i64 0) := S4.swap.cell 11
  have y12 : w3.cell? ⟨a3, 12, none⟩ = some (.bool false) := S4.swap.cell 12
  have y13 : w3.cell? ⟨a3, 13, none⟩ = some (.bool false) := S4.swap.cell 13
  have y14 : w3.cell? ⟨a3, 14, none⟩ = some (.slice UA 0 uc) := S4.swap.cell 14
  have d0 := (S4.re [2, 0, 1]).cell 0
  have d2 := (S4.re [2, 0, 1]).cell 2
  have d3 := (S4.re [2, 0, 1]).cell 3
  have heq := pl_equal S4 ⟨0, s, false, false, false, (n : Int), 0, 0, 0, 0, 0, false, false⟩ ⟨0, s, false, false, false, (n : Int), 0, 0, 0, 0, 0, false, false⟩ _ _ (.slice none 0 0) (.slice none 0 0) [] [] [] [] HV.out HU.out (SlB.nil _) (RPr.nil _)
  rw [itEq_self] at heq
  simp only [ItS.cs, List.length_nil] at heq
  clear S4
  go_wp2_with fail
  (with_reducible refine heq.mono ?_)
  clear heq c0 c1 d0 d2 d3 y0 y1 y2 y3 y4 y5 y6 y7 y8 y9 y10 y11 y12 y13 y14
  rintro e w4 ⟨rfl, S5⟩
  go_wp2_with fail
  (with_reducible refine (law_awake S5.drop.drop.drop).mono ?_); rintro e w9 ⟨rfl, G9, hG9, S9⟩; go_wp2_with fail; exact hK.out _ _ ⟨rfl, S9.above (hG.trans hG9)⟩
set_option maxHeartbeats 8000000 in
set_option maxRecDepth 100000 in
theorem pf_1 (w : World) (fl s : Int) (A : Option Addr) (n c : Nat) (h300 : ¬ 300 < n) (pc : Int) (hpc : (pc == 0) = false) (hpn : (pc != 0) = true) (k : Int) (k0 : (k == 0) = false) (hp : Calls Try.prog 9 #[.agg #[.int .i64 k, .int .i64 fl, .int .i64 s, .slice A n c]] (w.alloc (.cells #[.int .i64 k, .int .i64 fl, .int .i64 s, .slice A n c] 24)) fun e w' => ∃ G' v' u', (Gnd.of w).le G' ∧ e = .returned (.tuple #[.agg ((bareR k s n (pc, true)).x.cs v' u'), .agg #[.int .i64 (bareR k s n (pc, true)).f.1, .bool (bareR k s n (pc, true)).f.2]]) ∧ SlB (Go.Proofs.Ytdfdcenbpanegaa.cellR G'.ro) v' (bareR k s n (pc, true)).t ∧ RPr G'.ro u' (bareR k s n (pc, true)).ps ∧ Sat G' w' [blk w.heap.size #[.int .i64 k, .int .i64 fl, .int .i64 s, .slice A n c] 24]) :
    Calls Try.prog 7 #[.agg #[.int .i64 k, .int .i64 fl, .int .i64 s, .slice A n c]] w fun e w' => e = .returned (.bool true) ∧ Below w.heap.size w w' := by
  refine calls_any fun K hK => ?_
  have hG := Gnd.le.rfl' (G := Gnd.of w)
  have hbx : bareS k s n = ⟨k, s, false, false, false, 0, 0, 0, 0, 0, 0, false, false⟩ := by simp [bareS, k0]
  rw [show bareR k s n (pc, true) = ⟨(pc, true), ⟨k, s, false, false, false, 0, 0, 0, 0, 0, 0, false, false⟩, [], []⟩ by unfold bareR; rw [hbx]] at hp
  clear hbx
  simp only [ItS.cs] at hp
  go_enter Try.func7, Try.ntmps7
  go_wp2_with fail
  (with_reducible refine hp.mono ?_)
  clear hp
  rintro e w1 ⟨G1, v, u, hG1, rfl, hv, hu, S2⟩
  obtain ⟨VA, vc, rfl, -, -, -⟩ := hv.form
  obtain ⟨UA, uc, rfl, -⟩ := id hu
  generalize w.heap.size = aF at S2 ⊢
  have hG := hG.trans hG1
  have S3 := (S2.newBlk #[.int .i64 k, .int .i64 s, .slice VA 0 vc, .bool false, .bool false, .bool false, .int .i64 0, .int .i64 0, .int .i64 0, .int .i64 0, .int .i64 0, .int .i64 0, .bool false, .bool false, .slice UA 0 uc] 28).newBlk #[.int .i64 pc, .bool true] 31
  simp only [World.size_alloc] at S3
  have HV := Lib.hid hv
  have HU := Lib.hid hu
  clear S2 hv hu
  go_upto_region 4 with fail
  refine wp_world S3 fun w2 S4 => ?_
  clear S3
  generalize w1.heap.size + 1 = a4 at *
  generalize w1.heap.size = a3 at *
  have c0 := S4.cell 0
  have c1 := S4.cell 1
  have hok := pl_ok S4 pc true
  rw [show (pc == 0 && !true) = false by rw [hpc]; rfl] at hok
  clear S4
  go_wp2_with fail
  (with_reducible refine hok.mono ?_)
  clear hok c0 c1
  rintro e w3 ⟨rfl, S4⟩
  have c0 := S4.cell 0
  have c1 := S4.cell 1
  have y0 : w3.cell? ⟨a3, 0, none⟩ = some (.int .i64 k) := S4.swap.cell 0
  have y1 : w3.cell? ⟨a3, 1, none⟩ = some (.int .i64 s) := S4.swap.cell 1
  have y2 : w3.cell? ⟨a3, 2, none⟩ = some (.slice VA 0 vc) := S4.swap.cell 2
  have y3 : w3.cell? ⟨a3, 3, none⟩ = some (.bool false) := S4.swap.cell 3
  have y4 : w3.cell? ⟨a3, 4, none⟩ = some (.bool false) := S4.swap.cell 4
  have y5 : w3.cell? ⟨a3, 5, none⟩ = some (.bool false) := S4.swap.cell 5
  have y6 : w3.cell? ⟨a3, 6, none⟩ = some (.int .i64 0) := S4.swap.cell 6
  have y7 : w3.cell? ⟨a3, 7, none⟩ = some (.int .i64 0) := S4.swap.cell 7
  have y8 : w3.cell? ⟨a3, 8, none⟩ = some (.int .i64 0) := S4.swap.cell 8
  have y9 : w3.cell? ⟨a3, 9, none⟩ = some (.int .i64 0) := S4.swap.cell 9
  have y10 : w3.cell? ⟨a3, 10, none⟩ = some (.int .i64 0) := S4.swap.cell 10
  have y11 : w3.cell? ⟨a3, 11, none⟩ = some (.int .i64 0) := S4.swap.cell 11
  have y12 : w3.cell? ⟨a3, 12, none⟩ = some (.bool false) := S4.swap.cell 12
  have y13 : w3.cell? ⟨a3, 13, none⟩ = some (.bool false) := S4.swap.cell 13
  have y14 : w3.cell? ⟨a3, 14, none⟩ = some (.slice UA 0 uc) := S4.swap.cell 14
  have d0 := (S4.re [2, 0, 1]).cell 0
  have d2 := (S4.re [2, 0, 1]).cell 2
  have d3 := (S4.re [2, 0, 1]).cell 3
  have heq := pl_equal S4 ⟨k, s, false, false, false, 0, 0, 0, 0, 0, 0, false, false⟩ ⟨k, s, false, false, false, 0, 0, 0, 0, 0, 0, false, false⟩ _ _ (.slice none 0 0) (.slice none 0 0) [] [] [] [] HV.out HU.out (SlB.nil _) (RPr.nil _)
  rw [itEq_self] at heq
  simp only [ItS.cs, List.length_nil] at heq
  clear S4
  go_wp2_with fail
  (with_reducible refine heq.mono ?_)
  clear heq c0 c1 d0 d2 d3 y0 y1 y2 y3 y4 y5 y6 y7 y8 y9 y10 y11 y12 y13 y14
  rintro e w4 ⟨rfl, S5⟩
  go_wp2_with fail
  (with_reducible refine (law_awake S5.drop.drop.drop).mono ?_); rintro e w9 ⟨rfl, G9, hG9, S9⟩; go_wp2_with fail; exact hK.out _ _ ⟨rfl, S9.above (hG.trans hG9)⟩
set_option maxHeartbeats 8000000 in
set_option maxRecDepth 100000 in
theorem pf_2 (w : World) (fl s : Int) (A : Option Addr) (n c : Nat) (h300 : ¬ 300 < n) (pc : Int) (hpc : (pc == 0) = false) (hpn : (pc != 0) = true) (hsn : (s != 0) = true) (hp : Calls Try.prog 9 #[.agg #[.int .i64 1, .int .i64 fl, .int .i64 s, .slice A n c]] (w.alloc (.cells #[.int .i64 1, .int .i64 fl, .int .i64 s, .slice A n c] 24)) fun e w' => ∃ G' v' u', (Gnd.of w).le G' ∧ e = .returned (.tuple #[.agg ((bareR 1 s n (pc, false)).x.cs v' u'), .agg #[.int .i64 (bareR 1 s n (pc, false)).f.1, .bool (bareR 1 s n (pc, false)).f.2]]) ∧ SlB (Go.Proofs.Ytdfdcenbpanegaa.cellR G'.ro) v' (bareR 1 s n (pc, false)).t ∧ RPr G'.ro u' (bareR 1 s n (pc, false)).ps ∧ Sat G' w' [blk w.heap.size #[.int .i64 1, .int .i64 fl, .int .i64 s, .slice A n c] 24]) :
    Calls Try.prog 7 #[.agg #[.int .i64 1, .int .i64 fl, .int .i64 s, .slice A n c]] w fun e w' => e = .returned (.bool true) ∧ Below w.heap.size w w' := by
  refine calls_any fun K hK => ?_
  have hG := Gnd.le.rfl' (G := Gnd.of w)
  have hbx : bareS 1 s n = ⟨1, s, false, false, false, 0, 0, 0, 0, 0, 0, false, false⟩ := by simp [bareS]
  rw [show bareR 1 s n (pc, false) = ⟨(pc, false), ⟨1, s, false, false, false, 0, 0, 0, 0, 0, 0, false, false⟩, [], []⟩ by unfold bareR; rw [hbx]] at hp
  clear hbx
  simp only [ItS.cs] at hp
  go_enter Try.func7, Try.ntmps7
  go_wp2_with fail
  (with_reducible refine hp.mono ?_)
  clear hp
  rintro e w1 ⟨G1, v, u, hG1, rfl, hv, hu, S2⟩
  obtain ⟨VA, vc, rfl, -, -, -⟩ := hv.form
  obtain ⟨UA, uc, rfl, -⟩ := id hu
  generalize w.heap.size = aF at S2 ⊢
  have hG := hG.trans hG1
  have S3 := (S2.newBlk #[.int .i64 1, .int .i64 s, .slice VA 0 vc, .bool false, .bool false, .bool false, .int .i64 0, .int .i64 0, .int .i64 0, .int .i64 0, .int .i64 0, .int .i64 0, .bool false, .bool false, .slice UA 0 uc] 28).newBlk #[.int .i64 pc, .bool false] 31
  simp only [World.size_alloc] at S3
  have HV := Lib.hid hv
  have HU := Lib.hid hu
  clear S2 hv hu
  go_upto_region 4 with fail
  refine wp_world S3 fun w2 S4 => ?_
  clear S3
  generalize w1.heap.size + 1 = a4 at *
  generalize w1.heap.size = a3 at *
  have c0 := S4.cell 0
  have c1 := S4.cell 1
  have hok := pl_ok S4 pc false
  rw [show (pc == 0 && !false) = false by rw [hpc]; rfl] at hok
  clear S4
  go_wp2_with fail
  (with_reducible refine hok.mono ?_)
  clear hok c0 c1
  rintro e w3 ⟨rfl, S4⟩
  have c0 := S4.cell 0
  have c1 := S4.cell 1
  have y0 : w3.cell? ⟨a3, 0, none⟩ = some (.int .i64 1) := S4.swap.cell 0
  have y1 : w3.cell? ⟨a3, 1, none⟩ = some (.int .i64 s) := S4.swap.cell 1
  have y2 : w3.cell? ⟨a3, 2, none⟩ = some (.slice VA 0 vc) := S4.swap.cell 2
  have y3 : w3.cell? ⟨a3, 3, none⟩ = some (.bool false) := S4.swap.cell 3
  have y4 : w3.cell? ⟨a3, 4, none⟩ = some (.bool false) := S4.swap.cell 4
  have y5 : w3.cell? ⟨a3, 5, none⟩ = some (.bool false) := S4.swap.cell 5
  have y6 : w3.cell? ⟨a3, 6, none⟩ = some (.int .i64 0) := S4.swap.cell 6
  have y7 : w3.cell? ⟨a3, 7, none⟩ = some (.int .i64 0) := S4.swap.cell 7
  have y8 : w3.cell? ⟨a3, 8, none⟩ = some (.int .i64 0) := S4.swap.cell 8
  have y9 : w3.cell? ⟨a3, 9, none⟩ = some (.int .i64 0) := S4.swap.cell 9
  have y10 : w3.cell? ⟨a3, 10, none⟩ = some (.int .i64 0) := S4.swap.cell 10
  have y11 : w3.cell? ⟨a3, 11, none⟩ = some (.int .i64 0) := S4.swap.cell 11
  have y12 : w3.cell? ⟨a3, 12, none⟩ = some (.bool false) := S4.swap.cell 12
  have y13 : w3.cell? ⟨a3, 13, none⟩ = some (.bool false) := S4.swap.cell 13
  have y14 : w3.cell? ⟨a3, 14, none⟩ = some (.slice UA 0 uc) := S4.swap.cell 14
  have d0 := (S4.re [2, 0, 1]).cell 0
  have d2 := (S4.re [2, 0, 1]).cell 2
  have d3 := (S4.re [2, 0, 1]).cell 3
  have heq := pl_equal S4 ⟨1, s, false, false, false, 0, 0, 0, 0, 0, 0, false, false⟩ ⟨1, s, false, false, false, 0, 0, 0, 0, 0, 0, false, false⟩ _ _ (.slice none 0 0) (.slice none 0 0) [] [] [] [] HV.out HU.out (SlB.nil _) (RPr.nil _)
  rw [itEq_self] at heq
  simp only [ItS.cs, List.length_nil] at heq
  clear S4
  go_wp2_with fail
  (with_reducible refine heq.mono ?_)
  clear heq c0 c1 d0 d2 d3 y0 y1 y2 y3 y4 y5 y6 y7 y8 y9 y10 y11 y12 y13 y14
  rintro e w4 ⟨rfl, S5⟩
  go_wp2_with fail
  (with_reducible refine (law_awake S5.drop.drop.drop).mono ?_); rintro e w9 ⟨rfl, G9, hG9, S9⟩; go_wp2_with fail; exact hK.out _ _ ⟨rfl, S9.above (hG.trans hG9)⟩
set_option maxHeartbeats 8000000 in
set_option maxRecDepth 100000 in
theorem pf_3 (w : World) (fl s : Int) (A : Option Addr) (n c : Nat) (h300 : ¬ 300 < n) (pc : Int) (hpc : (pc == 0) = false) (hpn : (pc != 0) = true) (hsn : (s != 0) = true) (hp : Calls Try.prog 9 #[.agg #[.int .i64 2, .int .i64 fl, .int .i64 s, .slice A n c]] (w.alloc (.cells #[.int .i64 2, .int .i64 fl, .int .i64 s, .slice A n c] 24)) fun e w' => ∃ G' v' u', (Gnd.of w).le G' ∧ e = .returned (.tuple #[.agg ((bareR 2 s n (pc, false)).x.cs v' u'), .agg #[.int .i64 (bareR 2 s n (pc, false)).f.1, .bool (bareR 2 s n (pc, false)).f.2]]) ∧ SlB (Go.Proofs.Ytdfdcenbpanegaa.cellR G'.ro) v' (bareR 2 s n (pc, false)).t ∧ RPr G'.ro u' (bareR 2 s n (pc, false)).ps ∧ Sat G' w' [blk w.heap.size #[.int .i64 2, .int .i64 fl, .int .i64 s, .slice A n c] 24]) :
    Calls Try.prog 7 #[.agg #[.int .i64 2, .int .i64 fl, .int .i64 s, .slice A n c]] w fun e w' => e = .returned (.bool true) ∧ Below w.heap.size w w' := by
  refine calls_any fun K hK => ?_
  have hG := Gnd.le.rfl' (G := Gnd.of w)
  have hbx : bareS 2 s n = ⟨2, s, false, false, false, 0, 0, 0, 0, 0, 0, false, false⟩ := by simp [bareS]
  rw [show bareR 2 s n (pc, false) = ⟨(pc, false), ⟨2, s, false, false, false, 0, 0, 0, 0, 0, 0, false, false⟩, [], []⟩ by unfold bareR; rw [hbx]] at hp
  clear hbx
  simp only [ItS.cs] at hp
  go_enter Try.func7, Try.ntmps7
  go_wp2_with fail
  (with_reducible refine hp.mono ?_)
  clear hp
  rintro e w1 ⟨G1, v, u, hG1, rfl, hv, hu, S2⟩
  obtain ⟨VA, vc, rfl, -, -, -⟩ := hv.form
  obtain ⟨UA, uc, rfl, -⟩ := id hu
  generalize w.heap.size = aF at S2 ⊢
  have hG := hG.trans hG1
  have S3 := (S2.newBlk #[.int .i64 2, .int .i64 s, .slice VA 0 vc, .bool false, .bool false, .bool false, .int .i64 0, .int .i64 0, .int .i64 0, .int .i64 0, .int .i64 0, .int .i64 0, .bool false, .bool false, .slice UA 0 uc] 28).newBlk #[.int .i64 pc, .bool false] 31
  simp only [World.size_alloc] at S3
  have HV := Lib.hid hv
  have HU := Lib.hid hu
  clear S2 hv hu
  go_upto_region 4 with fail
  refine wp_world S3 fun w2 S4 => ?_
  clear S3
  generalize w1.heap.size + 1 = a4 at *
  generalize w1.heap.size = a3 at *
  have c0 := S4.cell 0
  have c1 := S4.cell 1
  have hok := pl_ok S4 pc false
  rw [show (pc == 0 && !false) = false by rw [hpc]; rfl] at hok
  clear S4
  go_wp2_with fail
  (with_reducible refine hok.mono ?_)
  clear hok c0 c1
  rintro e w3 ⟨rfl, S4⟩
  have c0 := S4.cell 0
  have c1 := S4.cell 1
  have y0 : w3.cell? ⟨a3, 0, none⟩ = some (.int .i64 2) := S4.swap.cell 0
  have y1 : w3.cell? ⟨a3, 1, none⟩ = some (.int .i64 s) := S4.swap.cell 1
  have y2 : w3.cell? ⟨a3, 2, none⟩ = some (.slice VA 0 vc) := S4.swap.cell 2
  have y3 : w3.cell? ⟨a3, 3, none⟩ = some (.bool false) := S4.swap.cell 3
  have y4 : w3.cell? ⟨a3, 4, none⟩ = some (.bool false) := S4.swap.cell 4
  have y5 : w3.cell? ⟨a3, 5, none⟩ = some (.bool false) := S4.swap.cell 5
  have y6 : w3.cell? ⟨a3, 6, none⟩ = some (.int .i64 0) := S4.swap.cell 6
  have y7 : w3.cell? ⟨a3, 7, none⟩ = some (.int .i64 0) := S4.swap.cell 7
  have y8 : w3.cell? ⟨a3, 8, none⟩ = some (.int .i64 0) := S4.swap.cell 8
  have y9 : w3.cell? ⟨a3, 9, none⟩ = some (.int .i64 0) := S4.swap.cell 9
  have y10 : w3.cell? ⟨a3, 10, none⟩ = some (.int .i64 0) := S4.swap.cell 10
  have y11 : w3.cell? ⟨a3, 11, none⟩ = some (.int .i64 0) := S4.swap.cell 11
  have y12 : w3.cell? ⟨a3, 12, none⟩ = some (.bool false) := S4.swap.cell 12
  have y13 : w3.cell? ⟨a3, 13, none⟩ = some (.bool false) := S4.swap.cell 13
  have y14 : w3.cell? ⟨a3, 14, none⟩ = some (.slice UA 0 uc) := S4.swap.cell 14
  have d0 := (S4.re [2, 0, 1]).cell 0
  have d2 := (S4.re [2, 0, 1]).cell 2
  have d3 := (S4.re [2, 0, 1]).cell 3
  have heq := pl_equal S4 ⟨2, s, false, false, false, 0, 0, 0, 0, 0, 0, false, false⟩ ⟨2, s, false, false, false, 0, 0, 0, 0, 0, 0, false, false⟩ _ _ (.slice none 0 0) (.slice none 0 0) [] [] [] [] HV.out HU.out (SlB.nil _) (RPr.nil _)
  rw [itEq_self] at heq
  simp only [ItS.cs, List.length_nil] at heq
  clear S4
  go_wp2_with fail
  (with_reducible refine heq.mono ?_)
  clear heq c0 c1 d0 d2 d3 y0 y1 y2 y3 y4 y5 y6 y7 y8 y9 y10 y11 y12 y13 y14
  rintro e w4 ⟨rfl, S5⟩
  go_wp2_with fail
  (with_reducible refine (law_awake S5.drop.drop.drop).mono ?_); rintro e w9 ⟨rfl, G9, hG9, S9⟩; go_wp2_with fail; exact hK.out _ _ ⟨rfl, S9.above (hG.trans hG9)⟩
set_option maxHeartbeats 8000000 in
set_option maxRecDepth 100000 in
theorem pf_4 (w : World) (fl s : Int) (A : Option Addr) (n c : Nat) (h300 : ¬ 300 < n) (pc : Int) (hpc : (pc == 0) = false) (hpn : (pc != 0) = true) (hsn : (s != 0) = true) (hp : Calls Try.prog 9 #[.agg #[.int .i64 8, .int .i64 fl, .int .i64 s, .slice A n c]] (w.alloc (.cells #[.int .i64 8, .int .i64 fl, .int .i64 s, .slice A n c] 24)) fun e w' => ∃ G' v' u', (Gnd.of w).le G' ∧ e = .returned (.tuple #[.agg ((bareR 8 s n (pc, false)).x.cs v' u'), .agg #[.int .i64 (bareR 8 s n (pc, false)).f.1, .bool (bareR 8 s n (pc, false)).f.2]]) ∧ SlB (Go.Proofs.Ytdfdcenbpanegaa.cellR G'.ro) v' (bareR 8 s n (pc, false)).t ∧ RPr G'.ro u' (bareR 8 s n (pc, false)).ps ∧ Sat G' w' [blk w.heap.size #[.int .i64 8, .int .i64 fl, .int .i64 s, .slice A n c] 24]) :
    Calls Try.prog 7 #[.agg #[.int .i64 8, .int .i64 fl, .int .i64 s, .slice A n c]] w fun e w' => e = .returned (.bool true) ∧ Below w.heap.size w w' := by
  refine calls_any fun K hK => ?_
  have hG := Gnd.le.rfl' (G := Gnd.of w)
  have hbx : bareS 8 s n = ⟨8, s, false, false, false, 0, 0, 0, 0, 0, 0, false, false⟩ := by simp [bareS]
  rw [show bareR 8 s n (pc, false) = ⟨(pc, false), ⟨8, s, false, false, false, 0, 0, 0, 0, 0, 0, false, false⟩, [], []⟩ by unfold bareR; rw [hbx]] at hp
  clear hbx
  simp only [ItS.cs] at hp
  go_enter Try.func7, Try.ntmps7
  go_wp2_with fail
  (with_reducible refine hp.mono ?_)
  clear hp
  rintro e w1 ⟨G1, v, u, hG1, rfl, hv, hu, S2⟩
  obtain ⟨VA, vc, rfl, -, -, -⟩ := hv.form
  obtain ⟨UA, uc, rfl, -⟩ := id hu
  generalize w.heap.size = aF at S2 ⊢
  have hG := hG.trans hG1
  have S3 := (S2.newBlk #[.int .i64 8, .int .i64 s, .slice VA 0 vc, .bool false, .bool false, .bool false, .int .i64 0, .int .i64 0, .int .i64 0, .int .i64 0, .int .i64 0, .int .i64 0, .bool false, .bool false, .slice UA 0 uc] 28).newBlk #[.int .i64 pc, .bool false] 31
  simp only [World.size_alloc] at S3
  have HV := Lib.hid hv
  have HU := Lib.hid hu
  clear S2 hv hu
  go_upto_region 4 with fail
  refine wp_world S3 fun w2 S4 => ?_
  clear S3
  generalize w1.heap.size + 1 = a4 at *
  generalize w1.heap.size = a3 at *
  have c0 := S4.cell 0
  have c1 := S4.cell 1
  have hok := pl_ok S4 pc false
  rw [show (pc == 0 && !false) = false by rw [hpc]; rfl] at hok
  clear S4
  go_wp2_with fail
  (with_reducible refine hok.mono ?_)
  clear hok c0 c1
  rintro e w3 ⟨rfl, S4⟩
  have c0 := S4.cell 0
  have c1 := S4.cell 1
  have y0 : w3.cell? ⟨a3, 0, none⟩ = some (.int .i64 8) := S4.swap.cell 0
  have y1 : w3.cell? ⟨a3, 1, none⟩ = some (.int .i64 s) := S4.swap.cell 1
  have y2 : w3.cell? ⟨a3, 2, none⟩ = some (.slice VA 0 vc) := S4.swap.cell 2
  have y3 : w3.cell? ⟨a3, 3, none⟩ = some (.bool false) := S4.swap.cell 3
  have y4 : w3.cell? ⟨a3, 4, none⟩ = some (.bool false) := S4.swap.cell 4
  have y5 : w3.cell? ⟨a3, 5, none⟩ = some (.bool false) := S4.swap.cell 5
  have y6 : w3.cell? ⟨a3, 6, none⟩ = some (.int .i64 0) := S4.swap.cell 6
  have y7 : w3.cell? ⟨a3, 7, none⟩ = some (.int .i64 0) := S4.swap.cell 7
  have y8 : w3.cell? ⟨a3, 8, none⟩ = some (.int .i64 0) := S4.swap.cell 8
  have y9 : w3.cell? ⟨a3, 9, none⟩ = some (.int .i64 0) := S4.swap.cell 9
  have y10 : w3.cell? ⟨a3, 10, none⟩ = some (.int .i64 0) := S4.swap.cell 10
  have y11 : w3.cell? ⟨a3, 11, none⟩ = some (.int .i64 0) := S4.swap.cell 11
  have y12 : w3.cell? ⟨a3, 12, none⟩ = some (.bool false) := S4.swap.cell 12
  have y13 : w3.cell? ⟨a3, 13, none⟩ = some (.bool false) := S4.swap.cell 13
  have y14 : w3.cell? ⟨a3, 14, none⟩ = some (.slice UA 0 uc) := S4.swap.cell 14
  have d0 := (S4.re [2, 0, 1]).cell 0
  have d2 := (S4.re [2, 0, 1]).cell 2
  have d3 := (S4.re [2, 0, 1]).cell 3
  have heq := pl_equal S4 ⟨8, s, false, false, false, 0, 0, 0, 0, 0, 0, false, false⟩ ⟨8, s, false, false, false, 0, 0, 0, 0, 0, 0, false, false⟩ _ _ (.slice none 0 0) (.slice none 0 0) [] [] [] [] HV.out HU.out (SlB.nil _) (RPr.nil _)
  rw [itEq_self] at heq
  simp only [ItS.cs, List.length_nil] at heq
  clear S4
  go_wp2_with fail
  (with_reducible refine heq.mono ?_)
  clear heq c0 c1 d0 d2 d3 y0 y1 y2 y3 y4 y5 y6 y7 y8 y9 y10 y11 y12 y13 y14
  rintro e w4 ⟨rfl, S5⟩
  go_wp2_with fail
  (with_reducible refine (law_awake S5.drop.drop.drop).mono ?_); rintro e w9 ⟨rfl, G9, hG9, S9⟩; go_wp2_with fail; exact hK.out _ _ ⟨rfl, S9.above (hG.trans hG9)⟩
theorem payloadFaults_walk (w : World) (v0 : Value) (h0 : ∃ d, ArgV w (Ty.agg [.int .i64, .int .i64, .int .i64, .sl 1 (.int .u8)]) v0 d) :
    Calls Try.prog 7 #[v0] w fun e w' => e = .returned (.bool true) ∧ Below w.heap.size w w' := by
  obtain ⟨_, h0⟩ := h0
  obtain ⟨k, fl, s, u, bs, rfl, hb, -⟩ := arg_fr h0
  clear h0
  obtain ⟨A, c, rfl, -, -, -⟩ := hb.form
  have S1 := (Sat.start w).newBlk #[.int .i64 k, .int .i64 fl, .int .i64 s, .slice A bs.length c] 24
  by_cases h300 : 300 < bs.length
  · refine calls_any fun K hK => ?_
    have hG := Gnd.le.rfl' (G := Gnd.of w)
    clear hb
    go_enter Try.func7, Try.ntmps7
    go_wp2_with fail
    (with_reducible refine (law_awake S1.drop).mono ?_); rintro e w9 ⟨rfl, G9, hG9, S9⟩; go_wp2_with fail; exact hK.out _ _ ⟨rfl, S9.above (hG.trans hG9)⟩
  have hp := pl_parse S1 k fl s _ hb (by omega)
  have hc := parse_f k fl s bs
  generalize parseS k fl s bs = r at *
  generalize hn : bs.length = n at *
  clear S1 hb hn
  rcases hc with hc | ⟨f, rfl, hf⟩
  · obtain ⟨⟨pc, pb⟩, x, t, ps⟩ := r
    simp only at hc
    cases hc
    exact pf_ok w k fl s A n c h300 x t ps hp
  · obtain ⟨pc, pb⟩ := f
    have hpc : (pc == 0) = false := by rcases hf with h | h | ⟨h | h, -⟩ <;> cases h <;> rfl
    have hpn : (pc != 0) = true := by simp [bne, hpc]
    have hf2 : pb = true ∨ (pb = false ∧ s ≠ 0 ∧ (k = 1 ∨ k = 2 ∨ k = 8)) := by
      rcases hf with h | h | ⟨h | h, h2⟩ <;> cases h
      · exact .inl rfl
      · exact .inl rfl
      · exact .inr ⟨rfl, h2⟩
      · exact .inr ⟨rfl, h2⟩
    clear hf
    rcases hf2 with rfl | ⟨rfl, hs, hk⟩
    · cases k0 : (k == 0) with
      | true =>
        obtain rfl : k = 0 := beq_iff_eq.1 k0
        exact pf_0 w fl s A n c h300 pc hpc hpn hp
      | false => exact pf_1 w fl s A n c h300 pc hpc hpn k k0 hp
    · have hsn : (s != 0) = true := by simpa using hs
      rcases hk with rfl | rfl | rfl
      · exact pf_2 w fl s A n c h300 pc hpc hpn hsn hp
      · exact pf_3 w fl s A n c h300 pc hpc hpn hsn hp
      · exact pf_4 w fl s A n c h300 pc hpc hpn hsn hp
end Go.Proofs.Ytdfdcenbpanegaa
