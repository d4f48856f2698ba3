/- The walk of the law CellAlike. -/
import Derived.Test.YthenpoammpkjeaaFills
import Derived.Test.YthenpoammpkjeaaOpen
set_option linter.unusedSimpArgs false
set_option linter.unusedVariables false
namespace Go.Proofs.Ythenpoammpkjeaa
open Go.RowKit

/-- What an empty slot has. -/
theorem empty_slot (N : Nat) (h1 : 1 ≤ N) (h2 : N ≤ 1024) : headE (fillB [] (N + 9)) (N + 18) = 0 ∧ hdT (fillB [] (N + 9)) = 250 ∧ eat (fillB [] (N + 9)) 1 = [] ∧ (fillB [] (N + 9)).length = N + 18 := by
  have e : fillB [] (N + 9) = frBytes 250 0 0 (List.replicate (N + 9) 0) ++ [] := by unfold fillB; simp
  have hh := fr_head 250 0 0 (List.replicate (N + 9) 0) (by decide) (by decide) (by decide) (by rw [List.length_replicate]; omega) []
  rw [← e, List.length_replicate] at hh
  obtain ⟨q1, q2, -, -, -, q6⟩ := hh
  have hl : (fillB [] (N + 9)).length = N + 18 := by rw [fillB_length]; simp; omega
  refine ⟨?_, q2, ?_, hl⟩
  · unfold headE
    rw [hl, q1, if_neg (by omega), if_neg (by omega), if_neg (by omega)]
  · show (fillB [] (N + 9)).drop (9 + hdN (fillB [] (N + 9))) = []
    rw [q1]; exact q6
theorem empty_open {R : Hp} {N : Nat} {e : Ending} (h1 : 1 ≤ N) (h2 : N ≤ 1024) (h : OpenRes R (fillB [] (N + 9)) N e) : ∃ A c, e = .returned (.tuple #[.slice A 0 c, .int .i64 0]) := by
  obtain ⟨e1, e2, e3, e4⟩ := empty_slot N h1 h2
  have hr : clRight N = true := decide_eq_true (by omega)
  have he1 : headE (eat (fillB [] (N + 9)) 1) ((N : Int) + 18) = 16 := by rw [e3]; rfl
  have hE1 : Eats (fillB [] (N + 9)) ((N : Int) + 18) 1 := fun i hi => by
    obtain rfl : i = 0 := by omega
    exact e1
  rcases h with ⟨h, -⟩ | ⟨-, K, hE, hor⟩
  · rw [hr] at h; cases h
  · have hne : headE (eat (fillB [] (N + 9)) K) ((N : Int) + 18) ≠ 0 := by
      rcases hor with ⟨h, -⟩ | ⟨h | ⟨h, -⟩, -⟩ <;> rw [h] <;> decide
    have k1 : K ≤ 1 := hE.le (by rw [he1]; decide)
    have k2 : 1 ≤ K := hE1.le hne
    obtain rfl : K = 1 := by omega
    rcases hor with ⟨-, -, -, F, v', hF, hFL, rfl, A, c, rfl, -⟩ | ⟨h, -⟩
    · have hflt : F.filter keep = [] := by
        rw [List.filter_eq_nil_iff]
        intro f hf
        obtain ⟨i, hi, rfl⟩ := List.mem_iff_getElem.1 hf
        obtain rfl : i = 0 := by omega
        have := (hFL 0 F[0] (List.getElem?_eq_getElem hi)).1
        rw [show eat (fillB [] (N + 9)) 0 = fillB [] (N + 9) from rfl, e2] at this
        simp [keep, fill, this]
      exact ⟨A, c, by rw [hflt]; rfl⟩
    · exfalso
      rw [he1] at h
      rcases h with h | ⟨-, h | h⟩
      · cases h
      · exact h e3
      · rw [e4] at h; exact h (by omega)
set_option maxHeartbeats 8000000 in
set_option maxRecDepth 100000 in
theorem cellAlike_walk (w : World) (v0 v1 v2 : Value) (h0 : ∃ d, ArgV w (.sl 1 (.int .u8)) v0 d) (h1 : ∃ d, ArgV w (.sl 1 (.int .u8)) v1 d) (h2 : ∃ d, ArgV w (.int .i64) v2 d) :
    Calls Try.prog 6 #[v0, v1, v2] w fun e w' => e = .returned (.bool true) ∧ Below w.heap.size w w' := by
  refine calls_any fun K hK => ?_
  obtain ⟨_, h0⟩ := h0
  obtain ⟨ll, h0⟩ := arg_sl h0
  obtain ⟨a, -, hal, ha⟩ := slb_of h0
  obtain ⟨_, h1⟩ := h1
  obtain ⟨ll, h1⟩ := arg_sl h1
  obtain ⟨b, -, hbl, hb⟩ := slb_of h1
  obtain ⟨_, h2⟩ := h2
  obtain ⟨n, rfl, -⟩ := arg_int h2
  clear h0 h1 h2
  have S0 := Sat.start w
  change SlB (Go.Proofs.Ythenpoammpkjeaa.cellR (Gnd.of w).ro) v0 a at ha
  change SlB (Go.Proofs.Ythenpoammpkjeaa.cellR (Gnd.of w).ro) v1 b at hb
  have hG := Gnd.le.rfl' (G := Gnd.of w)
  obtain ⟨A, ca, rfl, hca1, hca2, -⟩ := ha.form
  obtain ⟨B, cb, rfl, hcb1, hcb2, -⟩ := hb.form
  by_cases a1 : 1100 < (a.length : Int)
  · go_enter Try.func6, Try.ntmps6
    go_wp2_with fail
    (with_reducible refine (awake_below _).mono ?_); rintro e w9 ⟨rfl, hb9⟩; go_wp2_with fail; exact hK.out _ _ ⟨rfl, ((S0).below hb9).above (hG)⟩
  by_cases a2 : 1100 < (b.length : Int)
  · go_enter Try.func6, Try.ntmps6
    go_wp2_with fail
    (with_reducible refine (awake_below _).mono ?_); rintro e w9 ⟨rfl, hb9⟩; go_wp2_with fail; exact hK.out _ _ ⟨rfl, ((S0).below hb9).above (hG)⟩
  have hf1 := cell_fill S0 _ a n ha (by omega)
  have HF := Lib.hid (fun (G : Gnd) (W : World) (S : Sat G W []) (v : Value) (bs : List UInt8) (h : SlB (Go.Proofs.Ythenpoammpkjeaa.cellR G.ro) v bs) (hl : bs.length ≤ 1000000) => cell_fill S v bs n h hl)
  have HO := Lib.hid (fun (G : Gnd) (W : World) (S : Sat G W []) (v : Value) (bs : List UInt8) (h : SlB (Go.Proofs.Ythenpoammpkjeaa.cellR G.ro) v bs) (hl : bs.length ≤ 100000000) => cell_open S v bs n h hl)
  go_enter Try.func6, Try.ntmps6
  go_wp2_with fail
  (with_reducible refine hf1.mono ?_)
  clear hf1 S0
  rintro e w1 ⟨G1, hG1, S1, h1⟩
  have hf2 := HF.out G1 w1 S1 _ b (hb.mono hG1) (by omega)
  obtain ⟨x, ex, rfl, hx⟩ : ∃ x ex, e = .returned (.tuple #[x, .int .i64 ex]) ∧ ((ex ≠ 0) ∨ (ex = 0 ∧ clRight n = true ∧ ∃ z : Nat, n + 9 = a.length + z ∧ SlB (Go.Proofs.Ythenpoammpkjeaa.cellR G1.ro) x (fillB a z))) := by
    rcases h1 with ⟨-, rfl⟩ | ⟨-, -, rfl⟩ | ⟨hr, z, hz, u, rfl, hu⟩
    · exact ⟨_, _, rfl, .inl (by decide)⟩
    · exact ⟨_, _, rfl, .inl (by decide)⟩
    · exact ⟨_, _, rfl, .inr ⟨rfl, hr, z, hz, hu⟩⟩
  clear h1
  have HX := Lib.hid hx
  clear hx
  go_wp2_with fail
  (with_reducible refine hf2.mono ?_)
  clear hf2 S1
  rintro e w2 ⟨G2, hG2, S2, h2⟩
  obtain ⟨y, ey, rfl, hy⟩ : ∃ y ey, e = .returned (.tuple #[y, .int .i64 ey]) ∧ ((ey ≠ 0) ∨ (ey = 0 ∧ clRight n = true ∧ ∃ z : Nat, n + 9 = b.length + z ∧ SlB (Go.Proofs.Ythenpoammpkjeaa.cellR G2.ro) y (fillB b z))) := by
    rcases h2 with ⟨-, rfl⟩ | ⟨-, -, rfl⟩ | ⟨hr, z, hz, u, rfl, hu⟩
    · exact ⟨_, _, rfl, .inl (by decide)⟩
    · exact ⟨_, _, rfl, .inl (by decide)⟩
    · exact ⟨_, _, rfl, .inr ⟨rfl, hr, z, hz, hu⟩⟩
  clear h2
  have HY := Lib.hid hy
  clear hy
  have hf3 := HF.out G2 w2 S2 (.slice none 0 0) [] (SlB.nil _) (by decide)
  go_wp2_with fail
  (with_reducible refine hf3.mono ?_)
  clear hf3 S2
  rintro e w3 ⟨G3, hG3, S3, h3⟩
  have hG03 := (hG1.trans hG2).trans hG3
  rcases HX.out with hx | ⟨rfl, hr, za, hza, hX⟩
  · have hx' : (ex == 0) = false := beq_eq_false_iff_ne.2 hx
    obtain ⟨z, ez, rfl⟩ : ∃ z ez, e = .returned (.tuple #[z, .int .i64 ez]) := by
      rcases h3 with ⟨-, rfl⟩ | ⟨-, -, rfl⟩ | ⟨hr, z, hz, u, rfl, hu⟩ <;> exact ⟨_, _, rfl⟩
    clear h3 HX HY hx
    go_wp2_with fail
    (with_reducible refine (awake_below _).mono ?_); rintro e w9 ⟨rfl, hb9⟩; go_wp2_with fail; exact hK.out _ _ ⟨rfl, ((S3).below hb9).above (hG03)⟩
  rcases HY.out with hy | ⟨rfl, -, zb, hzb, hY⟩
  · have hy' : (ey == 0) = false := beq_eq_false_iff_ne.2 hy
    obtain ⟨z, ez, rfl⟩ : ∃ z ez, e = .returned (.tuple #[z, .int .i64 ez]) := by
      rcases h3 with ⟨-, rfl⟩ | ⟨-, -, rfl⟩ | ⟨hr, z, hz, u, rfl, hu⟩ <;> exact ⟨_, _, rfl⟩
    clear h3 HX HY hy hza hX hr
    go_wp2_with fail
    (with_reducible refine (awake_below _).mono ?_); rintro e w9 ⟨rfl, hb9⟩; go_wp2_with fail; exact hK.out _ _ ⟨rfl, ((S3).below hb9).above (hG03)⟩
  clear HX HY
  obtain ⟨b1, b2⟩ := right_bounds hr
  obtain ⟨N, rfl⟩ : ∃ N : Nat, n = N := ⟨n.toNat, by omega⟩
  rcases h3 with ⟨h, -⟩ | ⟨-, h, -⟩ | ⟨-, zz, hzz, u, rfl, hu⟩
  · rw [hr] at h; cases h
  · simp at h; omega
  obtain rfl : zz = N + 9 := by simp at hzz; omega
  have hla : (fillB a za).length = N + 18 := by rw [fillB_length]; omega
  have hlb : (fillB b zb).length = N + 18 := by rw [fillB_length]; omega
  have hlz : (fillB [] (N + 9)).length = N + 18 := (empty_slot N (by omega) (by omega)).2.2.2
  have hop := HO.out G3 w3 S3 _ _ hu (by omega)
  obtain ⟨X, cx, rfl, hx1, hx2, hx3⟩ := hX.form
  obtain ⟨Y, cy, rfl, hy1, hy2, -⟩ := hY.form
  obtain ⟨Z, cz, rfl, hz1, hz2, -⟩ := hu.form
  have hX3 := (hX.mono hG2).mono hG3
  have htk : (fillB a za).take a.length = a := by unfold fillB; exact List.take_left' rfl
  have hXa := hX3.to a.length (by rw [fillB_length]; omega) cx (by rw [fillB_length] at hx1; omega) (Nat.le_refl _)
  rw [htk] at hXa
  have hA3 := (ha.mono (hG1.trans hG2)).mono hG3
  obtain ⟨xb, xo, rfl⟩ : ∃ b o, X = some ⟨b, o, none⟩ := by
    cases X with
    | none => have := hx3 rfl; omega
    | some ad =>
      obtain ⟨b0, o0, e⟩ := (hX3.sat S3).addr (by omega)
      exact ⟨b0, o0, by rw [e]⟩
  rw [hla] at hx1 ⊢
  rw [hlb] at ⊢
  rw [hlz] at hop ⊢
  have hcx : cx ≤ 9223372036854775807 := hx2
  have hmin : min (a.length : Int) ((N : Int) + 18) = a.length := Int.min_eq_left (by omega)
  have hal2 : a.length ≤ N + 18 := by omega
  clear hX hX3 htk hY hu hr hza hzb hzz hla hlb hlz HF HO ha hb hcb2 hy2 hz2 hx3 hx2
  have HXA := Lib.hid hXa
  have HA3 := Lib.hid hA3
  have HMIN := Lib.hid hmin
  clear hXa hA3 hmin
  go_wp2_with fail
  (with_reducible refine hop.mono ?_)
  clear hop S3
  rintro e w4 ⟨G4, hG4, hres, S4⟩
  obtain ⟨O, co, rfl⟩ := empty_open (by omega) (by omega) hres
  clear hres
  go_upto_region 9 with fail
  refine wp_act fun a0 ha0 => ?_
  have HSZ : a0.tmps.size = 102 := by rw [ha0]; rfl
  have E0 : a0.eval (.tmp 0) = .slice A a.length ca := by rw [ha0]; rfl
  have E7 : a0.eval (.tmp 7) = .slice (some ⟨xb, xo, none⟩) (N + 18) cx := by rw [ha0]; rfl
  have E9 : a0.eval (.tmp 9) = .slice Y (N + 18) cy := by rw [ha0]; rfl
  have E11 : a0.eval (.tmp 11) = .slice Z (N + 18) cz := by rw [ha0]; rfl
  have E12 : a0.eval (.tmp 12) = .int .i64 0 := by rw [ha0]; rfl
  have E13 : a0.eval (.tmp 13) = .slice O 0 co := by rw [ha0]; rfl
  have E14 : a0.eval (.tmp 14) = .int .i64 0 := by rw [ha0]; rfl
  refine wp_region_sat (by kernel_rfl) 49 (by kernel_rfl) [[], [0], [1], [2], [3, 2], [2, 4], [5, 2], [6], [7, 6], [8, 6], [6, 9], [10, 6], [11], [12, 11], [11], [14, 11], [13, 15, 11], [11, 16], [17, 11], [18], [19, 18], [18], [21, 18], [20, 22, 18], [18, 23], [24, 18], [25], [26, 25], [25], [28, 25], [27, 29, 25], [25, 30], [31, 25], [32], [32], [34, 32], [32], [36, 32], [35, 37, 32], [33, 38, 32], [39, 32], [32], [41, 32], [40, 42, 32], [32, 43], [44, 32], [45, 45], [45, 46], [47, 46, 0, 1, 2, 3, 4, 5, 6, 7, 8, 9, 10, 11, 12, 13, 14, 15, 16, 17, 18, 19, 20, 21, 22, 23, 24, 25, 26, 27, 28, 29, 30, 31, 32, 33, 34, 35, 36, 37, 38, 39, 40, 41, 42, 43, 44, 45, 46, 47]] (by kernel_rfl) (by kernel_rfl) [(0, 54, .int .i64 0), (1, 55, .bool true), (2, 56, .bool true), (3, 57, .int .i64 0), (4, 58, .bool true), (5, 59, .bool true), (6, 60, .bool true), (7, 61, .slice O 0 co), (8, 62, .int .i64 0), (9, 63, .bool true), (10, 64, .bool true), (11, 65, .bool true), (12, 66, .slice (some ⟨xb, xo, none⟩) (N + 18) cx), (13, 67, .int .i64 (N + 18)), (14, 68, .slice Y (N + 18) cy), (15, 69, .int .i64 (N + 18)), (16, 70, .bool true), (17, 71, .bool true), (18, 72, .bool true), (19, 73, .slice (some ⟨xb, xo, none⟩) (N + 18) cx), (20, 74, .int .i64 (N + 18)), (21, 75, .slice Z (N + 18) cz), (22, 76, .int .i64 (N + 18)), (23, 77, .bool true), (24, 78, .bool true), (25, 79, .bool true), (26, 80, .slice (some ⟨xb, xo, none⟩) (N + 18) cx), (27, 81, .int .i64 (N + 18)), (28, 82, .slice A a.length ca), (29, 83, .int .i64 a.length), (30, 84, .bool true), (31, 85, .bool true), (32, 86, .bool true), (33, 87, .slice (some ⟨xb, xo, none⟩) (N + 18) cx), (34, 88, .slice A a.length ca), (35, 89, .int .i64 a.length), (36, 90, .slice (some ⟨xb, xo, none⟩) (N + 18) cx), (37, 91, .int .i64 (N + 18)), (38, 92, .int .i64 a.length), (39, 93, .slice (some ⟨xb, xo, none⟩) a.length cx), (40, 94, .string (bstr a)), (41, 95, .slice A a.length ca), (42, 96, .string (bstr a)), (43, 97, .bool true), (44, 98, .bool true), (45, 99, .bool true), (46, 100, .bool true), (47, 101, .bool true), (48, 6, .bool true)] (fun _ => []) (by kernel_rfl) S4 ?_ ?_
  · refine ⟨?_, ?_, ?_, ?_, ?_, ?_, ?_, ?_, ?_, ?_, ?_, ?_, ?_, ?_, ?_, ?_, ?_, ?_, ?_, ?_, ?_, ?_, ?_, ?_, ?_, ?_, ?_, ?_, ?_, ?_, ?_, ?_, ?_, ?_, ?_, ?_, ?_, ?_, ?_, ?_, ?_, ?_, ?_, ?_, ?_, ?_, ?_, ?_, ?_, trivial⟩
    · intro f W h0 hd S
      refine wpOp_run (v := .int .i64 0) rfl rfl (fun ρ hρ => ?_) ⟨(acts_some 0 rfl (by kernel_rfl) (by kernel_rfl)).symm, S⟩
      have e0 : ρ (.tmp 12) = .int .i64 0 := by rw [hρ]; exact (acts_eval_tmp 12 (by kernel_rfl)).trans E12
      clear hρ
      go_simp
    · intro f W h1 hd S
      refine wpOp_run (v := .bool true) rfl rfl (fun ρ hρ => ?_) ⟨(acts_some 1 rfl (by kernel_rfl) (by kernel_rfl)).symm, S⟩
      have e0 : ρ (.tmp 54) = .int .i64 0 := by rw [hρ]; exact acts_eval_hit 0 rfl hd.1 (by rw [HSZ]; rfl) (by kernel_rfl)
      have ec : ∀ v, ρ (.const v) = v := by rw [hρ]; exact fun _ => rfl
      clear hρ
      go_simp
    · intro f W h2 hd S
      refine wpOp_run (v := .bool true) rfl rfl (fun ρ hρ => ?_) ⟨(acts_some 2 rfl (by kernel_rfl) (by kernel_rfl)).symm, S⟩
      have e0 : ρ (.tmp 55) = .bool true := by rw [hρ]; exact acts_eval_hit 1 rfl hd.1 (by rw [HSZ]; rfl) (by kernel_rfl)
      clear hρ
      go_simp
    · intro f W h3 hd S
      refine wpOp_runG (v := .int .i64 0) rfl ?_ (fun ρ hρ => ?_) ⟨(acts_some 3 rfl (by kernel_rfl) (by kernel_rfl)).symm, S⟩
      · exact wanted_hit (t := 56) rfl rfl (acts_eval_hit 2 rfl hd.1 (by rw [HSZ]; rfl) (by kernel_rfl))
      · skip
        have e0 : ρ (.tmp 14) = .int .i64 0 := by rw [hρ]; exact (acts_eval_tmp 14 (by kernel_rfl)).trans E14
        clear hρ
        go_simp
    · intro f W h4 hd S
      refine wpOp_runG (v := .bool true) rfl ?_ (fun ρ hρ => ?_) ⟨(acts_some 4 rfl (by kernel_rfl) (by kernel_rfl)).symm, S⟩
      · exact wanted_hit (t := 56) rfl rfl (acts_eval_hit 2 rfl hd.2.1 (by rw [HSZ]; rfl) (by kernel_rfl))
      · skip
        have e0 : ρ (.tmp 57) = .int .i64 0 := by rw [hρ]; exact acts_eval_hit 3 rfl hd.1 (by rw [HSZ]; rfl) (by kernel_rfl)
        have ec : ∀ v, ρ (.const v) = v := by rw [hρ]; exact fun _ => rfl
        clear hρ
        go_simp
    · intro f W h5 hd S
      refine wpOp_run (v := .bool true) rfl rfl (fun ρ hρ => ?_) ⟨(acts_some 5 rfl (by kernel_rfl) (by kernel_rfl)).symm, S⟩
      have e0 : ρ (.tmp 56) = .bool true := by rw [hρ]; exact acts_eval_hit 2 rfl hd.1 (by rw [HSZ]; rfl) (by kernel_rfl)
      have e1 : ρ (.tmp 58) = .bool true := by rw [hρ]; exact acts_eval_hit 4 rfl hd.2.1 (by rw [HSZ]; rfl) (by kernel_rfl)
      have ec : ∀ v, ρ (.const v) = v := by rw [hρ]; exact fun _ => rfl
      clear hρ
      go_simp
    · intro f W h6 hd S
      refine wpOp_run (v := .bool true) rfl rfl (fun ρ hρ => ?_) ⟨(acts_some 6 rfl (by kernel_rfl) (by kernel_rfl)).symm, S⟩
      have e0 : ρ (.tmp 59) = .bool true := by rw [hρ]; exact acts_eval_hit 5 rfl hd.1 (by rw [HSZ]; rfl) (by kernel_rfl)
      clear hρ
      go_simp
    · intro f W h7 hd S
      refine wpOp_runG (v := .slice O 0 co) rfl ?_ (fun ρ hρ => ?_) ⟨(acts_some 7 rfl (by kernel_rfl) (by kernel_rfl)).symm, S⟩
      · exact wanted_hit (t := 60) rfl rfl (acts_eval_hit 6 rfl hd.1 (by rw [HSZ]; rfl) (by kernel_rfl))
      · skip
        have e0 : ρ (.tmp 13) = .slice O 0 co := by rw [hρ]; exact (acts_eval_tmp 13 (by kernel_rfl)).trans E13
        clear hρ
        go_simp
    · intro f W h8 hd S
      refine wpOp_runG (v := .int .i64 0) rfl ?_ (fun ρ hρ => ?_) ⟨(acts_some 8 rfl (by kernel_rfl) (by kernel_rfl)).symm, S⟩
      · exact wanted_hit (t := 60) rfl rfl (acts_eval_hit 6 rfl hd.2.1 (by rw [HSZ]; rfl) (by kernel_rfl))
      · skip
        have e0 : ρ (.tmp 61) = .slice O 0 co := by rw [hρ]; exact acts_eval_hit 7 rfl hd.1 (by rw [HSZ]; rfl) (by kernel_rfl)
        clear hρ
        go_simp
    · intro f W h9 hd S
      refine wpOp_runG (v := .bool true) rfl ?_ (fun ρ hρ => ?_) ⟨(acts_some 9 rfl (by kernel_rfl) (by kernel_rfl)).symm, S⟩
      · exact wanted_hit (t := 60) rfl rfl (acts_eval_hit 6 rfl hd.2.1 (by rw [HSZ]; rfl) (by kernel_rfl))
      · skip
        have e0 : ρ (.tmp 62) = .int .i64 0 := by rw [hρ]; exact acts_eval_hit 8 rfl hd.1 (by rw [HSZ]; rfl) (by kernel_rfl)
        have ec : ∀ v, ρ (.const v) = v := by rw [hρ]; exact fun _ => rfl
        clear hρ
        go_simp
    · intro f W h10 hd S
      refine wpOp_run (v := .bool true) rfl rfl (fun ρ hρ => ?_) ⟨(acts_some 10 rfl (by kernel_rfl) (by kernel_rfl)).symm, S⟩
      have e0 : ρ (.tmp 60) = .bool true := by rw [hρ]; exact acts_eval_hit 6 rfl hd.1 (by rw [HSZ]; rfl) (by kernel_rfl)
      have e1 : ρ (.tmp 63) = .bool true := by rw [hρ]; exact acts_eval_hit 9 rfl hd.2.1 (by rw [HSZ]; rfl) (by kernel_rfl)
      have ec : ∀ v, ρ (.const v) = v := by rw [hρ]; exact fun _ => rfl
      clear hρ
      go_simp
    · intro f W h11 hd S
      refine wpOp_run (v := .bool true) rfl rfl (fun ρ hρ => ?_) ⟨(acts_some 11 rfl (by kernel_rfl) (by kernel_rfl)).symm, S⟩
      have e0 : ρ (.tmp 64) = .bool true := by rw [hρ]; exact acts_eval_hit 10 rfl hd.1 (by rw [HSZ]; rfl) (by kernel_rfl)
      clear hρ
      go_simp
    · intro f W h12 hd S
      refine wpOp_runG (v := .slice (some ⟨xb, xo, none⟩) (N + 18) cx) rfl ?_ (fun ρ hρ => ?_) ⟨(acts_some 12 rfl (by kernel_rfl) (by kernel_rfl)).symm, S⟩
      · exact wanted_hit (t := 65) rfl rfl (acts_eval_hit 11 rfl hd.1 (by rw [HSZ]; rfl) (by kernel_rfl))
      · skip
        have e0 : ρ (.tmp 7) = .slice (some ⟨xb, xo, none⟩) (N + 18) cx := by rw [hρ]; exact (acts_eval_tmp 7 (by kernel_rfl)).trans E7
        clear hρ
        go_simp
    · intro f W h13 hd S
      refine wpOp_runG (v := .int .i64 (N + 18)) rfl ?_ (fun ρ hρ => ?_) ⟨(acts_some 13 rfl (by kernel_rfl) (by kernel_rfl)).symm, S⟩
      · exact wanted_hit (t := 65) rfl rfl (acts_eval_hit 11 rfl hd.2.1 (by rw [HSZ]; rfl) (by kernel_rfl))
      · skip
        have e0 : ρ (.tmp 66) = .slice (some ⟨xb, xo, none⟩) (N + 18) cx := by rw [hρ]; exact acts_eval_hit 12 rfl hd.1 (by rw [HSZ]; rfl) (by kernel_rfl)
        clear hρ
        go_simp
    · intro f W h14 hd S
      refine wpOp_runG (v := .slice Y (N + 18) cy) rfl ?_ (fun ρ hρ => ?_) ⟨(acts_some 14 rfl (by kernel_rfl) (by kernel_rfl)).symm, S⟩
      · exact wanted_hit (t := 65) rfl rfl (acts_eval_hit 11 rfl hd.1 (by rw [HSZ]; rfl) (by kernel_rfl))
      · skip
        have e0 : ρ (.tmp 9) = .slice Y (N + 18) cy := by rw [hρ]; exact (acts_eval_tmp 9 (by kernel_rfl)).trans E9
        clear hρ
        go_simp
    · intro f W h15 hd S
      refine wpOp_runG (v := .int .i64 (N + 18)) rfl ?_ (fun ρ hρ => ?_) ⟨(acts_some 15 rfl (by kernel_rfl) (by kernel_rfl)).symm, S⟩
      · exact wanted_hit (t := 65) rfl rfl (acts_eval_hit 11 rfl hd.2.1 (by rw [HSZ]; rfl) (by kernel_rfl))
      · skip
        have e0 : ρ (.tmp 68) = .slice Y (N + 18) cy := by rw [hρ]; exact acts_eval_hit 14 rfl hd.1 (by rw [HSZ]; rfl) (by kernel_rfl)
        clear hρ
        go_simp
    · intro f W h16 hd S
      refine wpOp_runG (v := .bool true) rfl ?_ (fun ρ hρ => ?_) ⟨(acts_some 16 rfl (by kernel_rfl) (by kernel_rfl)).symm, S⟩
      · exact wanted_hit (t := 65) rfl rfl (acts_eval_hit 11 rfl hd.2.2.1 (by rw [HSZ]; rfl) (by kernel_rfl))
      · skip
        have e0 : ρ (.tmp 67) = .int .i64 (N + 18) := by rw [hρ]; exact acts_eval_hit 13 rfl hd.1 (by rw [HSZ]; rfl) (by kernel_rfl)
        have e1 : ρ (.tmp 69) = .int .i64 (N + 18) := by rw [hρ]; exact acts_eval_hit 15 rfl hd.2.1 (by rw [HSZ]; rfl) (by kernel_rfl)
        clear hρ
        go_simp
    · intro f W h17 hd S
      refine wpOp_run (v := .bool true) rfl rfl (fun ρ hρ => ?_) ⟨(acts_some 17 rfl (by kernel_rfl) (by kernel_rfl)).symm, S⟩
      have e0 : ρ (.tmp 65) = .bool true := by rw [hρ]; exact acts_eval_hit 11 rfl hd.1 (by rw [HSZ]; rfl) (by kernel_rfl)
      have e1 : ρ (.tmp 70) = .bool true := by rw [hρ]; exact acts_eval_hit 16 rfl hd.2.1 (by rw [HSZ]; rfl) (by kernel_rfl)
      have ec : ∀ v, ρ (.const v) = v := by rw [hρ]; exact fun _ => rfl
      clear hρ
      go_simp
    · intro f W h18 hd S
      refine wpOp_run (v := .bool true) rfl rfl (fun ρ hρ => ?_) ⟨(acts_some 18 rfl (by kernel_rfl) (by kernel_rfl)).symm, S⟩
      have e0 : ρ (.tmp 71) = .bool true := by rw [hρ]; exact acts_eval_hit 17 rfl hd.1 (by rw [HSZ]; rfl) (by kernel_rfl)
      clear hρ
      go_simp
    · intro f W h19 hd S
      refine wpOp_runG (v := .slice (some ⟨xb, xo, none⟩) (N + 18) cx) rfl ?_ (fun ρ hρ => ?_) ⟨(acts_some 19 rfl (by kernel_rfl) (by kernel_rfl)).symm, S⟩
      · exact wanted_hit (t := 72) rfl rfl (acts_eval_hit 18 rfl hd.1 (by rw [HSZ]; rfl) (by kernel_rfl))
      · skip
        have e0 : ρ (.tmp 7) = .slice (some ⟨xb, xo, none⟩) (N + 18) cx := by rw [hρ]; exact (acts_eval_tmp 7 (by kernel_rfl)).trans E7
        clear hρ
        go_simp
    · intro f W h20 hd S
      refine wpOp_runG (v := .int .i64 (N + 18)) rfl ?_ (fun ρ hρ => ?_) ⟨(acts_some 20 rfl (by kernel_rfl) (by kernel_rfl)).symm, S⟩
      · exact wanted_hit (t := 72) rfl rfl (acts_eval_hit 18 rfl hd.2.1 (by rw [HSZ]; rfl) (by kernel_rfl))
      · skip
        have e0 : ρ (.tmp 73) = .slice (some ⟨xb, xo, none⟩) (N + 18) cx := by rw [hρ]; exact acts_eval_hit 19 rfl hd.1 (by rw [HSZ]; rfl) (by kernel_rfl)
        clear hρ
        go_simp
    · intro f W h21 hd S
      refine wpOp_runG (v := .slice Z (N + 18) cz) rfl ?_ (fun ρ hρ => ?_) ⟨(acts_some 21 rfl (by kernel_rfl) (by kernel_rfl)).symm, S⟩
      · exact wanted_hit (t := 72) rfl rfl (acts_eval_hit 18 rfl hd.1 (by rw [HSZ]; rfl) (by kernel_rfl))
      · skip
        have e0 : ρ (.tmp 11) = .slice Z (N + 18) cz := by rw [hρ]; exact (acts_eval_tmp 11 (by kernel_rfl)).trans E11
        clear hρ
        go_simp
    · intro f W h22 hd S
      refine wpOp_runG (v := .int .i64 (N + 18)) rfl ?_ (fun ρ hρ => ?_) ⟨(acts_some 22 rfl (by kernel_rfl) (by kernel_rfl)).symm, S⟩
      · exact wanted_hit (t := 72) rfl rfl (acts_eval_hit 18 rfl hd.2.1 (by rw [HSZ]; rfl) (by kernel_rfl))
      · skip
        have e0 : ρ (.tmp 75) = .slice Z (N + 18) cz := by rw [hρ]; exact acts_eval_hit 21 rfl hd.1 (by rw [HSZ]; rfl) (by kernel_rfl)
        clear hρ
        go_simp
    · intro f W h23 hd S
      refine wpOp_runG (v := .bool true) rfl ?_ (fun ρ hρ => ?_) ⟨(acts_some 23 rfl (by kernel_rfl) (by kernel_rfl)).symm, S⟩
      · exact wanted_hit (t := 72) rfl rfl (acts_eval_hit 18 rfl hd.2.2.1 (by rw [HSZ]; rfl) (by kernel_rfl))
      · skip
        have e0 : ρ (.tmp 74) = .int .i64 (N + 18) := by rw [hρ]; exact acts_eval_hit 20 rfl hd.1 (by rw [HSZ]; rfl) (by kernel_rfl)
        have e1 : ρ (.tmp 76) = .int .i64 (N + 18) := by rw [hρ]; exact acts_eval_hit 22 rfl hd.2.1 (by rw [HSZ]; rfl) (by kernel_rfl)
        clear hρ
        go_simp
    · intro f W h24 hd S
      refine wpOp_run (v := .bool true) rfl rfl (fun ρ hρ => ?_) ⟨(acts_some 24 rfl (by kernel_rfl) (by kernel_rfl)).symm, S⟩
      have e0 : ρ (.tmp 72) = .bool true := by rw [hρ]; exact acts_eval_hit 18 rfl hd.1 (by rw [HSZ]; rfl) (by kernel_rfl)
      have e1 : ρ (.tmp 77) = .bool true := by rw [hρ]; exact acts_eval_hit 23 rfl hd.2.1 (by rw [HSZ]; rfl) (by kernel_rfl)
      have ec : ∀ v, ρ (.const v) = v := by rw [hρ]; exact fun _ => rfl
      clear hρ
      go_simp
    · intro f W h25 hd S
      refine wpOp_run (v := .bool true) rfl rfl (fun ρ hρ => ?_) ⟨(acts_some 25 rfl (by kernel_rfl) (by kernel_rfl)).symm, S⟩
      have e0 : ρ (.tmp 78) = .bool true := by rw [hρ]; exact acts_eval_hit 24 rfl hd.1 (by rw [HSZ]; rfl) (by kernel_rfl)
      clear hρ
      go_simp
    · intro f W h26 hd S
      refine wpOp_runG (v := .slice (some ⟨xb, xo, none⟩) (N + 18) cx) rfl ?_ (fun ρ hρ => ?_) ⟨(acts_some 26 rfl (by kernel_rfl) (by kernel_rfl)).symm, S⟩
      · exact wanted_hit (t := 79) rfl rfl (acts_eval_hit 25 rfl hd.1 (by rw [HSZ]; rfl) (by kernel_rfl))
      · skip
        have e0 : ρ (.tmp 7) = .slice (some ⟨xb, xo, none⟩) (N + 18) cx := by rw [hρ]; exact (acts_eval_tmp 7 (by kernel_rfl)).trans E7
        clear hρ
        go_simp
    · intro f W h27 hd S
      refine wpOp_runG (v := .int .i64 (N + 18)) rfl ?_ (fun ρ hρ => ?_) ⟨(acts_some 27 rfl (by kernel_rfl) (by kernel_rfl)).symm, S⟩
      · exact wanted_hit (t := 79) rfl rfl (acts_eval_hit 25 rfl hd.2.1 (by rw [HSZ]; rfl) (by kernel_rfl))
      · skip
        have e0 : ρ (.tmp 80) = .slice (some ⟨xb, xo, none⟩) (N + 18) cx := by rw [hρ]; exact acts_eval_hit 26 rfl hd.1 (by rw [HSZ]; rfl) (by kernel_rfl)
        clear hρ
        go_simp
    · intro f W h28 hd S
      refine wpOp_runG (v := .slice A a.length ca) rfl ?_ (fun ρ hρ => ?_) ⟨(acts_some 28 rfl (by kernel_rfl) (by kernel_rfl)).symm, S⟩
      · exact wanted_hit (t := 79) rfl rfl (acts_eval_hit 25 rfl hd.1 (by rw [HSZ]; rfl) (by kernel_rfl))
      · skip
        have e0 : ρ (.tmp 0) = .slice A a.length ca := by rw [hρ]; exact (acts_eval_tmp 0 (by kernel_rfl)).trans E0
        clear hρ
        go_simp
    · intro f W h29 hd S
      refine wpOp_runG (v := .int .i64 a.length) rfl ?_ (fun ρ hρ => ?_) ⟨(acts_some 29 rfl (by kernel_rfl) (by kernel_rfl)).symm, S⟩
      · exact wanted_hit (t := 79) rfl rfl (acts_eval_hit 25 rfl hd.2.1 (by rw [HSZ]; rfl) (by kernel_rfl))
      · skip
        have e0 : ρ (.tmp 82) = .slice A a.length ca := by rw [hρ]; exact acts_eval_hit 28 rfl hd.1 (by rw [HSZ]; rfl) (by kernel_rfl)
        clear hρ
        go_simp
    · intro f W h30 hd S
      refine wpOp_runG (v := .bool true) rfl ?_ (fun ρ hρ => ?_) ⟨(acts_some 30 rfl (by kernel_rfl) (by kernel_rfl)).symm, S⟩
      · exact wanted_hit (t := 79) rfl rfl (acts_eval_hit 25 rfl hd.2.2.1 (by rw [HSZ]; rfl) (by kernel_rfl))
      · skip
        have e0 : ρ (.tmp 81) = .int .i64 (N + 18) := by rw [hρ]; exact acts_eval_hit 27 rfl hd.1 (by rw [HSZ]; rfl) (by kernel_rfl)
        have e1 : ρ (.tmp 83) = .int .i64 a.length := by rw [hρ]; exact acts_eval_hit 29 rfl hd.2.1 (by rw [HSZ]; rfl) (by kernel_rfl)
        clear hρ
        skip
        go_simp
        omega
    · intro f W h31 hd S
      refine wpOp_run (v := .bool true) rfl rfl (fun ρ hρ => ?_) ⟨(acts_some 31 rfl (by kernel_rfl) (by kernel_rfl)).symm, S⟩
      have e0 : ρ (.tmp 79) = .bool true := by rw [hρ]; exact acts_eval_hit 25 rfl hd.1 (by rw [HSZ]; rfl) (by kernel_rfl)
      have e1 : ρ (.tmp 84) = .bool true := by rw [hρ]; exact acts_eval_hit 30 rfl hd.2.1 (by rw [HSZ]; rfl) (by kernel_rfl)
      have ec : ∀ v, ρ (.const v) = v := by rw [hρ]; exact fun _ => rfl
      clear hρ
      go_simp
    · intro f W h32 hd S
      refine wpOp_run (v := .bool true) rfl rfl (fun ρ hρ => ?_) ⟨(acts_some 32 rfl (by kernel_rfl) (by kernel_rfl)).symm, S⟩
      have e0 : ρ (.tmp 85) = .bool true := by rw [hρ]; exact acts_eval_hit 31 rfl hd.1 (by rw [HSZ]; rfl) (by kernel_rfl)
      clear hρ
      go_simp
    · intro f W h33 hd S
      refine wpOp_runG (v := .slice (some ⟨xb, xo, none⟩) (N + 18) cx) rfl ?_ (fun ρ hρ => ?_) ⟨(acts_some 33 rfl (by kernel_rfl) (by kernel_rfl)).symm, S⟩
      · exact wanted_hit (t := 86) rfl rfl (acts_eval_hit 32 rfl hd.1 (by rw [HSZ]; rfl) (by kernel_rfl))
      · skip
        have e0 : ρ (.tmp 7) = .slice (some ⟨xb, xo, none⟩) (N + 18) cx := by rw [hρ]; exact (acts_eval_tmp 7 (by kernel_rfl)).trans E7
        clear hρ
        go_simp
    · intro f W h34 hd S
      refine wpOp_runG (v := .slice A a.length ca) rfl ?_ (fun ρ hρ => ?_) ⟨(acts_some 34 rfl (by kernel_rfl) (by kernel_rfl)).symm, S⟩
      · exact wanted_hit (t := 86) rfl rfl (acts_eval_hit 32 rfl hd.1 (by rw [HSZ]; rfl) (by kernel_rfl))
      · skip
        have e0 : ρ (.tmp 0) = .slice A a.length ca := by rw [hρ]; exact (acts_eval_tmp 0 (by kernel_rfl)).trans E0
        clear hρ
        go_simp
    · intro f W h35 hd S
      refine wpOp_runG (v := .int .i64 a.length) rfl ?_ (fun ρ hρ => ?_) ⟨(acts_some 35 rfl (by kernel_rfl) (by kernel_rfl)).symm, S⟩
      · exact wanted_hit (t := 86) rfl rfl (acts_eval_hit 32 rfl hd.2.1 (by rw [HSZ]; rfl) (by kernel_rfl))
      · skip
        have e0 : ρ (.tmp 88) = .slice A a.length ca := by rw [hρ]; exact acts_eval_hit 34 rfl hd.1 (by rw [HSZ]; rfl) (by kernel_rfl)
        clear hρ
        go_simp
    · intro f W h36 hd S
      refine wpOp_runG (v := .slice (some ⟨xb, xo, none⟩) (N + 18) cx) rfl ?_ (fun ρ hρ => ?_) ⟨(acts_some 36 rfl (by kernel_rfl) (by kernel_rfl)).symm, S⟩
      · exact wanted_hit (t := 86) rfl rfl (acts_eval_hit 32 rfl hd.1 (by rw [HSZ]; rfl) (by kernel_rfl))
      · skip
        have e0 : ρ (.tmp 7) = .slice (some ⟨xb, xo, none⟩) (N + 18) cx := by rw [hρ]; exact (acts_eval_tmp 7 (by kernel_rfl)).trans E7
        clear hρ
        go_simp
    · intro f W h37 hd S
      refine wpOp_runG (v := .int .i64 (N + 18)) rfl ?_ (fun ρ hρ => ?_) ⟨(acts_some 37 rfl (by kernel_rfl) (by kernel_rfl)).symm, S⟩
      · exact wanted_hit (t := 86) rfl rfl (acts_eval_hit 32 rfl hd.2.1 (by rw [HSZ]; rfl) (by kernel_rfl))
      · skip
        have e0 : ρ (.tmp 90) = .slice (some ⟨xb, xo, none⟩) (N + 18) cx := by rw [hρ]; exact acts_eval_hit 36 rfl hd.1 (by rw [HSZ]; rfl) (by kernel_rfl)
        clear hρ
        go_simp
    · intro f W h38 hd S
      refine wpOp_runG (v := .int .i64 a.length) rfl ?_ (fun ρ hρ => ?_) ⟨(acts_some 38 rfl (by kernel_rfl) (by kernel_rfl)).symm, S⟩
      · exact wanted_hit (t := 86) rfl rfl (acts_eval_hit 32 rfl hd.2.2.1 (by rw [HSZ]; rfl) (by kernel_rfl))
      · skip
        have e0 : ρ (.tmp 89) = .int .i64 a.length := by rw [hρ]; exact acts_eval_hit 35 rfl hd.1 (by rw [HSZ]; rfl) (by kernel_rfl)
        have e1 : ρ (.tmp 91) = .int .i64 (N + 18) := by rw [hρ]; exact acts_eval_hit 37 rfl hd.2.1 (by rw [HSZ]; rfl) (by kernel_rfl)
        clear hρ
        skip
        go_simp
        (intro hq; omega)
    · intro f W h39 hd S
      refine wpOp_runG (v := .slice (some ⟨xb, xo, none⟩) a.length cx) rfl ?_ (fun ρ hρ => ?_) ⟨(acts_some 39 rfl (by kernel_rfl) (by kernel_rfl)).symm, S⟩
      · exact wanted_hit (t := 86) rfl rfl (acts_eval_hit 32 rfl hd.2.2.1 (by rw [HSZ]; rfl) (by kernel_rfl))
      · skip
        have e0 : ρ (.tmp 87) = .slice (some ⟨xb, xo, none⟩) (N + 18) cx := by rw [hρ]; exact acts_eval_hit 33 rfl hd.1 (by rw [HSZ]; rfl) (by kernel_rfl)
        have e1 : ρ (.tmp 92) = .int .i64 a.length := by rw [hρ]; exact acts_eval_hit 38 rfl hd.2.1 (by rw [HSZ]; rfl) (by kernel_rfl)
        clear hρ
        skip
        go_simp
        (intro hq; omega)
    · intro f W h40 hd S
      refine wpOp_runG (v := .string (bstr a)) rfl ?_ (fun ρ hρ => ?_) ⟨(acts_some 40 rfl (by kernel_rfl) (by kernel_rfl)).symm, S⟩
      · exact wanted_hit (t := 86) rfl rfl (acts_eval_hit 32 rfl hd.2.1 (by rw [HSZ]; rfl) (by kernel_rfl))
      · skip
        have e0 : ρ (.tmp 93) = .slice (some ⟨xb, xo, none⟩) a.length cx := by rw [hρ]; exact acts_eval_hit 39 rfl hd.1 (by rw [HSZ]; rfl) (by kernel_rfl)
        clear hρ
        (have hcv := conv_bytes _ a W (HXA.out.mono hG4 |>.sat S).1)
        go_simp
    · intro f W h41 hd S
      refine wpOp_runG (v := .slice A a.length ca) rfl ?_ (fun ρ hρ => ?_) ⟨(acts_some 41 rfl (by kernel_rfl) (by kernel_rfl)).symm, S⟩
      · exact wanted_hit (t := 86) rfl rfl (acts_eval_hit 32 rfl hd.1 (by rw [HSZ]; rfl) (by kernel_rfl))
      · skip
        have e0 : ρ (.tmp 0) = .slice A a.length ca := by rw [hρ]; exact (acts_eval_tmp 0 (by kernel_rfl)).trans E0
        clear hρ
        go_simp
    · intro f W h42 hd S
      refine wpOp_runG (v := .string (bstr a)) rfl ?_ (fun ρ hρ => ?_) ⟨(acts_some 42 rfl (by kernel_rfl) (by kernel_rfl)).symm, S⟩
      · exact wanted_hit (t := 86) rfl rfl (acts_eval_hit 32 rfl hd.2.1 (by rw [HSZ]; rfl) (by kernel_rfl))
      · skip
        have e0 : ρ (.tmp 95) = .slice A a.length ca := by rw [hρ]; exact acts_eval_hit 41 rfl hd.1 (by rw [HSZ]; rfl) (by kernel_rfl)
        clear hρ
        (have hcv := conv_bytes _ a W (HA3.out.mono hG4 |>.sat S).1)
        go_simp
    · intro f W h43 hd S
      refine wpOp_runG (v := .bool true) rfl ?_ (fun ρ hρ => ?_) ⟨(acts_some 43 rfl (by kernel_rfl) (by kernel_rfl)).symm, S⟩
      · exact wanted_hit (t := 86) rfl rfl (acts_eval_hit 32 rfl hd.2.2.1 (by rw [HSZ]; rfl) (by kernel_rfl))
      · skip
        have e0 : ρ (.tmp 94) = .string (bstr a) := by rw [hρ]; exact acts_eval_hit 40 rfl hd.1 (by rw [HSZ]; rfl) (by kernel_rfl)
        have e1 : ρ (.tmp 96) = .string (bstr a) := by rw [hρ]; exact acts_eval_hit 42 rfl hd.2.1 (by rw [HSZ]; rfl) (by kernel_rfl)
        clear hρ
        go_simp
    · intro f W h44 hd S
      refine wpOp_run (v := .bool true) rfl rfl (fun ρ hρ => ?_) ⟨(acts_some 44 rfl (by kernel_rfl) (by kernel_rfl)).symm, S⟩
      have e0 : ρ (.tmp 86) = .bool true := by rw [hρ]; exact acts_eval_hit 32 rfl hd.1 (by rw [HSZ]; rfl) (by kernel_rfl)
      have e1 : ρ (.tmp 97) = .bool true := by rw [hρ]; exact acts_eval_hit 43 rfl hd.2.1 (by rw [HSZ]; rfl) (by kernel_rfl)
      have ec : ∀ v, ρ (.const v) = v := by rw [hρ]; exact fun _ => rfl
      clear hρ
      go_simp
    · intro f W h45 hd S
      refine wpOp_run (v := .bool true) rfl rfl (fun ρ hρ => ?_) ⟨(acts_some 45 rfl (by kernel_rfl) (by kernel_rfl)).symm, S⟩
      have e0 : ρ (.tmp 98) = .bool true := by rw [hρ]; exact acts_eval_hit 44 rfl hd.1 (by rw [HSZ]; rfl) (by kernel_rfl)
      clear hρ
      go_simp
    · intro f W h46 hd S
      refine wpOp_callG rfl (wanted_hit (t := 99) rfl rfl (acts_eval_hit 45 rfl hd.1 (by rw [HSZ]; rfl) (by kernel_rfl))) (fun ρ hρ => ?_) (awake_below W) ?_
      · skip
        have ef : ρ (.func 9) = .func (.func 9) #[] #[] := by rw [hρ]; rfl
        clear hρ
        go_simp
      · rintro e W' ⟨rfl, hb⟩
        exact ⟨_, rfl, (acts_some 46 rfl (by kernel_rfl) (by kernel_rfl)).symm, S.below hb⟩
    · intro f W h47 hd S
      refine wpOp_run (v := .bool true) rfl rfl (fun ρ hρ => ?_) ⟨(acts_some 47 rfl (by kernel_rfl) (by kernel_rfl)).symm, S⟩
      have e0 : ρ (.tmp 99) = .bool true := by rw [hρ]; exact acts_eval_hit 45 rfl hd.1 (by rw [HSZ]; rfl) (by kernel_rfl)
      have e1 : ρ (.tmp 100) = .bool true := by rw [hρ]; exact acts_eval_hit 46 rfl hd.2.1 (by rw [HSZ]; rfl) (by kernel_rfl)
      have ec : ∀ v, ρ (.const v) = v := by rw [hρ]; exact fun _ => rfl
      clear hρ
      go_simp
    · intro f W h48 hd S
      refine wpOp_run (v := .bool true) rfl rfl (fun ρ hρ => ?_) ⟨(acts_some 48 rfl (by kernel_rfl) (by kernel_rfl)).symm, S⟩
      have e0 : ρ (.tmp 101) = .bool true := by rw [hρ]; exact acts_eval_hit 47 rfl hd.1 (by rw [HSZ]; rfl) (by kernel_rfl)
      clear hρ
      go_simp
  intro W4 S5
  subst ha0
  simp only [acts, if_true, Act.put, List.setIfInBounds_toArray, List.set_cons_succ, List.set_cons_zero]
  clear S4 HSZ E0 E7 E9 E11 E12 E13 E14
  go_wp2_with fail
  exact hK.out _ _ ⟨rfl, S5.above (hG03.trans hG4)⟩
end Go.Proofs.Ythenpoammpkjeaa
