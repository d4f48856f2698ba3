/- The walk of the law FrameBytes. -/
import Derived.Test.YtjhhabaeaekejaaParses
set_option linter.unusedSimpArgs false
set_option linter.unusedVariables false
namespace Go.Proofs.Ytjhhabaeaekejaa
open Go.RowKit

theorem law_right {G : Gnd} {w : World} {l : List Asrt} (H : Sat G w l) (t f s : Int) (A : Option Addr) (n c : Nat) :
    Calls Try.prog 12 #[.agg #[.int .i64 t, .int .i64 f, .int .i64 s, .slice A n c]] w fun e w' => e = .returned (.bool (frRight t f s n)) ∧ Sat G w' l := by
  refine calls_any fun K hK => ?_
  have S := H.alloc (.cells #[.int .i64 t, .int .i64 f, .int .i64 s, .slice A n c] 24)
  by_cases a1 : t ≥ 0
  · by_cases a2 : t ≤ 255
    · by_cases a3 : f ≥ 0
      · by_cases a4 : f ≤ 255
        · by_cases a5 : s ≥ 0
          · by_cases a6 : s ≤ 2147483647
            · have er : frRight t f s n = decide ((n : Int) < 16777216) := by unfold frRight; congr 1; exact propext ⟨fun h => by omega, fun h => by omega⟩
              rw [er] at hK
              replace a1 := decide_eq_true a1
              replace a2 := decide_eq_true a2
              replace a3 := decide_eq_true a3
              replace a4 := decide_eq_true a4
              replace a5 := decide_eq_true a5
              replace a6 := decide_eq_true a6
              go_enter Try.func12, Try.ntmps12
              go_wp2_with fail
              exact hK.out _ _ ⟨rfl, S⟩
            · have er : frRight t f s n = false := decide_eq_false (by omega)
              rw [er] at hK
              replace a1 := decide_eq_true a1
              replace a2 := decide_eq_true a2
              replace a3 := decide_eq_true a3
              replace a4 := decide_eq_true a4
              replace a5 := decide_eq_true a5
              replace a6 := decide_eq_false a6
              go_enter Try.func12, Try.ntmps12
              go_wp2_with fail
              exact hK.out _ _ ⟨rfl, S⟩
          · have er : frRight t f s n = false := decide_eq_false (by omega)
            rw [er] at hK
            replace a1 := decide_eq_true a1
            replace a2 := decide_eq_true a2
            replace a3 := decide_eq_true a3
            replace a4 := decide_eq_true a4
            replace a5 := decide_eq_false a5
            go_enter Try.func12, Try.ntmps12
            go_wp2_with fail
            exact hK.out _ _ ⟨rfl, S⟩
        · have er : frRight t f s n = false := decide_eq_false (by omega)
          rw [er] at hK
          replace a1 := decide_eq_true a1
          replace a2 := decide_eq_true a2
          replace a3 := decide_eq_true a3
          replace a4 := decide_eq_false a4
          go_enter Try.func12, Try.ntmps12
          go_wp2_with fail
          exact hK.out _ _ ⟨rfl, S⟩
      · have er : frRight t f s n = false := decide_eq_false (by omega)
        rw [er] at hK
        replace a1 := decide_eq_true a1
        replace a2 := decide_eq_true a2
        replace a3 := decide_eq_false a3
        go_enter Try.func12, Try.ntmps12
        go_wp2_with fail
        exact hK.out _ _ ⟨rfl, S⟩
    · have er : frRight t f s n = false := decide_eq_false (by omega)
      rw [er] at hK
      replace a1 := decide_eq_true a1
      replace a2 := decide_eq_false a2
      go_enter Try.func12, Try.ntmps12
      go_wp2_with fail
      exact hK.out _ _ ⟨rfl, S⟩
  · have er : frRight t f s n = false := decide_eq_false (by omega)
    rw [er] at hK
    replace a1 := decide_eq_false a1
    go_enter Try.func12, Try.ntmps12
    go_wp2_with fail
    exact hK.out _ _ ⟨rfl, S⟩
/-- Bytes, of any frame. -/
theorem frame_bytes_any {G : Gnd} {w : World} {l : List Asrt} (H : Sat G w l) (t fl s : Int) (v : Value) (bs : List UInt8) (hb : SlB (cellR G.ro) v bs) :
    Calls Try.prog 10 #[.agg #[.int .i64 t, .int .i64 fl, .int .i64 s, v]] w fun e w' => ∃ G' u er, G.le G' ∧ Sat G' w' l ∧ e = .returned (.tuple #[u, .int .i64 er]) ∧
      ((frRight t fl s bs.length = false ∧ u = .slice none 0 0 ∧ er = 10) ∨ (frRight t fl s bs.length = true ∧ er = 0 ∧ SlB (Go.Proofs.Ytjhhabaeaekejaa.cellR G'.ro) u (frBytes t.toNat fl.toNat s.toNat bs))) := by
  obtain ⟨A, c, rfl, -, -, -⟩ := hb.form
  cases hr : frRight t fl s bs.length with
  | false => exact (frame_bytes_not H t fl s A bs.length c hr).mono fun e w' h => ⟨G, _, 10, Gnd.le.rfl', h.2, h.1, .inl ⟨rfl, rfl, rfl⟩⟩
  | true =>
    have h := of_decide_eq_true hr
    have := frame_bytes H t.toNat fl.toNat s.toNat _ bs (fun W SW => hb.sat SW) (by omega) (by omega) (by omega) (by omega)
    rw [show ((t.toNat : Nat) : Int) = t by omega, show ((fl.toNat : Nat) : Int) = fl by omega, show ((s.toNat : Nat) : Int) = s by omega] at this
    refine this.mono ?_
    rintro e w' ⟨u, rfl, S⟩
    obtain ⟨G', hG, S', hu⟩ := S.ownFrz
    exact ⟨G', u, 0, hG, S', rfl, .inr ⟨rfl, rfl, hu⟩⟩
/-- What a frame's bytes say. -/
theorem fr_head (t f s : Nat) (bs : List UInt8) (ht : t ≤ 255) (hf : f ≤ 255) (hs : s ≤ 2147483647) (hn : bs.length ≤ 16777215) (r : List UInt8) :
    hdN (frBytes t f s bs ++ r) = bs.length ∧ hdT (frBytes t f s bs ++ r) = t ∧ hdF (frBytes t f s bs ++ r) = f ∧ hdS (frBytes t f s bs ++ r) = s ∧ (((frBytes t f s bs ++ r).drop 9).take bs.length) = bs ∧ (frBytes t f s bs ++ r).drop (9 + bs.length) = r := by
  have l3 : (bigOf bs.length 3).length = 3 := bigOf_length _ _
  have l4 : (bigOf s 4).length = 4 := bigOf_length _ _
  have e : frBytes t f s bs ++ r = bigOf bs.length 3 ++ (UInt8.ofNat t :: UInt8.ofNat f :: (bigOf s 4 ++ (bs ++ r))) := by simp [frBytes]
  have d3 : (frBytes t f s bs ++ r).drop 3 = UInt8.ofNat t :: UInt8.ofNat f :: (bigOf s 4 ++ (bs ++ r)) := by rw [e, List.drop_left' l3]
  have d4 : (frBytes t f s bs ++ r).drop 4 = UInt8.ofNat f :: (bigOf s 4 ++ (bs ++ r)) := by rw [show 4 = 3 + 1 from rfl, ← List.drop_drop, d3]; rfl
  have d5 : (frBytes t f s bs ++ r).drop 5 = bigOf s 4 ++ (bs ++ r) := by rw [show 5 = 3 + 2 from rfl, ← List.drop_drop, d3]; rfl
  have d9 : (frBytes t f s bs ++ r).drop 9 = bs ++ r := by rw [show 9 = 5 + 4 from rfl, ← List.drop_drop, d5, List.drop_left' l4]
  refine ⟨?_, ?_, ?_, ?_, ?_, ?_⟩
  · unfold hdN; rw [e, List.take_left' l3, numOf_bigOf]; omega
  · unfold hdT; rw [d3]; simp [numOf]; omega
  · unfold hdF; rw [d4]; simp [numOf]; omega
  · unfold hdS; rw [d5, List.take_left' l4, numOf_bigOf]; omega
  · rw [d9, List.take_left' rfl]
  · rw [← List.drop_drop, d9, List.drop_left' rfl]
set_option maxHeartbeats 4000000 in
set_option maxRecDepth 100000 in
theorem frameBytes_walk (w : World) (v0 v1 : Value) (h0 : ∃ d, ArgV w (Ty.agg [.int .i64, .int .i64, .int .i64, .sl 1 (.int .u8)]) v0 d) (h1 : ∃ d, ArgV w (.int .i64) v1 d) :
    Calls Try.prog 3 #[v0, v1] w fun e w' => e = .returned (.bool true) ∧ Below w.heap.size w w' := by
  refine calls_any fun K hK => ?_
  obtain ⟨_, h0⟩ := h0
  obtain ⟨t, fl, s, A, bs, c, rfl, -, -, -, hlen, hb⟩ := arg_frame h0
  obtain ⟨_, h1⟩ := h1
  obtain ⟨most, rfl, -⟩ := arg_int h1
  clear h0 h1
  have S1 := (Sat.start w).newBlk #[.int .i64 t, .int .i64 fl, .int .i64 s, .slice A bs.length c] 24
  by_cases h500 : 500 < (bs.length : Int)
  · go_enter Try.func3, Try.ntmps3
    go_wp2_with fail
    (with_reducible refine (law_awake2 _).mono ?_)
    rintro e w9 ⟨rfl, hb9⟩
    go_wp2_with fail
    exact hK.out _ _ ⟨rfl, (S1.below hb9).drop.above Gnd.le.rfl'⟩
  have hby := frame_bytes_any S1 t fl s _ bs hb
  go_enter Try.func3, Try.ntmps3
  go_wp2_with fail
  generalize w.heap.size = p at S1 hby ⊢
  (with_reducible refine hby.mono ?_)
  clear hby S1
  rintro e w1 ⟨G, u, er, hG, S3, rfl, hor⟩
  have hb0 := hb
  replace hb := hb.mono hG
  clear hb0
  have w9 : IntKind.i64.wrap (9 + (bs.length : Int)) = 9 + bs.length := IntWalk.i64_in _ ⟨by omega, by omega⟩
  go_upto_region 4 with fail
  obtain ⟨R, hR⟩ : ∃ R, frRight t fl s bs.length = R := ⟨_, rfl⟩
  rw [hR] at hor
  refine wp_act fun a0 ha0 => ?_
  have HSZ : a0.tmps.size = 119 := by rw [ha0]; rfl
  have E2 : a0.eval (.tmp 2) = .pointer (some ⟨p, 0, none⟩) := by rw [ha0]; rfl
  refine wp_region_sat (by kernel_rfl) 20 (by kernel_rfl) [[], [0], [], [2, 1], [1, 3], [4, 3], [5], [6, 5, 5], [5], [8, 5], [9, 5], [10, 5], [7, 11, 5], [5, 12], [13, 7], [14], [14], [15, 16, 14, 14], [17, 14], [14, 18]] (by kernel_rfl) (by kernel_rfl) [(0, 20, .agg #[.int .i64 t, .int .i64 fl, .int .i64 s, .slice A bs.length c]), (1, 21, .bool R), (2, 22, .agg #[.int .i64 t, .int .i64 fl, .int .i64 s, .slice A bs.length c]), (3, 23, .bool R), (4, 24, .bool false), (5, 25, .bool false), (6, 26, .agg #[.int .i64 t, .int .i64 fl, .int .i64 s, .slice A bs.length c]), (7, 27, .int .i64 (9 + bs.length)), (8, 28, .pointer (some ⟨p, 3, none⟩)), (9, 29, .slice A bs.length c), (10, 30, .int .i64 bs.length), (11, 31, .int .i64 (9 + bs.length)), (12, 32, .bool false), (13, 33, .bool false), (14, 34, .bool false), (15, 35, .agg #[.int .i64 t, .int .i64 fl, .int .i64 s, .slice A bs.length c]), (16, 36, .agg #[.int .i64 t, .int .i64 fl, .int .i64 s, .slice A bs.length c]), (17, 37, .bool true), (18, 38, .bool false), (19, 39, .bool false)] (fun _ => [blk p #[.int .i64 t, .int .i64 fl, .int .i64 s, .slice A bs.length c] 24]) (by kernel_rfl) S3 ?_ ?_
  · refine ⟨?_, ?_, ?_, ?_, ?_, ?_, ?_, ?_, ?_, ?_, ?_, ?_, ?_, ?_, ?_, ?_, ?_, ?_, ?_, ?_, trivial⟩
    · intro f W h0 hd S
      refine wpOp_run (v := .agg #[.int .i64 t, .int .i64 fl, .int .i64 s, .slice A bs.length c]) rfl rfl (fun ρ hρ => ?_) ⟨(acts_some 0 rfl (by kernel_rfl) (by kernel_rfl)).symm, S⟩
      have e0 : ρ (.tmp 2) = .pointer (some ⟨p, 0, none⟩) := by rw [hρ]; exact (acts_eval_tmp 2 (by kernel_rfl)).trans E2
      clear hρ
      (have hc0 : W.cell? ⟨p, 0, none⟩ = some (.int .i64 t) := S.cell 0; have hc1 : W.cell? ⟨p, 1, none⟩ = some (.int .i64 fl) := S.cell 1; have hc2 : W.cell? ⟨p, 2, none⟩ = some (.int .i64 s) := S.cell 2; have hc3 : W.cell? ⟨p, 3, none⟩ = some (.slice A bs.length c) := S.cell 3)
      go_simp
    · intro f W h1 hd S
      refine wpOp_call rfl rfl (fun ρ hρ => ?_) (frame_right S t fl s A bs.length c) ?_
      · skip
        have e0 : ρ (.tmp 20) = .agg #[.int .i64 t, .int .i64 fl, .int .i64 s, .slice A bs.length c] := by rw [hρ]; exact acts_eval_hit 0 rfl hd.1 (by rw [HSZ]; rfl) (by kernel_rfl)
        have ef : ρ (.func 11) = .func (.func 11) #[] #[] := by rw [hρ]; rfl
        clear hρ
        go_simp
      · (rintro e W' ⟨rfl, S'⟩; rw [hR]; exact ⟨_, rfl, (acts_some 1 rfl (by kernel_rfl) (by kernel_rfl)).symm, S'⟩)
    · intro f W h2 hd S
      refine wpOp_run (v := .agg #[.int .i64 t, .int .i64 fl, .int .i64 s, .slice A bs.length c]) rfl rfl (fun ρ hρ => ?_) ⟨(acts_some 2 rfl (by kernel_rfl) (by kernel_rfl)).symm, S⟩
      have e0 : ρ (.tmp 2) = .pointer (some ⟨p, 0, none⟩) := by rw [hρ]; exact (acts_eval_tmp 2 (by kernel_rfl)).trans E2
      clear hρ
      (have hc0 : W.cell? ⟨p, 0, none⟩ = some (.int .i64 t) := S.cell 0; have hc1 : W.cell? ⟨p, 1, none⟩ = some (.int .i64 fl) := S.cell 1; have hc2 : W.cell? ⟨p, 2, none⟩ = some (.int .i64 s) := S.cell 2; have hc3 : W.cell? ⟨p, 3, none⟩ = some (.slice A bs.length c) := S.cell 3)
      go_simp
    · intro f W h3 hd S
      refine wpOp_call rfl rfl (fun ρ hρ => ?_) (law_right S t fl s A bs.length c) ?_
      · skip
        have e0 : ρ (.tmp 22) = .agg #[.int .i64 t, .int .i64 fl, .int .i64 s, .slice A bs.length c] := by rw [hρ]; exact acts_eval_hit 2 rfl hd.1 (by rw [HSZ]; rfl) (by kernel_rfl)
        have ef : ρ (.func 12) = .func (.func 12) #[] #[] := by rw [hρ]; rfl
        clear hρ
        go_simp
      · (rintro e W' ⟨rfl, S'⟩; rw [hR]; exact ⟨_, rfl, (acts_some 3 rfl (by kernel_rfl) (by kernel_rfl)).symm, S'⟩)
    · intro f W h4 hd S
      refine wpOp_run (v := .bool false) rfl rfl (fun ρ hρ => ?_) ⟨(acts_some 4 rfl (by kernel_rfl) (by kernel_rfl)).symm, S⟩
      have e0 : ρ (.tmp 21) = .bool R := by rw [hρ]; exact acts_eval_hit 1 rfl hd.1 (by rw [HSZ]; rfl) (by kernel_rfl)
      have e1 : ρ (.tmp 23) = .bool R := by rw [hρ]; exact acts_eval_hit 3 rfl hd.2.1 (by rw [HSZ]; rfl) (by kernel_rfl)
      clear hρ
      go_simp
    · intro f W h5 hd S
      refine wpOp_run (v := .bool false) rfl rfl (fun ρ hρ => ?_) ⟨(acts_some 5 rfl (by kernel_rfl) (by kernel_rfl)).symm, S⟩
      have e0 : ρ (.tmp 24) = .bool false := by rw [hρ]; exact acts_eval_hit 4 rfl hd.1 (by rw [HSZ]; rfl) (by kernel_rfl)
      clear hρ
      go_simp
    · intro f W h6 hd S
      refine wpOp_runG (v := .agg #[.int .i64 t, .int .i64 fl, .int .i64 s, .slice A bs.length c]) rfl ?_ (fun ρ hρ => ?_) ⟨(acts_some 6 rfl (by kernel_rfl) (by kernel_rfl)).symm, S⟩
      · exact wanted_hit (t := 25) rfl rfl (acts_eval_hit 5 rfl hd.1 (by rw [HSZ]; rfl) (by kernel_rfl))
      · skip
        have e0 : ρ (.tmp 2) = .pointer (some ⟨p, 0, none⟩) := by rw [hρ]; exact (acts_eval_tmp 2 (by kernel_rfl)).trans E2
        clear hρ
        (have hc0 : W.cell? ⟨p, 0, none⟩ = some (.int .i64 t) := S.cell 0; have hc1 : W.cell? ⟨p, 1, none⟩ = some (.int .i64 fl) := S.cell 1; have hc2 : W.cell? ⟨p, 2, none⟩ = some (.int .i64 s) := S.cell 2; have hc3 : W.cell? ⟨p, 3, none⟩ = some (.slice A bs.length c) := S.cell 3)
        go_simp
    · intro f W h7 hd S
      refine wpOp_callG rfl (wanted_hit (t := 25) rfl rfl (acts_eval_hit 5 rfl hd.2.1 (by rw [HSZ]; rfl) (by kernel_rfl))) (fun ρ hρ => ?_) (frame_len S t fl s A bs.length c (by omega)) ?_
      · skip
        have e0 : ρ (.tmp 26) = .agg #[.int .i64 t, .int .i64 fl, .int .i64 s, .slice A bs.length c] := by rw [hρ]; exact acts_eval_hit 6 rfl hd.1 (by rw [HSZ]; rfl) (by kernel_rfl)
        have ef : ρ (.func 13) = .func (.func 13) #[] #[] := by rw [hρ]; rfl
        clear hρ
        go_simp
      · (rintro e W' ⟨rfl, S'⟩; exact ⟨_, rfl, (acts_some 7 rfl (by kernel_rfl) (by kernel_rfl)).symm, S'⟩)
    · intro f W h8 hd S
      refine wpOp_runG (v := .pointer (some ⟨p, 3, none⟩)) rfl ?_ (fun ρ hρ => ?_) ⟨(acts_some 8 rfl (by kernel_rfl) (by kernel_rfl)).symm, S⟩
      · exact wanted_hit (t := 25) rfl rfl (acts_eval_hit 5 rfl hd.1 (by rw [HSZ]; rfl) (by kernel_rfl))
      · skip
        have e0 : ρ (.tmp 2) = .pointer (some ⟨p, 0, none⟩) := by rw [hρ]; exact (acts_eval_tmp 2 (by kernel_rfl)).trans E2
        clear hρ
        go_simp
    · intro f W h9 hd S
      refine wpOp_runG (v := .slice A bs.length c) rfl ?_ (fun ρ hρ => ?_) ⟨(acts_some 9 rfl (by kernel_rfl) (by kernel_rfl)).symm, S⟩
      · exact wanted_hit (t := 25) rfl rfl (acts_eval_hit 5 rfl hd.2.1 (by rw [HSZ]; rfl) (by kernel_rfl))
      · skip
        have e0 : ρ (.tmp 28) = .pointer (some ⟨p, 3, none⟩) := by rw [hρ]; exact acts_eval_hit 8 rfl hd.1 (by rw [HSZ]; rfl) (by kernel_rfl)
        clear hρ
        (have hc0 : W.cell? ⟨p, 0, none⟩ = some (.int .i64 t) := S.cell 0; have hc1 : W.cell? ⟨p, 1, none⟩ = some (.int .i64 fl) := S.cell 1; have hc2 : W.cell? ⟨p, 2, none⟩ = some (.int .i64 s) := S.cell 2; have hc3 : W.cell? ⟨p, 3, none⟩ = some (.slice A bs.length c) := S.cell 3)
        go_simp
    · intro f W h10 hd S
      refine wpOp_runG (v := .int .i64 bs.length) rfl ?_ (fun ρ hρ => ?_) ⟨(acts_some 10 rfl (by kernel_rfl) (by kernel_rfl)).symm, S⟩
      · exact wanted_hit (t := 25) rfl rfl (acts_eval_hit 5 rfl hd.2.1 (by rw [HSZ]; rfl) (by kernel_rfl))
      · skip
        have e0 : ρ (.tmp 29) = .slice A bs.length c := by rw [hρ]; exact acts_eval_hit 9 rfl hd.1 (by rw [HSZ]; rfl) (by kernel_rfl)
        clear hρ
        go_simp
    · intro f W h11 hd S
      refine wpOp_runG (v := .int .i64 (9 + bs.length)) rfl ?_ (fun ρ hρ => ?_) ⟨(acts_some 11 rfl (by kernel_rfl) (by kernel_rfl)).symm, S⟩
      · exact wanted_hit (t := 25) rfl rfl (acts_eval_hit 5 rfl hd.2.1 (by rw [HSZ]; rfl) (by kernel_rfl))
      · skip
        have e0 : ρ (.tmp 30) = .int .i64 bs.length := by rw [hρ]; exact acts_eval_hit 10 rfl hd.1 (by rw [HSZ]; rfl) (by kernel_rfl)
        have ec : ∀ v, ρ (.const v) = v := by rw [hρ]; exact fun _ => rfl
        clear hρ
        go_simp
    · intro f W h12 hd S
      refine wpOp_runG (v := .bool false) rfl ?_ (fun ρ hρ => ?_) ⟨(acts_some 12 rfl (by kernel_rfl) (by kernel_rfl)).symm, S⟩
      · exact wanted_hit (t := 25) rfl rfl (acts_eval_hit 5 rfl hd.2.2.1 (by rw [HSZ]; rfl) (by kernel_rfl))
      · skip
        have e0 : ρ (.tmp 27) = .int .i64 (9 + bs.length) := by rw [hρ]; exact acts_eval_hit 7 rfl hd.1 (by rw [HSZ]; rfl) (by kernel_rfl)
        have e1 : ρ (.tmp 31) = .int .i64 (9 + bs.length) := by rw [hρ]; exact acts_eval_hit 11 rfl hd.2.1 (by rw [HSZ]; rfl) (by kernel_rfl)
        clear hρ
        go_simp
    · intro f W h13 hd S
      refine wpOp_run (v := .bool false) rfl rfl (fun ρ hρ => ?_) ⟨(acts_some 13 rfl (by kernel_rfl) (by kernel_rfl)).symm, S⟩
      have e0 : ρ (.tmp 25) = .bool false := by rw [hρ]; exact acts_eval_hit 5 rfl hd.1 (by rw [HSZ]; rfl) (by kernel_rfl)
      have e1 : ρ (.tmp 32) = .bool false := by rw [hρ]; exact acts_eval_hit 12 rfl hd.2.1 (by rw [HSZ]; rfl) (by kernel_rfl)
      have ec : ∀ v, ρ (.const v) = v := by rw [hρ]; exact fun _ => rfl
      clear hρ
      go_simp
    · intro f W h14 hd S
      refine wpOp_run (v := .bool false) rfl rfl (fun ρ hρ => ?_) ⟨(acts_some 14 rfl (by kernel_rfl) (by kernel_rfl)).symm, S⟩
      have e0 : ρ (.tmp 33) = .bool false := by rw [hρ]; exact acts_eval_hit 13 rfl hd.1 (by rw [HSZ]; rfl) (by kernel_rfl)
      clear hρ
      go_simp
    · intro f W h15 hd S
      refine wpOp_runG (v := .agg #[.int .i64 t, .int .i64 fl, .int .i64 s, .slice A bs.length c]) rfl ?_ (fun ρ hρ => ?_) ⟨(acts_some 15 rfl (by kernel_rfl) (by kernel_rfl)).symm, S⟩
      · exact wanted_hit (t := 34) rfl rfl (acts_eval_hit 14 rfl hd.1 (by rw [HSZ]; rfl) (by kernel_rfl))
      · skip
        have e0 : ρ (.tmp 2) = .pointer (some ⟨p, 0, none⟩) := by rw [hρ]; exact (acts_eval_tmp 2 (by kernel_rfl)).trans E2
        clear hρ
        (have hc0 : W.cell? ⟨p, 0, none⟩ = some (.int .i64 t) := S.cell 0; have hc1 : W.cell? ⟨p, 1, none⟩ = some (.int .i64 fl) := S.cell 1; have hc2 : W.cell? ⟨p, 2, none⟩ = some (.int .i64 s) := S.cell 2; have hc3 : W.cell? ⟨p, 3, none⟩ = some (.slice A bs.length c) := S.cell 3)
        go_simp
    · intro f W h16 hd S
      refine wpOp_runG (v := .agg #[.int .i64 t, .int .i64 fl, .int .i64 s, .slice A bs.length c]) rfl ?_ (fun ρ hρ => ?_) ⟨(acts_some 16 rfl (by kernel_rfl) (by kernel_rfl)).symm, S⟩
      · exact wanted_hit (t := 34) rfl rfl (acts_eval_hit 14 rfl hd.1 (by rw [HSZ]; rfl) (by kernel_rfl))
      · skip
        have e0 : ρ (.tmp 2) = .pointer (some ⟨p, 0, none⟩) := by rw [hρ]; exact (acts_eval_tmp 2 (by kernel_rfl)).trans E2
        clear hρ
        (have hc0 : W.cell? ⟨p, 0, none⟩ = some (.int .i64 t) := S.cell 0; have hc1 : W.cell? ⟨p, 1, none⟩ = some (.int .i64 fl) := S.cell 1; have hc2 : W.cell? ⟨p, 2, none⟩ = some (.int .i64 s) := S.cell 2; have hc3 : W.cell? ⟨p, 3, none⟩ = some (.slice A bs.length c) := S.cell 3)
        go_simp
    · intro f W h17 hd S
      refine wpOp_callG rfl (wanted_hit (t := 34) rfl rfl (acts_eval_hit 14 rfl hd.2.2.1 (by rw [HSZ]; rfl) (by kernel_rfl))) (fun ρ hρ => ?_) (frame_equal S t fl s t fl s _ _ bs bs (fun W SW ↦ (hb.sat SW).1) (fun W SW ↦ (hb.sat SW).1)) ?_
      · skip
        have e0 : ρ (.tmp 35) = .agg #[.int .i64 t, .int .i64 fl, .int .i64 s, .slice A bs.length c] := by rw [hρ]; exact acts_eval_hit 15 rfl hd.1 (by rw [HSZ]; rfl) (by kernel_rfl)
        have e1 : ρ (.tmp 36) = .agg #[.int .i64 t, .int .i64 fl, .int .i64 s, .slice A bs.length c] := by rw [hρ]; exact acts_eval_hit 16 rfl hd.2.1 (by rw [HSZ]; rfl) (by kernel_rfl)
        have ef : ρ (.func 14) = .func (.func 14) #[] #[] := by rw [hρ]; rfl
        clear hρ
        go_simp
      · (rintro e W' ⟨rfl, S'⟩; rw [decide_eq_true ⟨rfl, rfl, rfl, rfl⟩]; exact ⟨_, rfl, (acts_some 17 rfl (by kernel_rfl) (by kernel_rfl)).symm, S'⟩)
    · intro f W h18 hd S
      refine wpOp_runG (v := .bool false) rfl ?_ (fun ρ hρ => ?_) ⟨(acts_some 18 rfl (by kernel_rfl) (by kernel_rfl)).symm, S⟩
      · exact wanted_hit (t := 34) rfl rfl (acts_eval_hit 14 rfl hd.2.1 (by rw [HSZ]; rfl) (by kernel_rfl))
      · skip
        have e0 : ρ (.tmp 37) = .bool true := by rw [hρ]; exact acts_eval_hit 17 rfl hd.1 (by rw [HSZ]; rfl) (by kernel_rfl)
        clear hρ
        go_simp
    · intro f W h19 hd S
      refine wpOp_run (v := .bool false) rfl rfl (fun ρ hρ => ?_) ⟨(acts_some 19 rfl (by kernel_rfl) (by kernel_rfl)).symm, S⟩
      have e0 : ρ (.tmp 34) = .bool false := by rw [hρ]; exact acts_eval_hit 14 rfl hd.1 (by rw [HSZ]; rfl) (by kernel_rfl)
      have e1 : ρ (.tmp 38) = .bool false := by rw [hρ]; exact acts_eval_hit 18 rfl hd.2.1 (by rw [HSZ]; rfl) (by kernel_rfl)
      have ec : ∀ v, ρ (.const v) = v := by rw [hρ]; exact fun _ => rfl
      clear hρ
      go_simp
  intro W4 S4
  subst ha0
  simp only [acts, if_true, Act.put, List.setIfInBounds_toArray, List.set_cons_succ, List.set_cons_zero]
  clear S3 HSZ E2
  have c0 : W4.cell? ⟨p, 0, none⟩ = some (.int .i64 t) := S4.cell 0
  have c1 : W4.cell? ⟨p, 1, none⟩ = some (.int .i64 fl) := S4.cell 1
  have c2 : W4.cell? ⟨p, 2, none⟩ = some (.int .i64 s) := S4.cell 2
  have c3 : W4.cell? ⟨p, 3, none⟩ = some (.slice A bs.length c) := S4.cell 3
  have hlr := law_right S4 t fl s A bs.length c
  rw [hR] at hlr
  rcases hor with ⟨rfl, rfl, rfl⟩ | ⟨rfl, rfl, hu⟩
  · go_wp2_with fail
    (with_reducible refine hlr.mono ?_)
    clear hlr c0 c1 c2 c3
    rintro e w5 ⟨rfl, S5⟩
    go_wp2_with fail
    (with_reducible refine (law_awake2 _).mono ?_)
    rintro e w9 ⟨rfl, hb9⟩
    go_wp2_with fail
    exact hK.out _ _ ⟨rfl, (S5.below hb9).drop.above hG⟩
  · go_wp2_with fail
    (with_reducible refine hlr.mono ?_)
    clear hlr c0 c1 c2 c3 S4
    rintro e w5 ⟨rfl, S5⟩
    have hr := of_decide_eq_true hR
    obtain ⟨T, rfl⟩ : ∃ T : Nat, t = T := ⟨t.toNat, by omega⟩
    obtain ⟨F, rfl⟩ : ∃ F : Nat, fl = F := ⟨fl.toNat, by omega⟩
    obtain ⟨D, rfl⟩ : ∃ D : Nat, s = D := ⟨s.toNat, by omega⟩
    simp only [Int.toNat_natCast] at hu
    have hfl := frBytes_length T F D bs
    have hrf := fun W => ref9_bytes T F D bs W (by omega) (by omega) (by omega) (by omega)
    have hh := fr_head T F D bs (by omega) (by omega) (by omega) (by omega) []
    rw [List.append_nil] at hh
    obtain ⟨e1, e2, e3, e4, e5, -⟩ := hh
    obtain ⟨FB, hFB⟩ : ∃ FB, frBytes T F D bs = FB := ⟨_, rfl⟩
    rw [hFB] at hu hfl hrf e1 e2 e3 e4 e5
    obtain ⟨B, cb, rfl, -, -, -⟩ := hu.form
    rw [hfl] at hu
    go_upto_region 8 with fail
    refine wp_act fun a0 ha0 => ?_
    have HSZ : a0.tmps.size = 119 := by rw [ha0]; rfl
    have E2 : a0.eval (.tmp 2) = .pointer (some ⟨p, 0, none⟩) := by rw [ha0]; rfl
    have E5 : a0.eval (.tmp 5) = .slice B (9 + bs.length) cb := by rw [ha0]; rfl
    have E6 : a0.eval (.tmp 6) = .int .i64 0 := by rw [ha0]; rfl
    refine wp_region_sat (by kernel_rfl) 24 (by kernel_rfl) [[], [0], [1], [2], [3, 2], [2], [5, 2], [2], [7, 2], [2], [9, 2], [2], [11, 2], [12, 2], [6, 8, 10, 13, 2, 2], [4, 14, 2], [2, 15], [16, 14], [17], [18, 17], [17], [20, 17, 17], [19, 21, 17], [17, 22]] (by kernel_rfl) (by kernel_rfl) [(0, 53, .int .i64 0), (1, 54, .bool false), (2, 55, .bool false), (3, 56, .slice B (9 + bs.length) cb), (4, 57, .string (bstr FB)), (5, 58, .pointer (some ⟨p, 0, none⟩)), (6, 59, .int .i64 T), (7, 60, .pointer (some ⟨p, 1, none⟩)), (8, 61, .int .i64 F), (9, 62, .pointer (some ⟨p, 2, none⟩)), (10, 63, .int .i64 D), (11, 64, .pointer (some ⟨p, 3, none⟩)), (12, 65, .slice A bs.length c), (13, 66, .string (bstr bs)), (14, 67, .string (bstr FB)), (15, 68, .bool false), (16, 69, .bool false), (17, 70, .bool false), (18, 71, .slice B (9 + bs.length) cb), (19, 72, .int .i64 (9 + bs.length)), (20, 73, .agg #[.int .i64 (T : Int), .int .i64 (F : Int), .int .i64 (D : Int), .slice A bs.length c]), (21, 74, .int .i64 (9 + bs.length)), (22, 75, .bool false), (23, 76, .bool false)] (fun _ => [blk p #[.int .i64 (T : Int), .int .i64 (F : Int), .int .i64 (D : Int), .slice A bs.length c] 24]) (by kernel_rfl) S5 ?_ ?_
    · refine ⟨?_, ?_, ?_, ?_, ?_, ?_, ?_, ?_, ?_, ?_, ?_, ?_, ?_, ?_, ?_, ?_, ?_, ?_, ?_, ?_, ?_, ?_, ?_, ?_, trivial⟩
      · intro f W h0 hd S
        refine wpOp_run (v := .int .i64 0) rfl rfl (fun ρ hρ => ?_) ⟨(acts_some 0 rfl (by kernel_rfl) (by kernel_rfl)).symm, S⟩
        have e0 : ρ (.tmp 6) = .int .i64 0 := by rw [hρ]; exact (acts_eval_tmp 6 (by kernel_rfl)).trans E6
        clear hρ
        go_simp
      · intro f W h1 hd S
        refine wpOp_run (v := .bool false) rfl rfl (fun ρ hρ => ?_) ⟨(acts_some 1 rfl (by kernel_rfl) (by kernel_rfl)).symm, S⟩
        have e0 : ρ (.tmp 53) = .int .i64 0 := by rw [hρ]; exact acts_eval_hit 0 rfl hd.1 (by rw [HSZ]; rfl) (by kernel_rfl)
        have ec : ∀ v, ρ (.const v) = v := by rw [hρ]; exact fun _ => rfl
        clear hρ
        go_simp
      · intro f W h2 hd S
        refine wpOp_run (v := .bool false) rfl rfl (fun ρ hρ => ?_) ⟨(acts_some 2 rfl (by kernel_rfl) (by kernel_rfl)).symm, S⟩
        have e0 : ρ (.tmp 54) = .bool false := by rw [hρ]; exact acts_eval_hit 1 rfl hd.1 (by rw [HSZ]; rfl) (by kernel_rfl)
        clear hρ
        go_simp
      · intro f W h3 hd S
        refine wpOp_runG (v := .slice B (9 + bs.length) cb) rfl ?_ (fun ρ hρ => ?_) ⟨(acts_some 3 rfl (by kernel_rfl) (by kernel_rfl)).symm, S⟩
        · exact wanted_hit (t := 55) rfl rfl (acts_eval_hit 2 rfl hd.1 (by rw [HSZ]; rfl) (by kernel_rfl))
        · skip
          have e0 : ρ (.tmp 5) = .slice B (9 + bs.length) cb := by rw [hρ]; exact (acts_eval_tmp 5 (by kernel_rfl)).trans E5
          clear hρ
          go_simp
      · intro f W h4 hd S
        refine wpOp_runG (v := .string (bstr FB)) rfl ?_ (fun ρ hρ => ?_) ⟨(acts_some 4 rfl (by kernel_rfl) (by kernel_rfl)).symm, S⟩
        · exact wanted_hit (t := 55) rfl rfl (acts_eval_hit 2 rfl hd.2.1 (by rw [HSZ]; rfl) (by kernel_rfl))
        · skip
          have e0 : ρ (.tmp 56) = .slice B (9 + bs.length) cb := by rw [hρ]; exact acts_eval_hit 3 rfl hd.1 (by rw [HSZ]; rfl) (by kernel_rfl)
          clear hρ
          (have hcv := conv_bytes _ FB W (hu.sat S).1)
          go_simp
      · intro f W h5 hd S
        refine wpOp_runG (v := .pointer (some ⟨p, 0, none⟩)) rfl ?_ (fun ρ hρ => ?_) ⟨(acts_some 5 rfl (by kernel_rfl) (by kernel_rfl)).symm, S⟩
        · exact wanted_hit (t := 55) rfl rfl (acts_eval_hit 2 rfl hd.1 (by rw [HSZ]; rfl) (by kernel_rfl))
        · skip
          have e0 : ρ (.tmp 2) = .pointer (some ⟨p, 0, none⟩) := by rw [hρ]; exact (acts_eval_tmp 2 (by kernel_rfl)).trans E2
          clear hρ
          go_simp
      · intro f W h6 hd S
        refine wpOp_runG (v := .int .i64 T) rfl ?_ (fun ρ hρ => ?_) ⟨(acts_some 6 rfl (by kernel_rfl) (by kernel_rfl)).symm, S⟩
        · exact wanted_hit (t := 55) rfl rfl (acts_eval_hit 2 rfl hd.2.1 (by rw [HSZ]; rfl) (by kernel_rfl))
        · skip
          have e0 : ρ (.tmp 58) = .pointer (some ⟨p, 0, none⟩) := by rw [hρ]; exact acts_eval_hit 5 rfl hd.1 (by rw [HSZ]; rfl) (by kernel_rfl)
          clear hρ
          (have hc0 : W.cell? ⟨p, 0, none⟩ = some (.int .i64 (T : Int)) := S.cell 0; have hc1 : W.cell? ⟨p, 1, none⟩ = some (.int .i64 (F : Int)) := S.cell 1; have hc2 : W.cell? ⟨p, 2, none⟩ = some (.int .i64 (D : Int)) := S.cell 2; have hc3 : W.cell? ⟨p, 3, none⟩ = some (.slice A bs.length c) := S.cell 3)
          go_simp
      · intro f W h7 hd S
        refine wpOp_runG (v := .pointer (some ⟨p, 1, none⟩)) rfl ?_ (fun ρ hρ => ?_) ⟨(acts_some 7 rfl (by kernel_rfl) (by kernel_rfl)).symm, S⟩
        · exact wanted_hit (t := 55) rfl rfl (acts_eval_hit 2 rfl hd.1 (by rw [HSZ]; rfl) (by kernel_rfl))
        · skip
          have e0 : ρ (.tmp 2) = .pointer (some ⟨p, 0, none⟩) := by rw [hρ]; exact (acts_eval_tmp 2 (by kernel_rfl)).trans E2
          clear hρ
          go_simp
      · intro f W h8 hd S
        refine wpOp_runG (v := .int .i64 F) rfl ?_ (fun ρ hρ => ?_) ⟨(acts_some 8 rfl (by kernel_rfl) (by kernel_rfl)).symm, S⟩
        · exact wanted_hit (t := 55) rfl rfl (acts_eval_hit 2 rfl hd.2.1 (by rw [HSZ]; rfl) (by kernel_rfl))
        · skip
          have e0 : ρ (.tmp 60) = .pointer (some ⟨p, 1, none⟩) := by rw [hρ]; exact acts_eval_hit 7 rfl hd.1 (by rw [HSZ]; rfl) (by kernel_rfl)
          clear hρ
          (have hc0 : W.cell? ⟨p, 0, none⟩ = some (.int .i64 (T : Int)) := S.cell 0; have hc1 : W.cell? ⟨p, 1, none⟩ = some (.int .i64 (F : Int)) := S.cell 1; have hc2 : W.cell? ⟨p, 2, none⟩ = some (.int .i64 (D : Int)) := S.cell 2; have hc3 : W.cell? ⟨p, 3, none⟩ = some (.slice A bs.length c) := S.cell 3)
          go_simp
      · intro f W h9 hd S
        refine wpOp_runG (v := .pointer (some ⟨p, 2, none⟩)) rfl ?_ (fun ρ hρ => ?_) ⟨(acts_some 9 rfl (by kernel_rfl) (by kernel_rfl)).symm, S⟩
        · exact wanted_hit (t := 55) rfl rfl (acts_eval_hit 2 rfl hd.1 (by rw [HSZ]; rfl) (by kernel_rfl))
        · skip
          have e0 : ρ (.tmp 2) = .pointer (some ⟨p, 0, none⟩) := by rw [hρ]; exact (acts_eval_tmp 2 (by kernel_rfl)).trans E2
          clear hρ
          go_simp
      · intro f W h10 hd S
        refine wpOp_runG (v := .int .i64 D) rfl ?_ (fun ρ hρ => ?_) ⟨(acts_some 10 rfl (by kernel_rfl) (by kernel_rfl)).symm, S⟩
        · exact wanted_hit (t := 55) rfl rfl (acts_eval_hit 2 rfl hd.2.1 (by rw [HSZ]; rfl) (by kernel_rfl))
        · skip
          have e0 : ρ (.tmp 62) = .pointer (some ⟨p, 2, none⟩) := by rw [hρ]; exact acts_eval_hit 9 rfl hd.1 (by rw [HSZ]; rfl) (by kernel_rfl)
          clear hρ
          (have hc0 : W.cell? ⟨p, 0, none⟩ = some (.int .i64 (T : Int)) := S.cell 0; have hc1 : W.cell? ⟨p, 1, none⟩ = some (.int .i64 (F : Int)) := S.cell 1; have hc2 : W.cell? ⟨p, 2, none⟩ = some (.int .i64 (D : Int)) := S.cell 2; have hc3 : W.cell? ⟨p, 3, none⟩ = some (.slice A bs.length c) := S.cell 3)
          go_simp
      · intro f W h11 hd S
        refine wpOp_runG (v := .pointer (some ⟨p, 3, none⟩)) rfl ?_ (fun ρ hρ => ?_) ⟨(acts_some 11 rfl (by kernel_rfl) (by kernel_rfl)).symm, S⟩
        · exact wanted_hit (t := 55) rfl rfl (acts_eval_hit 2 rfl hd.1 (by rw [HSZ]; rfl) (by kernel_rfl))
        · skip
          have e0 : ρ (.tmp 2) = .pointer (some ⟨p, 0, none⟩) := by rw [hρ]; exact (acts_eval_tmp 2 (by kernel_rfl)).trans E2
          clear hρ
          go_simp
      · intro f W h12 hd S
        refine wpOp_runG (v := .slice A bs.length c) rfl ?_ (fun ρ hρ => ?_) ⟨(acts_some 12 rfl (by kernel_rfl) (by kernel_rfl)).symm, S⟩
        · exact wanted_hit (t := 55) rfl rfl (acts_eval_hit 2 rfl hd.2.1 (by rw [HSZ]; rfl) (by kernel_rfl))
        · skip
          have e0 : ρ (.tmp 64) = .pointer (some ⟨p, 3, none⟩) := by rw [hρ]; exact acts_eval_hit 11 rfl hd.1 (by rw [HSZ]; rfl) (by kernel_rfl)
          clear hρ
          (have hc0 : W.cell? ⟨p, 0, none⟩ = some (.int .i64 (T : Int)) := S.cell 0; have hc1 : W.cell? ⟨p, 1, none⟩ = some (.int .i64 (F : Int)) := S.cell 1; have hc2 : W.cell? ⟨p, 2, none⟩ = some (.int .i64 (D : Int)) := S.cell 2; have hc3 : W.cell? ⟨p, 3, none⟩ = some (.slice A bs.length c) := S.cell 3)
          go_simp
      · intro f W h13 hd S
        refine wpOp_runG (v := .string (bstr bs)) rfl ?_ (fun ρ hρ => ?_) ⟨(acts_some 13 rfl (by kernel_rfl) (by kernel_rfl)).symm, S⟩
        · exact wanted_hit (t := 55) rfl rfl (acts_eval_hit 2 rfl hd.2.1 (by rw [HSZ]; rfl) (by kernel_rfl))
        · skip
          have e0 : ρ (.tmp 65) = .slice A bs.length c := by rw [hρ]; exact acts_eval_hit 12 rfl hd.1 (by rw [HSZ]; rfl) (by kernel_rfl)
          clear hρ
          (have hcv := conv_bytes _ bs W (hb.sat S).1)
          go_simp
      · intro f W h14 hd S
        refine wpOp_callG rfl (wanted_hit (t := 55) rfl rfl (acts_eval_hit 2 rfl hd.2.2.2.2.1 (by rw [HSZ]; rfl) (by kernel_rfl))) (fun ρ hρ => ?_) (hrf W) ?_
        · skip
          have e0 : ρ (.tmp 59) = .int .i64 T := by rw [hρ]; exact acts_eval_hit 6 rfl hd.1 (by rw [HSZ]; rfl) (by kernel_rfl)
          have e1 : ρ (.tmp 61) = .int .i64 F := by rw [hρ]; exact acts_eval_hit 8 rfl hd.2.1 (by rw [HSZ]; rfl) (by kernel_rfl)
          have e2 : ρ (.tmp 63) = .int .i64 D := by rw [hρ]; exact acts_eval_hit 10 rfl hd.2.2.1 (by rw [HSZ]; rfl) (by kernel_rfl)
          have e3 : ρ (.tmp 66) = .string (bstr bs) := by rw [hρ]; exact acts_eval_hit 13 rfl hd.2.2.2.1 (by rw [HSZ]; rfl) (by kernel_rfl)
          have ef : ρ (.func 15) = .func (.func 15) #[] #[] := by rw [hρ]; rfl
          clear hρ
          go_simp
        · rintro e W' ⟨rfl, hb⟩
          exact ⟨_, rfl, (acts_some 14 rfl (by kernel_rfl) (by kernel_rfl)).symm, S.below hb⟩
      · intro f W h15 hd S
        refine wpOp_runG (v := .bool false) rfl ?_ (fun ρ hρ => ?_) ⟨(acts_some 15 rfl (by kernel_rfl) (by kernel_rfl)).symm, S⟩
        · exact wanted_hit (t := 55) rfl rfl (acts_eval_hit 2 rfl hd.2.2.1 (by rw [HSZ]; rfl) (by kernel_rfl))
        · skip
          have e0 : ρ (.tmp 57) = .string (bstr FB) := by rw [hρ]; exact acts_eval_hit 4 rfl hd.1 (by rw [HSZ]; rfl) (by kernel_rfl)
          have e1 : ρ (.tmp 67) = .string (bstr FB) := by rw [hρ]; exact acts_eval_hit 14 rfl hd.2.1 (by rw [HSZ]; rfl) (by kernel_rfl)
          clear hρ
          go_simp
      · intro f W h16 hd S
        refine wpOp_run (v := .bool false) rfl rfl (fun ρ hρ => ?_) ⟨(acts_some 16 rfl (by kernel_rfl) (by kernel_rfl)).symm, S⟩
        have e0 : ρ (.tmp 55) = .bool false := by rw [hρ]; exact acts_eval_hit 2 rfl hd.1 (by rw [HSZ]; rfl) (by kernel_rfl)
        have e1 : ρ (.tmp 68) = .bool false := by rw [hρ]; exact acts_eval_hit 15 rfl hd.2.1 (by rw [HSZ]; rfl) (by kernel_rfl)
        have ec : ∀ v, ρ (.const v) = v := by rw [hρ]; exact fun _ => rfl
        clear hρ
        go_simp
      · intro f W h17 hd S
        refine wpOp_run (v := .bool false) rfl rfl (fun ρ hρ => ?_) ⟨(acts_some 17 rfl (by kernel_rfl) (by kernel_rfl)).symm, S⟩
        have e0 : ρ (.tmp 69) = .bool false := by rw [hρ]; exact acts_eval_hit 16 rfl hd.1 (by rw [HSZ]; rfl) (by kernel_rfl)
        clear hρ
        go_simp
      · intro f W h18 hd S
        refine wpOp_runG (v := .slice B (9 + bs.length) cb) rfl ?_ (fun ρ hρ => ?_) ⟨(acts_some 18 rfl (by kernel_rfl) (by kernel_rfl)).symm, S⟩
        · exact wanted_hit (t := 70) rfl rfl (acts_eval_hit 17 rfl hd.1 (by rw [HSZ]; rfl) (by kernel_rfl))
        · skip
          have e0 : ρ (.tmp 5) = .slice B (9 + bs.length) cb := by rw [hρ]; exact (acts_eval_tmp 5 (by kernel_rfl)).trans E5
          clear hρ
          go_simp
      · intro f W h19 hd S
        refine wpOp_runG (v := .int .i64 (9 + bs.length)) rfl ?_ (fun ρ hρ => ?_) ⟨(acts_some 19 rfl (by kernel_rfl) (by kernel_rfl)).symm, S⟩
        · exact wanted_hit (t := 70) rfl rfl (acts_eval_hit 17 rfl hd.2.1 (by rw [HSZ]; rfl) (by kernel_rfl))
        · skip
          have e0 : ρ (.tmp 71) = .slice B (9 + bs.length) cb := by rw [hρ]; exact acts_eval_hit 18 rfl hd.1 (by rw [HSZ]; rfl) (by kernel_rfl)
          clear hρ
          go_simp
      · intro f W h20 hd S
        refine wpOp_runG (v := .agg #[.int .i64 (T : Int), .int .i64 (F : Int), .int .i64 (D : Int), .slice A bs.length c]) rfl ?_ (fun ρ hρ => ?_) ⟨(acts_some 20 rfl (by kernel_rfl) (by kernel_rfl)).symm, S⟩
        · exact wanted_hit (t := 70) rfl rfl (acts_eval_hit 17 rfl hd.1 (by rw [HSZ]; rfl) (by kernel_rfl))
        · skip
          have e0 : ρ (.tmp 2) = .pointer (some ⟨p, 0, none⟩) := by rw [hρ]; exact (acts_eval_tmp 2 (by kernel_rfl)).trans E2
          clear hρ
          (have hc0 : W.cell? ⟨p, 0, none⟩ = some (.int .i64 (T : Int)) := S.cell 0; have hc1 : W.cell? ⟨p, 1, none⟩ = some (.int .i64 (F : Int)) := S.cell 1; have hc2 : W.cell? ⟨p, 2, none⟩ = some (.int .i64 (D : Int)) := S.cell 2; have hc3 : W.cell? ⟨p, 3, none⟩ = some (.slice A bs.length c) := S.cell 3)
          go_simp
      · intro f W h21 hd S
        refine wpOp_callG rfl (wanted_hit (t := 70) rfl rfl (acts_eval_hit 17 rfl hd.2.1 (by rw [HSZ]; rfl) (by kernel_rfl))) (fun ρ hρ => ?_) (frame_len S T F D A bs.length c (by omega)) ?_
        · skip
          have e0 : ρ (.tmp 73) = .agg #[.int .i64 (T : Int), .int .i64 (F : Int), .int .i64 (D : Int), .slice A bs.length c] := by rw [hρ]; exact acts_eval_hit 20 rfl hd.1 (by rw [HSZ]; rfl) (by kernel_rfl)
          have ef : ρ (.func 13) = .func (.func 13) #[] #[] := by rw [hρ]; rfl
          clear hρ
          go_simp
        · (rintro e W' ⟨rfl, S'⟩; exact ⟨_, rfl, (acts_some 21 rfl (by kernel_rfl) (by kernel_rfl)).symm, S'⟩)
      · intro f W h22 hd S
        refine wpOp_runG (v := .bool false) rfl ?_ (fun ρ hρ => ?_) ⟨(acts_some 22 rfl (by kernel_rfl) (by kernel_rfl)).symm, S⟩
        · exact wanted_hit (t := 70) rfl rfl (acts_eval_hit 17 rfl hd.2.2.1 (by rw [HSZ]; rfl) (by kernel_rfl))
        · skip
          have e0 : ρ (.tmp 72) = .int .i64 (9 + bs.length) := by rw [hρ]; exact acts_eval_hit 19 rfl hd.1 (by rw [HSZ]; rfl) (by kernel_rfl)
          have e1 : ρ (.tmp 74) = .int .i64 (9 + bs.length) := by rw [hρ]; exact acts_eval_hit 21 rfl hd.2.1 (by rw [HSZ]; rfl) (by kernel_rfl)
          clear hρ
          go_simp
      · intro f W h23 hd S
        refine wpOp_run (v := .bool false) rfl rfl (fun ρ hρ => ?_) ⟨(acts_some 23 rfl (by kernel_rfl) (by kernel_rfl)).symm, S⟩
        have e0 : ρ (.tmp 70) = .bool false := by rw [hρ]; exact acts_eval_hit 17 rfl hd.1 (by rw [HSZ]; rfl) (by kernel_rfl)
        have e1 : ρ (.tmp 75) = .bool false := by rw [hρ]; exact acts_eval_hit 22 rfl hd.2.1 (by rw [HSZ]; rfl) (by kernel_rfl)
        have ec : ∀ v, ρ (.const v) = v := by rw [hρ]; exact fun _ => rfl
        clear hρ
        go_simp
    intro W6 S6
    subst ha0
    simp only [acts, if_true, Act.put, List.setIfInBounds_toArray, List.set_cons_succ, List.set_cons_zero]
    clear S5 HSZ E2 E5 E6
    have hp := frame_parse S6 (.slice B (9 + bs.length) cb) FB most (fun W SW => hu.sat SW) (by omega)
    have hE : headE FB most = if most < (bs.length : Int) then 106 else 0 := by
      unfold headE
      rw [hfl, e1, if_neg (show ¬ (9 + bs.length < 9) by omega)]
      by_cases hq : most < (bs.length : Int)
      · rw [if_pos hq, if_pos hq]
      · rw [if_neg hq, if_neg hq, if_neg (Nat.lt_irrefl _)]
    rw [hE] at hp
    rw [e1, e2, e3, e4, e5] at hp
    clear hE e1 e2 e3 e4 e5 hu hFB hrf
    by_cases hm : most < (bs.length : Int)
    · rw [if_pos hm] at hp
      go_wp2_with fail
      (with_reducible refine hp.mono ?_)
      clear hp S6
      rintro e w7 ⟨G2, u2, hG2, S7, ⟨-, rfl⟩ | ⟨h, -⟩⟩
      rotate_left
      · exact absurd h (by decide)
      unfold zeroFr
      have S8 := S7.newBlk #[.int .i64 0, .int .i64 0, .int .i64 0, .slice none 0 0] 24
      clear S7
      go_upto_region 11 with fail
      generalize w7.heap.size = q at S8 ⊢
      refine wp_world S8 fun W S9 => ?_
      clear S8
      have c0 : W.cell? ⟨q, 0, none⟩ = some (.int .i64 0) := S9.cell 0
      have c1 : W.cell? ⟨q, 1, none⟩ = some (.int .i64 0) := S9.cell 1
      have c2 : W.cell? ⟨q, 2, none⟩ = some (.int .i64 0) := S9.cell 2
      have c3 : W.cell? ⟨q, 3, none⟩ = some (.slice none 0 0) := S9.cell 3
      have d3 : W.cell? ⟨p, 3, none⟩ = some (.slice A bs.length c) := S9.swap.cell 3
      have heq := frame_equal S9 0 0 0 0 0 0 (.slice none 0 0) (.slice none 0 0) [] [] (fun W SW => (SlB.nil _).1) (fun W SW => (SlB.nil _).1)
      rw [decide_eq_true ⟨rfl, rfl, rfl, rfl⟩] at heq
      clear S9
      go_wp2_with fail
      (with_reducible refine heq.mono ?_)
      clear heq c0 c1 c2 c3 d3
      rintro e w8 ⟨rfl, S10⟩
      go_wp2_with fail
      (with_reducible refine (law_awake2 _).mono ?_)
      rintro e w9 ⟨rfl, hb9⟩
      go_wp2_with fail
      exact hK.out _ _ ⟨rfl, (S10.drop.below hb9).drop.above (hG.trans hG2)⟩
    · rw [if_neg hm] at hp
      go_wp2_with fail
      (with_reducible refine hp.mono ?_)
      clear hp S6
      rintro e w7 ⟨G2, u2, hG2, S7, ⟨h, -⟩ | ⟨-, rfl, hx⟩⟩
      · exact absurd rfl h
      obtain ⟨X, cx, rfl, -, -, -⟩ := hx.form
      have S8 := S7.newBlk #[.int .i64 T, .int .i64 F, .int .i64 D, .slice X bs.length cx] 24
      clear S7
      go_upto_region 11 with fail
      generalize w7.heap.size = q at S8 ⊢
      refine wp_world S8 fun W S9 => ?_
      clear S8
      have c0 : W.cell? ⟨q, 0, none⟩ = some (.int .i64 T) := S9.cell 0
      have c1 : W.cell? ⟨q, 1, none⟩ = some (.int .i64 F) := S9.cell 1
      have c2 : W.cell? ⟨q, 2, none⟩ = some (.int .i64 D) := S9.cell 2
      have c3 : W.cell? ⟨q, 3, none⟩ = some (.slice X bs.length cx) := S9.cell 3
      have d0 : W.cell? ⟨p, 0, none⟩ = some (.int .i64 T) := S9.swap.cell 0
      have d1 : W.cell? ⟨p, 1, none⟩ = some (.int .i64 F) := S9.swap.cell 1
      have d2 : W.cell? ⟨p, 2, none⟩ = some (.int .i64 D) := S9.swap.cell 2
      have d3 : W.cell? ⟨p, 3, none⟩ = some (.slice A bs.length c) := S9.swap.cell 3
      have heq := frame_equal S9 T F D T F D _ _ bs bs (fun W SW => (hx.sat SW).1) (fun W SW => ((hb.mono hG2).sat SW).1)
      rw [decide_eq_true ⟨rfl, rfl, rfl, rfl⟩] at heq
      clear S9
      go_wp2_with fail
      (with_reducible refine heq.mono ?_)
      clear heq c0 c1 c2 c3 d0 d1 d2 d3
      rintro e w8 ⟨rfl, S10⟩
      go_wp2_with fail
      (with_reducible refine (law_awake2 _).mono ?_)
      rintro e w9 ⟨rfl, hb9⟩
      go_wp2_with fail
      exact hK.out _ _ ⟨rfl, (S10.drop.below hb9).drop.above (hG.trans hG2)⟩
end Go.Proofs.Ytjhhabaeaekejaa
