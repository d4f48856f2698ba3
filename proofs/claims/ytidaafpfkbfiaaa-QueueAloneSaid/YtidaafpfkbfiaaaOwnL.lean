/- The walk of the law QueueOwn. -/
import Derived.Test.YtidaafpfkbfiaaaOps
set_option linter.unusedSimpArgs false
set_option linter.unusedVariables false
namespace Go.Proofs.Ytidaafpfkbfiaaa
open Go.RowKit

def HNo (f : Nat → Bool) : Prop := (f 5 = true → f 2 = true) ∧ (f 9 = true → f 6 = true) ∧ (f 10 = true → f 5 = true) ∧ (f 10 = true → f 9 = true) ∧ (f 12 = true → f 10 = true) ∧ (f 12 = true → f 11 = true)
/-- Bytes of one's own that somebody counts up: as many they stay. -/
def anyB (v : Value) (n : Nat) : Asrt := ex fun bs : List UInt8 => star [pur (bs.length = n), ownS 5 1 v n (bs.map byteV)]
theorem any_iff {G : Gnd} {w : World} {l : List Asrt} {v : Value} {n : Nat} : Sat G w (anyB v n :: l) ↔ ∃ bs : List UInt8, bs.length = n ∧ Sat G w (ownS 5 1 v n (bs.map byteV) :: l) := by
  unfold anyB
  rw [Sat.ex_iff]
  simp only [Sat.star_iff, List.cons_append, List.nil_append, Sat.pur_iff]
theorem any_of {G : Gnd} {w : World} {l : List Asrt} {v : Value} {bs : List UInt8} (S : Sat G w (ownS 5 1 v bs.length (bs.map byteV) :: l)) : Sat G w (anyB v bs.length :: l) := any_iff.2 ⟨bs, rfl, S⟩
/-- One of them. -/
theorem any_cell {G : Gnd} {w : World} {l : List Asrt} {v : Value} {n : Nat} (S : Sat G w (anyB v n :: l)) (k : Nat) (hk : k < n) : ∃ g cap b, v = .slice (some ⟨g, 0, none⟩) n cap ∧ n ≤ cap ∧ cap ≤ maxLen ∧ w.cell? ⟨g, k, none⟩ = some (byteV b) ∧ w.frozen? ⟨g, k, none⟩ = false ∧ ∀ c : UInt8, Sat G (w.setCell ⟨g, k, none⟩ (byteV c)) (anyB v n :: l) := by
  obtain ⟨bs, hb, S⟩ := any_iff.1 S
  obtain ⟨g, cap, e, h1, h2, h3, h4, h5⟩ := S.ownCell k hk
  refine ⟨g, cap, bs[k]'(by omega), e, h1, h2, by rw [h3, List.getElem?_map, List.getElem?_eq_getElem (by omega)]; rfl, h4, fun c => any_iff.2 ⟨bs.set k c, by simp [hb], ?_⟩⟩
  have := h5 (byteV c)
  rwa [← List.map_set] at this
theorem byte_up (b : UInt8) : Value.int .u8 (IntKind.u8.wrap ((b.toNat : Int) + 1)) = byteV (b + 1) := by
  unfold byteV
  congr 1
theorem own_hyp {G : Gnd} {l : List Asrt} {v : Value} (bs : List UInt8) : ∀ W, Sat G W (ownS 5 1 v bs.length (bs.map byteV) :: l) → SlB W.cell? v bs := fun W SW => own_slb SW
theorem own_hyp2 {G : Gnd} {l : List Asrt} {A : Asrt} {v : Value} (bs : List UInt8) : ∀ W, Sat G W (A :: ownS 5 1 v bs.length (bs.map byteV) :: l) → SlB W.cell? v bs := fun W SW => own_slb SW.swap
theorem sepAll_front {R : Hp} {l' : List Asrt} : ∀ {l : List Asrt} {h : Hp}, sepAll (l ++ l') R h → sepAll l R h
  | [], _, _ => trivial
  | _ :: _, _, ⟨h1, h2, a, e1, e2, p, q⟩ => ⟨h1, h2, a, e1, e2, p, sepAll_front q⟩
theorem sepAll_fst4 {R : Hp} {A B C D : Asrt} {l' : List Asrt} {h : Hp} (H : sepAll (A :: B :: C :: D :: l') R h) : sepAll [A, B, C, D] R h := sepAll_front (l := [A, B, C, D]) H
theorem sepAll_fst6 {R : Hp} {A B C D E F : Asrt} {l' : List Asrt} {h : Hp} (H : sepAll (A :: B :: C :: D :: E :: F :: l') R h) : sepAll [A, B, C, D, E, F] R h := sepAll_front (l := [A, B, C, D, E, F]) H
set_option maxHeartbeats 8000000 in
set_option maxRecDepth 100000 in
theorem queueOwn_walk (w : World) (v0 : Value) (h0 : ∃ d, ArgV w (Ty.agg [.int .i64, .sl 1 (.int .u8), .sl 1 (.int .u8)]) v0 d) :
    Calls Try.prog 3 #[v0] w fun e w' => e = .returned (.bool true) ∧ Below w.heap.size w w' := by
  refine calls_any fun K hK => ?_
  obtain ⟨_, h0⟩ := h0
  obtain ⟨x, rfl, hx, hl1, hl2⟩ := arg_item h0
  clear h0
  obtain ⟨A, a, D, d, e1, e2⟩ := qe_slices hx
  obtain ⟨n, hv, bv, h, b⟩ := x
  simp only at e1 e2 hl1 hl2
  subst e1
  subst e2
  obtain ⟨hx1, hx2⟩ := hx
  simp only [Qe.enc] at *
  have S0 := (Sat.start w).newBlk #[.int .i64 n, .slice A h.length a, .slice D b.length d] 24
  have hG0 := Gnd.le.rfl' (G := Gnd.of w)
  have HX1 := Lib.hid hx1
  have HX2 := Lib.hid hx2
  clear hx1 hx2
  by_cases hh : 300 < (h.length : Int)
  · go_enter Try.func3, Try.ntmps3
    go_wp2_with fail
    (with_reducible refine (law_awake (S0.drop)).mono ?_); rintro e w9 ⟨rfl, G9, hG9, S9⟩; go_wp2_with fail; exact hK.out _ _ ⟨rfl, S9.above (Gnd.le.trans (hG0) hG9)⟩
  by_cases hbb : 300 < (b.length : Int)
  · go_enter Try.func3, Try.ntmps3
    go_wp2_with fail
    (with_reducible refine (law_awake (S0.drop)).mono ?_); rintro e w9 ⟨rfl, G9, hG9, S9⟩; go_wp2_with fail; exact hK.out _ _ ⟨rfl, S9.above (Gnd.le.trans (hG0) hG9)⟩
  have hnew := qu_new S0 1 1000 5 (by decide)
  change Calls _ _ #[.int .i64 1, .int .i64 1000, .int .i64 5] _ _ at hnew
  rw [show List.replicate 1 ([] : List It) = [[]] from rfl] at hnew
  go_enter Try.func3, Try.ntmps3
  go_wp2_with fail
  (with_reducible refine hnew.mono ?_)
  clear hnew S0
  rintro e w1 ⟨q, rfl, S1⟩
  obtain ⟨p, hp⟩ : ∃ p, p = w.heap.size := ⟨_, rfl⟩
  rw [← hp] at S1 ⊢
  clear hp
  have T1 := S1.swap
  have d0 := T1.cell 0
  have d1 := T1.cell 1
  have d2 := T1.cell 2
  have hrf := law_ref T1 n (.slice A h.length a) (.slice D b.length d) h b (fun W SW => HX1.out.sat SW) (fun W SW => HX2.out.sat SW)
  clear S1 T1
  go_wp2_with fail
  (with_reducible refine hrf.mono ?_)
  clear hrf d0 d1 d2
  rintro e w2 ⟨rfl, S2⟩
  have S3 := S2.newBlk #[.int .i64 n, .string (bstr h), .string (bstr b)] 31
  clear S2
  go_upto_region 5 with fail
  generalize w2.heap.size = r at *
  refine wp_world S3 fun w3 S4 => ?_
  clear S3
  refine wp_act fun a0 ha0 => ?_
  have HSZ : a0.tmps.size = 137 := by rw [ha0]; rfl
  have E1 : a0.eval (.tmp 1) = .pointer (some ⟨p, 0, none⟩) := by rw [ha0]; rfl
  refine wp_region_J (by kernel_rfl) 13 (by kernel_rfl) [[], [0], [], [], [3], [2, 4], [], [], [7], [6, 8, 5], [1, 5, 9], [], [11, 10, 9, 0, 1, 2, 3, 4, 5, 6, 7, 8, 9, 10, 11]] (by kernel_rfl) (by kernel_rfl) (fun f a' W => ∃ e1 v1 e2 v2 p6, HNo f ∧ a' = acts [(0, 31, .pointer (some ⟨p, 0, none⟩)), (1, 32, .int .i64 n), (2, 33, .slice (some ⟨e1, 0, none⟩) 0 0), (3, 34, .pointer (some ⟨p, 1, none⟩)), (4, 35, .slice A h.length a), (5, 36, v1), (6, 37, .slice (some ⟨e2, 0, none⟩) 0 0), (7, 38, .pointer (some ⟨p, 2, none⟩)), (8, 39, .slice D b.length d), (9, 40, v2), (10, 41, .agg #[.int .i64 n, v1, v2]), (11, 6, .pointer (some ⟨p6, 0, none⟩))] f a0 ∧ Sat (Gnd.of w) W (opt (f 2) (ownS 5 1 (cond (f 5) v1 (.slice (some ⟨e1, 0, none⟩) 0 0)) (cond (f 5) h.length 0) (cond (f 5) (h.map byteV) [])) :: opt (f 6) (ownS 5 1 (cond (f 9) v2 (.slice (some ⟨e2, 0, none⟩) 0 0)) (cond (f 9) b.length 0) (cond (f 9) (b.map byteV) [])) :: opt (f 11) (blk p6 (cond (f 12) #[.int .i64 n, v1, v2] #[.int .i64 0, .slice none 0 0, .slice none 0 0]) 24) :: [blk r #[.int .i64 n, .string (bstr h), .string (bstr b)] 31, blk p #[.int .i64 n, .slice A h.length a, .slice D b.length d] 24, quA q [[]] 1000 5])) ?_ ?_ ?_
  · exact ⟨0, undef, 0, undef, 0, (by unfold HNo; decide), rfl, S4.drew.opt0.opt0.opt0⟩
  · refine ⟨?_, ?_, ?_, ?_, ?_, ?_, ?_, ?_, ?_, ?_, ?_, ?_, ?_, trivial⟩
    · rintro f a' W h0 hd ⟨e1, v1, e2, v2, p6, hh, rfl, S⟩
      refine wpOp_run (v := .pointer (some ⟨p, 0, none⟩)) rfl rfl (fun ρ hρ => ?_) ⟨e1, v1, e2, v2, p6, hh, (acts_some 0 rfl (by kernel_rfl) (by kernel_rfl)).symm, S⟩
      have e0 : ρ (.tmp 1) = .pointer (some ⟨p, 0, none⟩) := by rw [hρ]; exact (acts_eval_tmp 1 (by kernel_rfl)).trans E1
      clear hρ
      go_simp
    · rintro f a' W h1 hd ⟨e1, v1, e2, v2, p6, hh, rfl, S⟩
      refine wpOp_run (v := .int .i64 n) rfl rfl (fun ρ hρ => ?_) ⟨e1, v1, e2, v2, p6, hh, (acts_some 1 rfl (by kernel_rfl) (by kernel_rfl)).symm, S⟩
      have e0 : ρ (.tmp 31) = .pointer (some ⟨p, 0, none⟩) := by rw [hρ]; exact acts_eval_hit 0 rfl hd.1 (by rw [HSZ]; rfl) (by kernel_rfl)
      clear hρ
      (have hz0 : W.cell? ⟨p, 0, none⟩ = some (.int .i64 n) := (Sat.mid [_, _, _, _] S).cell 0)
      go_simp
    · rintro f a' W h2 hd ⟨e1, v1, e2, v2, p6, hh, rfl, S⟩
      (have z5 := no_of hh.1 h2; have z10 := no_of hh.2.2.1 z5)
      refine wpOp_mem (v := .slice (some ⟨W.heap.size, 0, none⟩) 0 0) (w' := W.alloc (.cells #[] 5)) rfl rfl (fun ρ hρ => ?_) (⟨W.heap.size, v1, e2, v2, p6, ⟨fun _ => rfl, hh.2⟩, acts_swap (by simp only [acts, h2, Bool.false_eq_true, if_false]) (k := 2) rfl (by kernel_rfl) (by kernel_rfl), (by have T := (S.drop.newBlk #[] 5).ownBlk (size := 1) 0 rfl (Nat.zero_le _); show Sat (Gnd.of w) _ (opt true (ownS _ _ (cond (f 5) _ _) (cond (f 5) _ _) (cond (f 5) _ _)) :: _); rw [z5]; exact opt_iff.2 T)⟩)
      clear hρ
      go_simp
    · rintro f a' W h3 hd ⟨e1, v1, e2, v2, p6, hh, rfl, S⟩
      refine wpOp_run (v := .pointer (some ⟨p, 1, none⟩)) rfl rfl (fun ρ hρ => ?_) ⟨e1, v1, e2, v2, p6, hh, (acts_some 3 rfl (by kernel_rfl) (by kernel_rfl)).symm, S⟩
      have e0 : ρ (.tmp 1) = .pointer (some ⟨p, 0, none⟩) := by rw [hρ]; exact (acts_eval_tmp 1 (by kernel_rfl)).trans E1
      clear hρ
      go_simp
    · rintro f a' W h4 hd ⟨e1, v1, e2, v2, p6, hh, rfl, S⟩
      refine wpOp_run (v := .slice A h.length a) rfl rfl (fun ρ hρ => ?_) ⟨e1, v1, e2, v2, p6, hh, (acts_some 4 rfl (by kernel_rfl) (by kernel_rfl)).symm, S⟩
      have e0 : ρ (.tmp 34) = .pointer (some ⟨p, 1, none⟩) := by rw [hρ]; exact acts_eval_hit 3 rfl hd.1 (by rw [HSZ]; rfl) (by kernel_rfl)
      clear hρ
      (have hz0 : W.cell? ⟨p, 1, none⟩ = some (.slice A h.length a) := (Sat.mid [_, _, _, _] S).cell 1)
      go_simp
    · rintro f a' W h5 hd ⟨e1, v1, e2, v2, p6, hh, rfl, S⟩
      have q33 : (acts [(0, 31, .pointer (some ⟨p, 0, none⟩)), (1, 32, .int .i64 n), (2, 33, .slice (some ⟨e1, 0, none⟩) 0 0), (3, 34, .pointer (some ⟨p, 1, none⟩)), (4, 35, .slice A h.length a), (5, 36, v1), (6, 37, .slice (some ⟨e2, 0, none⟩) 0 0), (7, 38, .pointer (some ⟨p, 2, none⟩)), (8, 39, .slice D b.length d), (9, 40, v2), (10, 41, .agg #[.int .i64 n, v1, v2]), (11, 6, .pointer (some ⟨p6, 0, none⟩))] f a0).eval (.tmp 33) = .slice (some ⟨e1, 0, none⟩) 0 0 := acts_eval_hit 2 rfl hd.1 (by rw [HSZ]; rfl) (by kernel_rfl)
      have q35 : (acts [(0, 31, .pointer (some ⟨p, 0, none⟩)), (1, 32, .int .i64 n), (2, 33, .slice (some ⟨e1, 0, none⟩) 0 0), (3, 34, .pointer (some ⟨p, 1, none⟩)), (4, 35, .slice A h.length a), (5, 36, v1), (6, 37, .slice (some ⟨e2, 0, none⟩) 0 0), (7, 38, .pointer (some ⟨p, 2, none⟩)), (8, 39, .slice D b.length d), (9, 40, v2), (10, 41, .agg #[.int .i64 n, v1, v2]), (11, 6, .pointer (some ⟨p6, 0, none⟩))] f a0).eval (.tmp 35) = .slice A h.length a := acts_eval_hit 4 rfl hd.2.1 (by rw [HSZ]; rfl) (by kernel_rfl)
      (have z10 := no_of hh.2.2.1 h5; simp only [hd.1, h5, cond_false] at S; have S2 := opt_iff.1 S; refine wpOp_list rfl ?_; refine st_app S2 rfl _ _ rfl q33 q35 (HX1.out.sat S2).1 (fun hA => HX1.out.2 _ _ (by rw [hA])) (by omega) ?_; intro v3 W3 S3; refine ⟨e1, v3, e2, v2, p6, ⟨fun _ => hd.1, hh.2.1, fun _ => rfl, hh.2.2.2⟩, acts_swap (by simp only [acts, h5, z10, Bool.false_eq_true, if_false]) (k := 5) rfl (by kernel_rfl) (by kernel_rfl), ?_⟩; have z12 := no_of hh.2.2.2.2.1 z10; show Sat (Gnd.of w) W3 (opt (f 2) _ :: _ :: opt (f 11) (blk p6 (cond (f 12) _ _) _) :: _); rw [z12] at S3 ⊢; rw [hd.1]; have S5 : Sat (Gnd.of w) W3 (ownS 5 1 v3 h.length (h.map byteV) :: _) := (by simpa using S3); exact opt_iff.2 S5)
    · rintro f a' W h6 hd ⟨e1, v1, e2, v2, p6, hh, rfl, S⟩
      (have z9 := no_of hh.2.1 h6; have z10 := no_of hh.2.2.2.1 z9)
      refine wpOp_mem (v := .slice (some ⟨W.heap.size, 0, none⟩) 0 0) (w' := W.alloc (.cells #[] 5)) rfl rfl (fun ρ hρ => ?_) (⟨e1, v1, W.heap.size, v2, p6, ⟨hh.1, fun _ => rfl, hh.2.2⟩, acts_swap (by simp only [acts, h6, Bool.false_eq_true, if_false]) (k := 6) rfl (by kernel_rfl) (by kernel_rfl), (by have T := (S.swap.drop.newBlk #[] 5).ownBlk (size := 1) 0 rfl (Nat.zero_le _); show Sat (Gnd.of w) _ (_ :: opt true (ownS _ _ (cond (f 9) _ _) (cond (f 9) _ _) (cond (f 9) _ _)) :: _); rw [z9]; exact (opt_iff.2 T).swap)⟩)
      clear hρ
      go_simp
    · rintro f a' W h7 hd ⟨e1, v1, e2, v2, p6, hh, rfl, S⟩
      refine wpOp_run (v := .pointer (some ⟨p, 2, none⟩)) rfl rfl (fun ρ hρ => ?_) ⟨e1, v1, e2, v2, p6, hh, (acts_some 7 rfl (by kernel_rfl) (by kernel_rfl)).symm, S⟩
      have e0 : ρ (.tmp 1) = .pointer (some ⟨p, 0, none⟩) := by rw [hρ]; exact (acts_eval_tmp 1 (by kernel_rfl)).trans E1
      clear hρ
      go_simp
    · rintro f a' W h8 hd ⟨e1, v1, e2, v2, p6, hh, rfl, S⟩
      refine wpOp_run (v := .slice D b.length d) rfl rfl (fun ρ hρ => ?_) ⟨e1, v1, e2, v2, p6, hh, (acts_some 8 rfl (by kernel_rfl) (by kernel_rfl)).symm, S⟩
      have e0 : ρ (.tmp 38) = .pointer (some ⟨p, 2, none⟩) := by rw [hρ]; exact acts_eval_hit 7 rfl hd.1 (by rw [HSZ]; rfl) (by kernel_rfl)
      clear hρ
      (have hz0 : W.cell? ⟨p, 2, none⟩ = some (.slice D b.length d) := (Sat.mid [_, _, _, _] S).cell 2)
      go_simp
    · rintro f a' W h9 hd ⟨e1, v1, e2, v2, p6, hh, rfl, S⟩
      have q37 : (acts [(0, 31, .pointer (some ⟨p, 0, none⟩)), (1, 32, .int .i64 n), (2, 33, .slice (some ⟨e1, 0, none⟩) 0 0), (3, 34, .pointer (some ⟨p, 1, none⟩)), (4, 35, .slice A h.length a), (5, 36, v1), (6, 37, .slice (some ⟨e2, 0, none⟩) 0 0), (7, 38, .pointer (some ⟨p, 2, none⟩)), (8, 39, .slice D b.length d), (9, 40, v2), (10, 41, .agg #[.int .i64 n, v1, v2]), (11, 6, .pointer (some ⟨p6, 0, none⟩))] f a0).eval (.tmp 37) = .slice (some ⟨e2, 0, none⟩) 0 0 := acts_eval_hit 6 rfl hd.1 (by rw [HSZ]; rfl) (by kernel_rfl)
      have q39 : (acts [(0, 31, .pointer (some ⟨p, 0, none⟩)), (1, 32, .int .i64 n), (2, 33, .slice (some ⟨e1, 0, none⟩) 0 0), (3, 34, .pointer (some ⟨p, 1, none⟩)), (4, 35, .slice A h.length a), (5, 36, v1), (6, 37, .slice (some ⟨e2, 0, none⟩) 0 0), (7, 38, .pointer (some ⟨p, 2, none⟩)), (8, 39, .slice D b.length d), (9, 40, v2), (10, 41, .agg #[.int .i64 n, v1, v2]), (11, 6, .pointer (some ⟨p6, 0, none⟩))] f a0).eval (.tmp 39) = .slice D b.length d := acts_eval_hit 8 rfl hd.2.1 (by rw [HSZ]; rfl) (by kernel_rfl)
      (have z10 := no_of hh.2.2.2.1 h9; simp only [hd.1, h9, cond_false] at S; have S2 := opt_iff.1 S.swap; refine wpOp_list rfl ?_; refine st_app S2 rfl _ _ rfl q37 q39 (HX2.out.sat S2).1 (fun hA => HX2.out.2 _ _ (by rw [hA])) (by omega) ?_; intro v3 W3 S3; refine ⟨e1, v1, e2, v3, p6, ⟨hh.1, fun _ => hd.1, hh.2.2.1, fun _ => rfl, hh.2.2.2.2⟩, acts_swap (by simp only [acts, h9, z10, Bool.false_eq_true, if_false]) (k := 9) rfl (by kernel_rfl) (by kernel_rfl), ?_⟩; have z12 := no_of hh.2.2.2.2.1 z10; show Sat (Gnd.of w) W3 (_ :: opt (f 6) _ :: opt (f 11) (blk p6 (cond (f 12) _ _) _) :: _); rw [z12] at S3 ⊢; rw [hd.1]; have S5 : Sat (Gnd.of w) W3 (ownS 5 1 v3 b.length (b.map byteV) :: _) := (by simpa using S3); exact (opt_iff.2 S5).swap)
    · rintro f a' W h10 hd ⟨e1, v1, e2, v2, p6, hh, rfl, S⟩
      refine wpOp_run (v := .agg #[.int .i64 n, v1, v2]) rfl rfl (fun ρ hρ => ?_) ⟨e1, v1, e2, v2, p6, ⟨hh.1, hh.2.1, fun _ => hd.2.1, fun _ => hd.2.2.1, fun _ => rfl, hh.2.2.2.2.2⟩, (acts_some 10 rfl (by kernel_rfl) (by kernel_rfl)).symm, S⟩
      have e0 : ρ (.tmp 32) = .int .i64 n := by rw [hρ]; exact acts_eval_hit 1 rfl hd.1 (by rw [HSZ]; rfl) (by kernel_rfl)
      have e1 : ρ (.tmp 36) = v1 := by rw [hρ]; exact acts_eval_hit 5 rfl hd.2.1 (by rw [HSZ]; rfl) (by kernel_rfl)
      have e2 : ρ (.tmp 40) = v2 := by rw [hρ]; exact acts_eval_hit 9 rfl hd.2.2.1 (by rw [HSZ]; rfl) (by kernel_rfl)
      clear hρ
      (have S8 := S; have z2 := hh.1 hd.2.1; have z6 := hh.2.1 hd.2.2.1; rw [z2, z6, hd.2.1, hd.2.2.1] at S8; obtain ⟨_, _, hu1, -, -, -⟩ := (opt_iff.1 S8).ownSlice; obtain ⟨_, _, hu2, -, -, -⟩ := (opt_iff.1 S8.swap).ownSlice; simp only [cond_true] at hu1 hu2)
      go_simp
    · rintro f a' W h11 hd ⟨e1, v1, e2, v2, p6, hh, rfl, S⟩
      (have z12 := no_of hh.2.2.2.2.2 h11)
      refine wpOp_mem (v := .pointer (some ⟨W.heap.size, 0, none⟩)) (w' := W.alloc (.cells #[.int .i64 0, .slice none 0 0, .slice none 0 0] 24)) rfl rfl (fun ρ hρ => ?_) (⟨e1, v1, e2, v2, W.heap.size, ⟨hh.1, hh.2.1, hh.2.2.1, hh.2.2.2.1, hh.2.2.2.2.1, fun _ => rfl⟩, acts_swap (by simp only [acts, h11, Bool.false_eq_true, if_false]) (k := 11) rfl (by kernel_rfl) (by kernel_rfl), (by have T := ((S.re [2, 0, 1]).drop.newBlk #[.int .i64 0, .slice none 0 0, .slice none 0 0] 24); show Sat (Gnd.of w) _ (_ :: _ :: opt true (blk _ (cond (f 12) _ _) _) :: _); rw [z12]; exact (opt_iff.2 T).push2)⟩)
      clear hρ
      go_simp
    · rintro f a' W h12 hd ⟨e1, v1, e2, v2, p6, hh, rfl, S⟩
      have q6 : (acts [(0, 31, .pointer (some ⟨p, 0, none⟩)), (1, 32, .int .i64 n), (2, 33, .slice (some ⟨e1, 0, none⟩) 0 0), (3, 34, .pointer (some ⟨p, 1, none⟩)), (4, 35, .slice A h.length a), (5, 36, v1), (6, 37, .slice (some ⟨e2, 0, none⟩) 0 0), (7, 38, .pointer (some ⟨p, 2, none⟩)), (8, 39, .slice D b.length d), (9, 40, v2), (10, 41, .agg #[.int .i64 n, v1, v2]), (11, 6, .pointer (some ⟨p6, 0, none⟩))] f a0).eval (.tmp 6) = .pointer (some ⟨p6, 0, none⟩) := acts_eval_hit 11 rfl hd.1 (by rw [HSZ]; rfl) (by kernel_rfl)
      have q41 : (acts [(0, 31, .pointer (some ⟨p, 0, none⟩)), (1, 32, .int .i64 n), (2, 33, .slice (some ⟨e1, 0, none⟩) 0 0), (3, 34, .pointer (some ⟨p, 1, none⟩)), (4, 35, .slice A h.length a), (5, 36, v1), (6, 37, .slice (some ⟨e2, 0, none⟩) 0 0), (7, 38, .pointer (some ⟨p, 2, none⟩)), (8, 39, .slice D b.length d), (9, 40, v2), (10, 41, .agg #[.int .i64 n, v1, v2]), (11, 6, .pointer (some ⟨p6, 0, none⟩))] f a0).eval (.tmp 41) = .agg #[.int .i64 n, v1, v2] := acts_eval_hit 10 rfl hd.2.1 (by rw [HSZ]; rfl) (by kernel_rfl)
      (have z10 := hd.2.1; have z5 := hh.2.2.1 z10; have z9 := hh.2.2.2.1 z10; have z2 := hh.1 z5; have z6 := hh.2.1 z9; simp only [z2, z6, z5, z9, hd.1, h12, cond_true, cond_false] at S; obtain ⟨_, _, hu1, -, -, -⟩ := (opt_iff.1 S).ownSlice; obtain ⟨_, _, hu2, -, -, -⟩ := (opt_iff.1 S.swap).ownSlice; refine wpOp_list rfl ?_; refine st_store rfl _ _ _ rfl _ _ q6 q41 _ _ (opt_iff.1 S.pull2) rfl rfl (by simp [Value.oneCell', hu1, hu2]) fun W' S' => ?_; refine ⟨e1, v1, e2, v2, p6, ⟨hh.1, hh.2.1, hh.2.2.1, hh.2.2.2.1, fun _ => z10, fun _ => hd.1⟩, (acts_none 12 (by kernel_rfl)).symm, ?_⟩; have S5 := (opt_iff.2 S').push2; show Sat (Gnd.of w) W' (opt (f 2) (ownS _ _ (cond (f 5) _ _) (cond (f 5) _ _) (cond (f 5) _ _)) :: opt (f 6) (ownS _ _ (cond (f 9) _ _) (cond (f 9) _ _) (cond (f 9) _ _)) :: opt (f 11) _ :: _); rw [z2, z6, z5, z9, hd.1]; exact S5)
  rintro a' W ⟨e1, v1, e2, v2, y, -, rfl, S5⟩
  subst ha0
  simp only [acts, if_true, Act.put, List.setIfInBounds_toArray, List.set_cons_succ, List.set_cons_zero]
  have S6 : Sat (Gnd.of w) W [ownS 5 1 v1 h.length (h.map byteV), ownS 5 1 v2 b.length (b.map byteV), blk y #[.int .i64 n, v1, v2] 24, blk r #[.int .i64 n, .string (bstr h), .string (bstr b)] 31, blk p #[.int .i64 n, .slice A h.length a, .slice D b.length d] 24, quA q [[]] 1000 5] := (opt_iff.1 ((opt_iff.1 ((opt_iff.1 S5).re [1, 2, 0])).re [1, 2, 0])).re [1, 2, 0]
  obtain ⟨V1, c1, rfl, hv1, -, -⟩ := S6.ownForm
  obtain ⟨V2, c2, rfl, hv2, -, -⟩ := S6.swap.ownForm
  clear S5 S4 HSZ E1
  have S7 := S6.re [5, 0, 1, 2, 3, 4]
  have d0 := (S6.re [2, 0, 1]).cell 0
  have d1 := (S6.re [2, 0, 1]).cell 1
  have d2 := (S6.re [2, 0, 1]).cell 2
  have hw0 : QWf [[]] 1000 5 := ⟨by decide, by decide, by decide, by decide, by decide, by decide, by simp [qsz]⟩
  have hput := qu_put S7 hw0 0 n (.slice V1 h.length c1) (.slice V2 b.length c2) h b (fun W SW => own_slb SW) (fun W SW => own_slb SW.swap) (by omega) (by omega)
  have hpq : putQ [[]] 1000 5 0 (n, h, b) = ([[(n, h, b)]], 0) := by
    unfold putQ
    rw [if_neg (by simp), if_neg (by simp [qAt, qsz, isz]; omega)]
    rfl
  rw [hpq] at hput
  clear S6 S7
  go_wp2_with fail
  (with_reducible refine hput.mono ?_)
  clear hput d0 d1 d2
  rintro e w4 ⟨G1, hG1, rfl, S8⟩
  have S9 : Sat G1 w4 [anyB (.slice V1 h.length c1) h.length, anyB (.slice V2 b.length c2) b.length, blk y #[.int .i64 n, .slice V1 h.length c1, .slice V2 b.length c2] 24, blk r #[.int .i64 n, .string (bstr h), .string (bstr b)] 31, blk p #[.int .i64 n, .slice A h.length a, .slice D b.length d] 24, quA q [[(n, h, b)]] 1000 5] := any_of ((any_of (S8.re [2, 1, 0])).re [1, 0, 3, 4, 5, 2])
  have y1 := (S9.re [2, 0, 1]).cell 1
  clear S8
  have HU1 : Hid (∀ {v : Value} {bs : List UInt8} {l : List Asrt} {W : World}, Sat G1 W (ownS 5 1 v bs.length (bs.map byteV) :: l) → SlB W.cell? v bs) := Lib.hid fun S => own_slb S
  have hwr : IntKind.i64.wrap ((h.length : Int) + b.length) = ((h.length + b.length : Nat) : Int) := by rw [IntWalk.i64_in _ (by omega)]; simp
  have HWR := Lib.hid hwr
  clear hwr HU1
  go_wp2_with fail
  go_loopw [57] (fun i wr => ∃ k : Nat, k ≤ h.length ∧ i = .int .i64 k ∧ Sat G1 wr [anyB (.slice V1 h.length c1) h.length, anyB (.slice V2 b.length c2) b.length, blk y #[.int .i64 n, .slice V1 h.length c1, .slice V2 b.length c2] 24, blk r #[.int .i64 n, .string (bstr h), .string (bstr b)] 31, blk p #[.int .i64 n, .slice A h.length a, .slice D b.length d] 24, quA q [[(n, h, b)]] 1000 5]) (fun i _ => h.length - (intOf i).toNat)
  case atStart => exact ⟨0, Nat.zero_le _, rfl, S9⟩
  case round =>
    obtain ⟨k, hk, rfl, S⟩ := hrel
    clear S9
    by_cases hlt : k < h.length
    · obtain ⟨g, cap, c, e0, hg1, hg2, hg3, hg4, hg5⟩ := any_cell S k hlt
      cases e0
      have hg6 := Nat.le_trans hg2 (show maxLen ≤ 9223372036854775807 by decide)
      have hc0 : wr.cell? ⟨g, k, none⟩ = some (.int .u8 c.toNat) := hg3
      have y1 := (S.re [2, 0, 1]).cell 1
      have S2 := hg5 (c + 1)
      rw [← byte_up] at S2
      have HS2 := Lib.hid (S2)
      clear hg2 hg3 hg5 S S2
      go_wp2_with fail
      go_roundw
      case rel => exact ⟨k + 1, by omega, by go_num, HS2.out⟩
      case measure => simp [intOf]; omega
    · obtain rfl : k = h.length := by omega
      have y1 := (S.re [2, 0, 1]).cell 2
      have S10 := S
      clear S
      go_wp2_with fail
      go_loopw [71] (fun i wr => ∃ k : Nat, k ≤ b.length ∧ i = .int .i64 k ∧ Sat G1 wr [anyB (.slice V1 h.length c1) h.length, anyB (.slice V2 b.length c2) b.length, blk y #[.int .i64 n, .slice V1 h.length c1, .slice V2 b.length c2] 24, blk r #[.int .i64 n, .string (bstr h), .string (bstr b)] 31, blk p #[.int .i64 n, .slice A h.length a, .slice D b.length d] 24, quA q [[(n, h, b)]] 1000 5]) (fun i _ => b.length - (intOf i).toNat)
      case atStart => exact ⟨0, Nat.zero_le _, rfl, S10⟩
      case round =>
        obtain ⟨k, hk, rfl, S⟩ := hrel
        clear S10
        by_cases hlt : k < b.length
        · obtain ⟨g, cap, c, e0, hg1, hg2, hg3, hg4, hg5⟩ := any_cell S.swap k hlt
          cases e0
          have hg6 := Nat.le_trans hg2 (show maxLen ≤ 9223372036854775807 by decide)
          have hc0 : wr.cell? ⟨g, k, none⟩ = some (.int .u8 c.toNat) := hg3
          have y1 := (S.re [2, 0, 1]).cell 2
          have S2 := hg5 (c + 1)
          rw [← byte_up] at S2
          have HS2 := Lib.hid (S2.swap)
          clear hg2 hg3 hg5 S S2
          go_wp2_with fail
          go_roundw
          case rel => exact ⟨k + 1, by omega, by go_num, HS2.out⟩
          case measure => simp [intOf]; omega
        · obtain rfl : k = b.length := by omega
          have hw1 : QWf [[(n, h, b)]] 1000 5 := ⟨by simp, by simp, by decide, by decide, by decide, by decide, by simp [qsz, isz]; omega⟩
          have hfst := qu_first (S.re [5, 0, 1, 2, 3, 4]) hw1 0 (n, h, b) [] rfl
          change Calls _ _ #[_, .int .i64 0] _ _ at hfst
          clear S
          go_wp2_with fail
          (with_reducible refine hfst.mono ?_)
          clear hfst
          rintro e w5 ⟨u1, u2, rfl, S2⟩
          obtain ⟨U1, k1, rfl, -, -, -⟩ := S2.ownForm
          obtain ⟨U2, k2, rfl, -, -, -⟩ := S2.swap.ownForm
          have S3 := S2.newBlk #[.int .i64 n, .slice U1 h.length k1, .slice U2 b.length k2] 24
          go_upto_region 19 with fail
          generalize w5.heap.size = z at *
          have S4 : Sat G1 _ [ownS 5 1 (.slice U1 h.length k1) h.length (h.map byteV), ownS 5 1 (.slice U2 b.length k2) b.length (b.map byteV), blk z #[.int .i64 n, .slice U1 h.length k1, .slice U2 b.length k2] 24, blk r #[.int .i64 n, .string (bstr h), .string (bstr b)] 31, blk p #[.int .i64 n, .slice A h.length a, .slice D b.length d] 24, quA q [[(n, h, b)]] 1000 5] := (S3.re [1, 2, 0, 7, 8, 3, 4, 5, 6]).map fun _ hh => sepAll_fst6 hh
          refine wp_world S4 fun w6 S5 => ?_
          clear S2 S3 S4
          refine wp_act fun a0 ha0 => ?_
          have HSZ : a0.tmps.size = 137 := by rw [ha0]; rfl
          have E1 : a0.eval (.tmp 1) = .pointer (some ⟨p, 0, none⟩) := by rw [ha0]; rfl
          have E5 : a0.eval (.tmp 5) = .pointer (some ⟨r, 0, none⟩) := by rw [ha0]; rfl
          have E9 : a0.eval (.tmp 9) = .pointer (some ⟨z, 0, none⟩) := by rw [ha0]; rfl
          have E10 : a0.eval (.tmp 10) = .int .i64 0 := by rw [ha0]; rfl
          refine wp_region_sat (by kernel_rfl) 20 (by kernel_rfl) [[], [0], [1], [2], [3, 2, 2], [2], [4, 5, 2], [2, 6], [7, 4], [8], [9, 8, 8], [8], [11, 8], [12, 8], [8], [14, 8], [15, 8], [13, 16, 8], [10, 17, 8], [8, 18]] (by kernel_rfl) (by kernel_rfl) [(0, 87, .int .i64 0), (1, 88, .bool false), (2, 89, .bool false), (3, 90, .agg #[.int .i64 n, .slice U1 h.length k1, .slice U2 b.length k2]), (4, 91, .agg #[.int .i64 n, .string (bstr h), .string (bstr b)]), (5, 92, .agg #[.int .i64 n, .string (bstr h), .string (bstr b)]), (6, 93, .bool false), (7, 94, .bool false), (8, 95, .bool false), (9, 96, .agg #[.int .i64 n, .slice A h.length a, .slice D b.length d]), (10, 97, .int .i64 ((h.length + b.length : Nat) : Int)), (11, 98, .pointer (some ⟨r, 1, none⟩)), (12, 99, .string (bstr h)), (13, 100, .int .i64 h.length), (14, 101, .pointer (some ⟨r, 2, none⟩)), (15, 102, .string (bstr b)), (16, 103, .int .i64 b.length), (17, 104, .int .i64 ((h.length + b.length : Nat) : Int)), (18, 105, .bool false), (19, 106, .bool false)] (fun _ => [ownS 5 1 (.slice U1 h.length k1) h.length (h.map byteV), ownS 5 1 (.slice U2 b.length k2) b.length (b.map byteV), blk z #[.int .i64 n, .slice U1 h.length k1, .slice U2 b.length k2] 24, blk r #[.int .i64 n, .string (bstr h), .string (bstr b)] 31, blk p #[.int .i64 n, .slice A h.length a, .slice D b.length d] 24, quA q [[(n, h, b)]] 1000 5]) (by kernel_rfl) S5 ?_ ?_
          · refine ⟨?_, ?_, ?_, ?_, ?_, ?_, ?_, ?_, ?_, ?_, ?_, ?_, ?_, ?_, ?_, ?_, ?_, ?_, ?_, ?_, trivial⟩
            · intro f W h0 hd S
              refine wpOp_run (v := .int .i64 0) rfl rfl (fun ρ hρ => ?_) ⟨(acts_some 0 rfl (by kernel_rfl) (by kernel_rfl)).symm, S⟩
              have e0 : ρ (.tmp 10) = .int .i64 0 := by rw [hρ]; exact (acts_eval_tmp 10 (by kernel_rfl)).trans E10
              clear hρ
              go_simp
            · intro f W h1 hd S
              refine wpOp_run (v := .bool false) rfl rfl (fun ρ hρ => ?_) ⟨(acts_some 1 rfl (by kernel_rfl) (by kernel_rfl)).symm, S⟩
              have e0 : ρ (.tmp 87) = .int .i64 0 := by rw [hρ]; exact acts_eval_hit 0 rfl hd.1 (by rw [HSZ]; rfl) (by kernel_rfl)
              have ec : ∀ v, ρ (.const v) = v := by rw [hρ]; exact fun _ => rfl
              clear hρ
              go_simp
            · intro f W h2 hd S
              refine wpOp_run (v := .bool false) rfl rfl (fun ρ hρ => ?_) ⟨(acts_some 2 rfl (by kernel_rfl) (by kernel_rfl)).symm, S⟩
              have e0 : ρ (.tmp 88) = .bool false := by rw [hρ]; exact acts_eval_hit 1 rfl hd.1 (by rw [HSZ]; rfl) (by kernel_rfl)
              clear hρ
              go_simp
            · intro f W h3 hd S
              refine wpOp_runG (v := .agg #[.int .i64 n, .slice U1 h.length k1, .slice U2 b.length k2]) rfl ?_ (fun ρ hρ => ?_) ⟨(acts_some 3 rfl (by kernel_rfl) (by kernel_rfl)).symm, S⟩
              · exact wanted_hit (t := 89) rfl rfl (acts_eval_hit 2 rfl hd.1 (by rw [HSZ]; rfl) (by kernel_rfl))
              · skip
                have e0 : ρ (.tmp 9) = .pointer (some ⟨z, 0, none⟩) := by rw [hρ]; exact (acts_eval_tmp 9 (by kernel_rfl)).trans E9
                clear hρ
                (have hz0 := S.pull2.cell 0; have hz1 := S.pull2.cell 1; have hz2 := S.pull2.cell 2)
                go_simp
            · intro f W h4 hd S
              refine wpOp_callG rfl (wanted_hit (t := 89) rfl rfl (acts_eval_hit 2 rfl hd.2.1 (by rw [HSZ]; rfl) (by kernel_rfl))) (fun ρ hρ => ?_) (law_ref S n (.slice U1 h.length k1) (.slice U2 b.length k2) h b (own_hyp h) (own_hyp2 b)) ?_
              · skip
                have e0 : ρ (.tmp 90) = .agg #[.int .i64 n, .slice U1 h.length k1, .slice U2 b.length k2] := by rw [hρ]; exact acts_eval_hit 3 rfl hd.1 (by rw [HSZ]; rfl) (by kernel_rfl)
                have ef : ρ (.func 9) = .func (.func 9) #[] #[] := by rw [hρ]; rfl
                clear hρ
                go_simp
              · (rintro x W' ⟨rfl, S'⟩; exact ⟨_, rfl, (acts_some 4 rfl (by kernel_rfl) (by kernel_rfl)).symm, S'⟩)
            · intro f W h5 hd S
              refine wpOp_runG (v := .agg #[.int .i64 n, .string (bstr h), .string (bstr b)]) rfl ?_ (fun ρ hρ => ?_) ⟨(acts_some 5 rfl (by kernel_rfl) (by kernel_rfl)).symm, S⟩
              · exact wanted_hit (t := 89) rfl rfl (acts_eval_hit 2 rfl hd.1 (by rw [HSZ]; rfl) (by kernel_rfl))
              · skip
                have e0 : ρ (.tmp 5) = .pointer (some ⟨r, 0, none⟩) := by rw [hρ]; exact (acts_eval_tmp 5 (by kernel_rfl)).trans E5
                clear hρ
                (have hz0 := S.pull3.cell 0; have hz1 := S.pull3.cell 1; have hz2 := S.pull3.cell 2)
                go_simp
            · intro f W h6 hd S
              refine wpOp_runG (v := .bool false) rfl ?_ (fun ρ hρ => ?_) ⟨(acts_some 6 rfl (by kernel_rfl) (by kernel_rfl)).symm, S⟩
              · exact wanted_hit (t := 89) rfl rfl (acts_eval_hit 2 rfl hd.2.2.1 (by rw [HSZ]; rfl) (by kernel_rfl))
              · skip
                have e0 : ρ (.tmp 91) = .agg #[.int .i64 n, .string (bstr h), .string (bstr b)] := by rw [hρ]; exact acts_eval_hit 4 rfl hd.1 (by rw [HSZ]; rfl) (by kernel_rfl)
                have e1 : ρ (.tmp 92) = .agg #[.int .i64 n, .string (bstr h), .string (bstr b)] := by rw [hρ]; exact acts_eval_hit 5 rfl hd.2.1 (by rw [HSZ]; rfl) (by kernel_rfl)
                clear hρ
                go_simp
            · intro f W h7 hd S
              refine wpOp_run (v := .bool false) rfl rfl (fun ρ hρ => ?_) ⟨(acts_some 7 rfl (by kernel_rfl) (by kernel_rfl)).symm, S⟩
              have e0 : ρ (.tmp 89) = .bool false := by rw [hρ]; exact acts_eval_hit 2 rfl hd.1 (by rw [HSZ]; rfl) (by kernel_rfl)
              have e1 : ρ (.tmp 93) = .bool false := by rw [hρ]; exact acts_eval_hit 6 rfl hd.2.1 (by rw [HSZ]; rfl) (by kernel_rfl)
              have ec : ∀ v, ρ (.const v) = v := by rw [hρ]; exact fun _ => rfl
              clear hρ
              go_simp
            · intro f W h8 hd S
              refine wpOp_run (v := .bool false) rfl rfl (fun ρ hρ => ?_) ⟨(acts_some 8 rfl (by kernel_rfl) (by kernel_rfl)).symm, S⟩
              have e0 : ρ (.tmp 94) = .bool false := by rw [hρ]; exact acts_eval_hit 7 rfl hd.1 (by rw [HSZ]; rfl) (by kernel_rfl)
              clear hρ
              go_simp
            · intro f W h9 hd S
              refine wpOp_runG (v := .agg #[.int .i64 n, .slice A h.length a, .slice D b.length d]) rfl ?_ (fun ρ hρ => ?_) ⟨(acts_some 9 rfl (by kernel_rfl) (by kernel_rfl)).symm, S⟩
              · exact wanted_hit (t := 95) rfl rfl (acts_eval_hit 8 rfl hd.1 (by rw [HSZ]; rfl) (by kernel_rfl))
              · skip
                have e0 : ρ (.tmp 1) = .pointer (some ⟨p, 0, none⟩) := by rw [hρ]; exact (acts_eval_tmp 1 (by kernel_rfl)).trans E1
                clear hρ
                (have hz0 := (Sat.mid [_, _, _, _] S).cell 0; have hz1 := (Sat.mid [_, _, _, _] S).cell 1; have hz2 := (Sat.mid [_, _, _, _] S).cell 2)
                go_simp
            · intro f W h10 hd S
              refine wpOp_callG rfl (wanted_hit (t := 95) rfl rfl (acts_eval_hit 8 rfl hd.2.1 (by rw [HSZ]; rfl) (by kernel_rfl))) (fun ρ hρ => ?_) (it_size S n A D h.length a b.length d (by omega)) ?_
              · skip
                have e0 : ρ (.tmp 96) = .agg #[.int .i64 n, .slice A h.length a, .slice D b.length d] := by rw [hρ]; exact acts_eval_hit 9 rfl hd.1 (by rw [HSZ]; rfl) (by kernel_rfl)
                have ef : ρ (.func 12) = .func (.func 12) #[] #[] := by rw [hρ]; rfl
                clear hρ
                go_simp
              · (rintro x W' ⟨rfl, S'⟩; exact ⟨_, rfl, (acts_some 10 rfl (by kernel_rfl) (by kernel_rfl)).symm, S'⟩)
            · intro f W h11 hd S
              refine wpOp_runG (v := .pointer (some ⟨r, 1, none⟩)) rfl ?_ (fun ρ hρ => ?_) ⟨(acts_some 11 rfl (by kernel_rfl) (by kernel_rfl)).symm, S⟩
              · exact wanted_hit (t := 95) rfl rfl (acts_eval_hit 8 rfl hd.1 (by rw [HSZ]; rfl) (by kernel_rfl))
              · skip
                have e0 : ρ (.tmp 5) = .pointer (some ⟨r, 0, none⟩) := by rw [hρ]; exact (acts_eval_tmp 5 (by kernel_rfl)).trans E5
                clear hρ
                go_simp
            · intro f W h12 hd S
              refine wpOp_runG (v := .string (bstr h)) rfl ?_ (fun ρ hρ => ?_) ⟨(acts_some 12 rfl (by kernel_rfl) (by kernel_rfl)).symm, S⟩
              · exact wanted_hit (t := 95) rfl rfl (acts_eval_hit 8 rfl hd.2.1 (by rw [HSZ]; rfl) (by kernel_rfl))
              · skip
                have e0 : ρ (.tmp 98) = .pointer (some ⟨r, 1, none⟩) := by rw [hρ]; exact acts_eval_hit 11 rfl hd.1 (by rw [HSZ]; rfl) (by kernel_rfl)
                clear hρ
                (have hz1 := S.pull3.cell 1)
                go_simp
            · intro f W h13 hd S
              refine wpOp_runG (v := .int .i64 h.length) rfl ?_ (fun ρ hρ => ?_) ⟨(acts_some 13 rfl (by kernel_rfl) (by kernel_rfl)).symm, S⟩
              · exact wanted_hit (t := 95) rfl rfl (acts_eval_hit 8 rfl hd.2.1 (by rw [HSZ]; rfl) (by kernel_rfl))
              · skip
                have e0 : ρ (.tmp 99) = .string (bstr h) := by rw [hρ]; exact acts_eval_hit 12 rfl hd.1 (by rw [HSZ]; rfl) (by kernel_rfl)
                clear hρ
                (have hbz := bstr_size h)
                go_simp
            · intro f W h14 hd S
              refine wpOp_runG (v := .pointer (some ⟨r, 2, none⟩)) rfl ?_ (fun ρ hρ => ?_) ⟨(acts_some 14 rfl (by kernel_rfl) (by kernel_rfl)).symm, S⟩
              · exact wanted_hit (t := 95) rfl rfl (acts_eval_hit 8 rfl hd.1 (by rw [HSZ]; rfl) (by kernel_rfl))
              · skip
                have e0 : ρ (.tmp 5) = .pointer (some ⟨r, 0, none⟩) := by rw [hρ]; exact (acts_eval_tmp 5 (by kernel_rfl)).trans E5
                clear hρ
                go_simp
            · intro f W h15 hd S
              refine wpOp_runG (v := .string (bstr b)) rfl ?_ (fun ρ hρ => ?_) ⟨(acts_some 15 rfl (by kernel_rfl) (by kernel_rfl)).symm, S⟩
              · exact wanted_hit (t := 95) rfl rfl (acts_eval_hit 8 rfl hd.2.1 (by rw [HSZ]; rfl) (by kernel_rfl))
              · skip
                have e0 : ρ (.tmp 101) = .pointer (some ⟨r, 2, none⟩) := by rw [hρ]; exact acts_eval_hit 14 rfl hd.1 (by rw [HSZ]; rfl) (by kernel_rfl)
                clear hρ
                (have hz1 := S.pull3.cell 2)
                go_simp
            · intro f W h16 hd S
              refine wpOp_runG (v := .int .i64 b.length) rfl ?_ (fun ρ hρ => ?_) ⟨(acts_some 16 rfl (by kernel_rfl) (by kernel_rfl)).symm, S⟩
              · exact wanted_hit (t := 95) rfl rfl (acts_eval_hit 8 rfl hd.2.1 (by rw [HSZ]; rfl) (by kernel_rfl))
              · skip
                have e0 : ρ (.tmp 102) = .string (bstr b) := by rw [hρ]; exact acts_eval_hit 15 rfl hd.1 (by rw [HSZ]; rfl) (by kernel_rfl)
                clear hρ
                (have hbz := bstr_size b)
                go_simp
            · intro f W h17 hd S
              refine wpOp_runG (v := .int .i64 ((h.length + b.length : Nat) : Int)) rfl ?_ (fun ρ hρ => ?_) ⟨(acts_some 17 rfl (by kernel_rfl) (by kernel_rfl)).symm, S⟩
              · exact wanted_hit (t := 95) rfl rfl (acts_eval_hit 8 rfl hd.2.2.1 (by rw [HSZ]; rfl) (by kernel_rfl))
              · skip
                have e0 : ρ (.tmp 100) = .int .i64 h.length := by rw [hρ]; exact acts_eval_hit 13 rfl hd.1 (by rw [HSZ]; rfl) (by kernel_rfl)
                have e1 : ρ (.tmp 103) = .int .i64 b.length := by rw [hρ]; exact acts_eval_hit 16 rfl hd.2.1 (by rw [HSZ]; rfl) (by kernel_rfl)
                clear hρ
                (have hwr := HWR.out)
                go_simp
            · intro f W h18 hd S
              refine wpOp_runG (v := .bool false) rfl ?_ (fun ρ hρ => ?_) ⟨(acts_some 18 rfl (by kernel_rfl) (by kernel_rfl)).symm, S⟩
              · exact wanted_hit (t := 95) rfl rfl (acts_eval_hit 8 rfl hd.2.2.1 (by rw [HSZ]; rfl) (by kernel_rfl))
              · skip
                have e0 : ρ (.tmp 97) = .int .i64 ((h.length + b.length : Nat) : Int) := by rw [hρ]; exact acts_eval_hit 10 rfl hd.1 (by rw [HSZ]; rfl) (by kernel_rfl)
                have e1 : ρ (.tmp 104) = .int .i64 ((h.length + b.length : Nat) : Int) := by rw [hρ]; exact acts_eval_hit 17 rfl hd.2.1 (by rw [HSZ]; rfl) (by kernel_rfl)
                clear hρ
                go_simp
            · intro f W h19 hd S
              refine wpOp_run (v := .bool false) rfl rfl (fun ρ hρ => ?_) ⟨(acts_some 19 rfl (by kernel_rfl) (by kernel_rfl)).symm, S⟩
              have e0 : ρ (.tmp 95) = .bool false := by rw [hρ]; exact acts_eval_hit 8 rfl hd.1 (by rw [HSZ]; rfl) (by kernel_rfl)
              have e1 : ρ (.tmp 105) = .bool false := by rw [hρ]; exact acts_eval_hit 18 rfl hd.2.1 (by rw [HSZ]; rfl) (by kernel_rfl)
              have ec : ∀ v, ρ (.const v) = v := by rw [hρ]; exact fun _ => rfl
              clear hρ
              go_simp
          intro W S6
          subst ha0
          simp only [acts, if_true, Act.put, List.setIfInBounds_toArray, List.set_cons_succ, List.set_cons_zero]
          have S7 : Sat G1 W [anyB (.slice U1 h.length k1) h.length, blk z #[.int .i64 n, .slice U1 h.length k1, .slice U2 b.length k2] 24, anyB (.slice U2 b.length k2) b.length, blk r #[.int .i64 n, .string (bstr h), .string (bstr b)] 31, blk p #[.int .i64 n, .slice A h.length a, .slice D b.length d] 24, quA q [[(n, h, b)]] 1000 5] := (any_of ((any_of (S6.re [1, 0, 2])).re [1, 2, 0]))
          clear S6 S5 HSZ E1 E5 E9 E10
          have y1 := S7.swap.cell 1
          go_wp2_with fail
          go_loopw [110] (fun i wr => ∃ k : Nat, k ≤ h.length ∧ i = .int .i64 k ∧ Sat G1 wr [anyB (.slice U1 h.length k1) h.length, blk z #[.int .i64 n, .slice U1 h.length k1, .slice U2 b.length k2] 24, anyB (.slice U2 b.length k2) b.length, blk r #[.int .i64 n, .string (bstr h), .string (bstr b)] 31, blk p #[.int .i64 n, .slice A h.length a, .slice D b.length d] 24, quA q [[(n, h, b)]] 1000 5]) (fun i _ => h.length - (intOf i).toNat)
          case atStart => exact ⟨0, Nat.zero_le _, rfl, S7⟩
          case round =>
            obtain ⟨k, hk, rfl, S⟩ := hrel
            clear S7
            by_cases hlt : k < h.length
            · obtain ⟨g, cap, c, e0, hg1, hg2, hg3, hg4, hg5⟩ := any_cell S k hlt
              cases e0
              have hg6 := Nat.le_trans hg2 (show maxLen ≤ 9223372036854775807 by decide)
              have hc0 : wr.cell? ⟨g, k, none⟩ = some (.int .u8 c.toNat) := hg3
              have y1 := S.swap.cell 1
              have S2 := hg5 (c + 1)
              rw [← byte_up] at S2
              have HS2 := Lib.hid (S2)
              clear hg2 hg3 hg5 S S2
              go_wp2_with fail
              go_roundw
              case rel => exact ⟨k + 1, by omega, by go_num, HS2.out⟩
              case measure => simp [intOf]; omega
            · obtain rfl : k = h.length := by omega
              have hpop := qu_pop (S.re [5, 0, 1, 2, 3, 4]) hw1 0 (n, h, b) [] rfl
              change Calls _ _ #[_, .int .i64 0] _ _ at hpop
              clear S
              go_wp2_with fail
              (with_reducible refine hpop.mono ?_)
              clear hpop
              rintro e w6 ⟨u3, u4, rfl, S8⟩
              obtain ⟨U3, k3, rfl, -, -, -⟩ := S8.ownForm
              obtain ⟨U4, k4, rfl, -, -, -⟩ := S8.swap.ownForm
              have S9 := S8.newBlk #[.int .i64 n, .slice U3 h.length k3, .slice U4 b.length k4] 24
              go_upto_region 27 with fail
              generalize w6.heap.size = zz at *
              have S10 : Sat G1 (w6.alloc (.cells #[.int .i64 n, .slice U3 h.length k3, .slice U4 b.length k4] 24)) [ownS 5 1 (.slice U3 h.length k3) h.length (h.map byteV), ownS 5 1 (.slice U4 b.length k4) b.length (b.map byteV), blk zz #[.int .i64 n, .slice U3 h.length k3, .slice U4 b.length k4] 24, blk r #[.int .i64 n, .string (bstr h), .string (bstr b)] 31] := by
                have T := S9.re [1, 2, 0, 7, 3, 4, 5, 6, 8]
                exact Sat.map (fun _ hh => sepAll_fst4 hh) T
              refine wp_world S10 fun w7 S11 => ?_
              clear S8 S9 S10
              refine wp_act fun a0 ha0 => ?_
              have HSZ : a0.tmps.size = 137 := by rw [ha0]; rfl
              have E5 : a0.eval (.tmp 5) = .pointer (some ⟨r, 0, none⟩) := by rw [ha0]; rfl
              have E12 : a0.eval (.tmp 12) = .pointer (some ⟨zz, 0, none⟩) := by rw [ha0]; rfl
              have E13 : a0.eval (.tmp 13) = .int .i64 0 := by rw [ha0]; rfl
              refine wp_region_J (by kernel_rfl) 12 (by kernel_rfl) [[], [0], [1], [2], [3, 2, 2], [2], [4, 5, 2], [2, 6], [7, 4], [8, 8], [8, 9], [10, 9, 0, 1, 2, 3, 4, 5, 6, 7, 8, 9, 10]] (by kernel_rfl) (by kernel_rfl) (fun f a' W => ∃ G2, G1.le G2 ∧ a' = acts [(0, 126, .int .i64 0), (1, 127, .bool true), (2, 128, .bool true), (3, 129, .agg #[.int .i64 n, .slice U3 h.length k3, .slice U4 b.length k4]), (4, 130, .agg #[.int .i64 n, .string (bstr h), .string (bstr b)]), (5, 131, .agg #[.int .i64 n, .string (bstr h), .string (bstr b)]), (6, 132, .bool true), (7, 133, .bool true), (8, 134, .bool true), (9, 135, .bool true), (10, 136, .bool true), (11, 2, .bool true)] f a0 ∧ Sat G2 W [ownS 5 1 (.slice U3 h.length k3) h.length (h.map byteV), ownS 5 1 (.slice U4 b.length k4) b.length (b.map byteV), blk zz #[.int .i64 n, .slice U3 h.length k3, .slice U4 b.length k4] 24, blk r #[.int .i64 n, .string (bstr h), .string (bstr b)] 31]) ?_ ?_ ?_
              · exact ⟨G1, Gnd.le.rfl', rfl, S11.drew⟩
              · refine ⟨?_, ?_, ?_, ?_, ?_, ?_, ?_, ?_, ?_, ?_, ?_, ?_, trivial⟩
                · rintro f a' W h0 hd ⟨G2, hG2, rfl, S⟩
                  refine wpOp_run (v := .int .i64 0) rfl rfl (fun ρ hρ => ?_) ⟨G2, hG2, (acts_some 0 rfl (by kernel_rfl) (by kernel_rfl)).symm, S⟩
                  have e0 : ρ (.tmp 13) = .int .i64 0 := by rw [hρ]; exact (acts_eval_tmp 13 (by kernel_rfl)).trans E13
                  clear hρ
                  go_simp
                · rintro f a' W h1 hd ⟨G2, hG2, rfl, S⟩
                  refine wpOp_run (v := .bool true) rfl rfl (fun ρ hρ => ?_) ⟨G2, hG2, (acts_some 1 rfl (by kernel_rfl) (by kernel_rfl)).symm, S⟩
                  have e0 : ρ (.tmp 126) = .int .i64 0 := by rw [hρ]; exact acts_eval_hit 0 rfl hd.1 (by rw [HSZ]; rfl) (by kernel_rfl)
                  have ec : ∀ v, ρ (.const v) = v := by rw [hρ]; exact fun _ => rfl
                  clear hρ
                  go_simp
                · rintro f a' W h2 hd ⟨G2, hG2, rfl, S⟩
                  refine wpOp_run (v := .bool true) rfl rfl (fun ρ hρ => ?_) ⟨G2, hG2, (acts_some 2 rfl (by kernel_rfl) (by kernel_rfl)).symm, S⟩
                  have e0 : ρ (.tmp 127) = .bool true := by rw [hρ]; exact acts_eval_hit 1 rfl hd.1 (by rw [HSZ]; rfl) (by kernel_rfl)
                  clear hρ
                  go_simp
                · rintro f a' W h3 hd ⟨G2, hG2, rfl, S⟩
                  refine wpOp_runG (v := .agg #[.int .i64 n, .slice U3 h.length k3, .slice U4 b.length k4]) rfl ?_ (fun ρ hρ => ?_) ⟨G2, hG2, (acts_some 3 rfl (by kernel_rfl) (by kernel_rfl)).symm, S⟩
                  · exact wanted_hit (t := 128) rfl rfl (acts_eval_hit 2 rfl hd.1 (by rw [HSZ]; rfl) (by kernel_rfl))
                  · skip
                    have e0 : ρ (.tmp 12) = .pointer (some ⟨zz, 0, none⟩) := by rw [hρ]; exact (acts_eval_tmp 12 (by kernel_rfl)).trans E12
                    clear hρ
                    (have hz0 := S.pull2.cell 0; have hz1 := S.pull2.cell 1; have hz2 := S.pull2.cell 2)
                    go_simp
                · rintro f a' W h4 hd ⟨G2, hG2, rfl, S⟩
                  refine wpOp_callG rfl (wanted_hit (t := 128) rfl rfl (acts_eval_hit 2 rfl hd.2.1 (by rw [HSZ]; rfl) (by kernel_rfl))) (fun ρ hρ => ?_) (law_ref S n (.slice U3 h.length k3) (.slice U4 b.length k4) h b (own_hyp h) (own_hyp2 b)) ?_
                  · skip
                    have e0 : ρ (.tmp 129) = .agg #[.int .i64 n, .slice U3 h.length k3, .slice U4 b.length k4] := by rw [hρ]; exact acts_eval_hit 3 rfl hd.1 (by rw [HSZ]; rfl) (by kernel_rfl)
                    have ef : ρ (.func 9) = .func (.func 9) #[] #[] := by rw [hρ]; rfl
                    clear hρ
                    go_simp
                  · (rintro x W' ⟨rfl, S'⟩; exact ⟨_, rfl, G2, hG2, (acts_some 4 rfl (by kernel_rfl) (by kernel_rfl)).symm, S'⟩)
                · rintro f a' W h5 hd ⟨G2, hG2, rfl, S⟩
                  refine wpOp_runG (v := .agg #[.int .i64 n, .string (bstr h), .string (bstr b)]) rfl ?_ (fun ρ hρ => ?_) ⟨G2, hG2, (acts_some 5 rfl (by kernel_rfl) (by kernel_rfl)).symm, S⟩
                  · exact wanted_hit (t := 128) rfl rfl (acts_eval_hit 2 rfl hd.1 (by rw [HSZ]; rfl) (by kernel_rfl))
                  · skip
                    have e0 : ρ (.tmp 5) = .pointer (some ⟨r, 0, none⟩) := by rw [hρ]; exact (acts_eval_tmp 5 (by kernel_rfl)).trans E5
                    clear hρ
                    (have hz0 := S.pull3.cell 0; have hz1 := S.pull3.cell 1; have hz2 := S.pull3.cell 2)
                    go_simp
                · rintro f a' W h6 hd ⟨G2, hG2, rfl, S⟩
                  refine wpOp_runG (v := .bool true) rfl ?_ (fun ρ hρ => ?_) ⟨G2, hG2, (acts_some 6 rfl (by kernel_rfl) (by kernel_rfl)).symm, S⟩
                  · exact wanted_hit (t := 128) rfl rfl (acts_eval_hit 2 rfl hd.2.2.1 (by rw [HSZ]; rfl) (by kernel_rfl))
                  · skip
                    have e0 : ρ (.tmp 130) = .agg #[.int .i64 n, .string (bstr h), .string (bstr b)] := by rw [hρ]; exact acts_eval_hit 4 rfl hd.1 (by rw [HSZ]; rfl) (by kernel_rfl)
                    have e1 : ρ (.tmp 131) = .agg #[.int .i64 n, .string (bstr h), .string (bstr b)] := by rw [hρ]; exact acts_eval_hit 5 rfl hd.2.1 (by rw [HSZ]; rfl) (by kernel_rfl)
                    clear hρ
                    go_simp
                · rintro f a' W h7 hd ⟨G2, hG2, rfl, S⟩
                  refine wpOp_run (v := .bool true) rfl rfl (fun ρ hρ => ?_) ⟨G2, hG2, (acts_some 7 rfl (by kernel_rfl) (by kernel_rfl)).symm, S⟩
                  have e0 : ρ (.tmp 128) = .bool true := by rw [hρ]; exact acts_eval_hit 2 rfl hd.1 (by rw [HSZ]; rfl) (by kernel_rfl)
                  have e1 : ρ (.tmp 132) = .bool true := by rw [hρ]; exact acts_eval_hit 6 rfl hd.2.1 (by rw [HSZ]; rfl) (by kernel_rfl)
                  have ec : ∀ v, ρ (.const v) = v := by rw [hρ]; exact fun _ => rfl
                  clear hρ
                  go_simp
                · rintro f a' W h8 hd ⟨G2, hG2, rfl, S⟩
                  refine wpOp_run (v := .bool true) rfl rfl (fun ρ hρ => ?_) ⟨G2, hG2, (acts_some 8 rfl (by kernel_rfl) (by kernel_rfl)).symm, S⟩
                  have e0 : ρ (.tmp 133) = .bool true := by rw [hρ]; exact acts_eval_hit 7 rfl hd.1 (by rw [HSZ]; rfl) (by kernel_rfl)
                  clear hρ
                  go_simp
                · rintro f a' W h9 hd ⟨G2, hG2, rfl, S⟩
                  refine wpOp_callG rfl (wanted_hit (t := 134) rfl rfl (acts_eval_hit 8 rfl hd.1 (by rw [HSZ]; rfl) (by kernel_rfl))) (fun ρ hρ => ?_) (law_awake S) ?_
                  · skip
                    have ef : ρ (.func 7) = .func (.func 7) #[] #[] := by rw [hρ]; rfl
                    clear hρ
                    go_simp
                  · (rintro x W' ⟨rfl, G3, hG3, S'⟩; exact ⟨_, rfl, G3, hG2.trans hG3, (acts_some 9 rfl (by kernel_rfl) (by kernel_rfl)).symm, S'⟩)
                · rintro f a' W h10 hd ⟨G2, hG2, rfl, S⟩
                  refine wpOp_run (v := .bool true) rfl rfl (fun ρ hρ => ?_) ⟨G2, hG2, (acts_some 10 rfl (by kernel_rfl) (by kernel_rfl)).symm, S⟩
                  have e0 : ρ (.tmp 134) = .bool true := by rw [hρ]; exact acts_eval_hit 8 rfl hd.1 (by rw [HSZ]; rfl) (by kernel_rfl)
                  have e1 : ρ (.tmp 135) = .bool true := by rw [hρ]; exact acts_eval_hit 9 rfl hd.2.1 (by rw [HSZ]; rfl) (by kernel_rfl)
                  have ec : ∀ v, ρ (.const v) = v := by rw [hρ]; exact fun _ => rfl
                  clear hρ
                  go_simp
                · rintro f a' W h11 hd ⟨G2, hG2, rfl, S⟩
                  refine wpOp_run (v := .bool true) rfl rfl (fun ρ hρ => ?_) ⟨G2, hG2, (acts_some 11 rfl (by kernel_rfl) (by kernel_rfl)).symm, S⟩
                  have e0 : ρ (.tmp 136) = .bool true := by rw [hρ]; exact acts_eval_hit 10 rfl hd.1 (by rw [HSZ]; rfl) (by kernel_rfl)
                  clear hρ
                  go_simp
              rintro a' W ⟨G2, hG2, rfl, S12⟩
              subst ha0
              simp only [acts, if_true, Act.put, List.setIfInBounds_toArray, List.set_cons_succ, List.set_cons_zero]
              have HS := Lib.hid S12
              clear S12 S11 HSZ E5 E12 E13
              go_wp2_with fail
              exact hK.out _ _ ⟨rfl, HS.out.above (hG1.trans hG2)⟩

end Go.Proofs.Ytidaafpfkbfiaaa
