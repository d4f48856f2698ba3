/- The walk over reasm.Reasm.Feed. -/
import Derived.Test.YtjaikmkfpkooiaaRm
set_option linter.unusedSimpArgs false
set_option linter.unusedVariables false
namespace Go.Proofs.Ytjaikmkfpkooiaa
open Go.RowKit

def HH (f : Nat → Bool) : Prop := (f 6 = true → f 5 = true) ∧ (f 11 = true → f 6 = true) ∧ (f 12 = true → f 11 = true) ∧ (f 13 = true → f 11 = true) ∧ (f 14 = true → f 11 = true) ∧ (f 15 = true → f 11 = true) ∧ (f 16 = true → f 11 = true) ∧ (f 17 = true → f 11 = true) ∧ (f 18 = true → f 11 = true)
theorem HH.set {f : Nat → Bool} (h : HH f) (i : Nat) (hi : 12 ≤ i) (h11 : f 11 = true) : HH (upd f i) := by
  have e : ∀ j, j < 12 → upd f i j = f j := fun j hj => by
    unfold upd
    have : Nat.beq j i = false := by
      cases hb : Nat.beq j i with
      | false => rfl
      | true => have := Nat.eq_of_beq_eq_true hb; omega
    rw [this]; rfl
  unfold HH
  rw [e 5 (by omega), e 6 (by omega), e 11 (by omega)]
  exact ⟨h.1, h.2.1, fun _ => h11, fun _ => h11, fun _ => h11, fun _ => h11, fun _ => h11, fun _ => h11, fun _ => h11⟩
/-- What All told. -/
def FA (R : Hp) (most : Int) (cat : List UInt8) (x y : Value) (ee : Int) : Prop :=
  ∃ K, Eats cat most K ∧ ((headE (eat cat K) most = 16 ∧ ee = 0 ∧ RFr R x K cat ∧ SlB (cellR R) y (eat cat K)) ∨ (headE (eat cat K) most = 106 ∧ x = .slice none 0 0 ∧ y = .slice none 0 0 ∧ ee = 106))
theorem fa_of {R : Hp} {most : Int} {cat : List UInt8} {K : Nat} {e : Ending} (hE : Eats cat most K)
    (hr : (headE (eat cat K) most = 16 ∧ ∃ v1 v2, e = .returned (.tuple #[v1, v2, .int .i64 0]) ∧ RFr R v1 K cat ∧ SlB (cellR R) v2 (eat cat K)) ∨ (headE (eat cat K) most = 106 ∧ e = .returned (.tuple #[.slice none 0 0, .slice none 0 0, .int .i64 106]))) :
    ∃ x y ee, e = .returned (.tuple #[x, y, .int .i64 ee]) ∧ FA R most cat x y ee := by
  rcases hr with ⟨q1, v1, v2, rfl, q2, q3⟩ | ⟨q1, rfl⟩
  · exact ⟨_, _, _, rfl, K, hE, .inl ⟨q1, rfl, q2, q3⟩⟩
  · exact ⟨_, _, _, rfl, K, hE, .inr ⟨q1, rfl, rfl, rfl⟩⟩
/-- What Feed tells. -/
def FeedRes (R : Hp) (most : Int) (bs : List UInt8) (d : Bool) (b : List UInt8) (e : Ending) : Prop :=
  (d = true ∧ e = .returned (.tuple #[.slice none 0 0, .int .i64 25])) ∨
  (d = false ∧ ∃ K, Eats (bs ++ b) most K ∧ ((headE (eat (bs ++ b) K) most = 16 ∧ ∃ v1, e = .returned (.tuple #[v1, .int .i64 0]) ∧ RFr R v1 K (bs ++ b)) ∨ (headE (eat (bs ++ b) K) most = 106 ∧ e = .returned (.tuple #[.slice none 0 0, .int .i64 106]))))
theorem parts2 {G : Gnd} {w : World} {l : List Asrt} {b1 : Bool} {u v : Value} {g : Nat} {bs b : List UInt8} (S : Sat G w (opt b1 (blk g #[u, v] 29) :: l)) (h1 : b1 = true) (hu : SlB (cellR G.ro) u bs) (hv : SlB (cellR G.ro) v b) :
    ∀ i bs', [bs, b][i]? = some bs' → ∃ x, w.cell? ((⟨g, 0, none⟩ : Addr).add i) = some x ∧ SlB w.cell? x bs' := by
  subst h1
  have hc : ∀ i, w.cell? ((⟨g, 0, none⟩ : Addr).add i) = #[u, v][i]? := fun i => by
    have e : (⟨g, 0, none⟩ : Addr).add i = ⟨g, i, none⟩ := by unfold Addr.add; split <;> simp_all
    rw [e]; exact (opt_iff.1 S).cell i
  intro i bs' hi
  rcases i with _ | _ | i
  · cases hi; exact ⟨_, by rw [hc]; rfl, hu.sat S⟩
  · cases hi; exact ⟨_, by rw [hc]; rfl, hv.sat S⟩
  · simp at hi
set_option maxHeartbeats 4000000 in
set_option maxRecDepth 100000 in
theorem rm_feed {G : Gnd} {w : World} {l : List Asrt} {r : Nat} {most : Int} {bs : List UInt8} {d : Bool} (H : Sat G w (rmA r most bs d :: l)) (v : Value) (b : List UInt8) (hb : SlB (cellR G.ro) v b) (hl : bs.length + b.length ≤ 1000000000) :
    Calls Try.prog 10 #[.pointer (some ⟨r, 0, none⟩), v] w fun e w' => ∃ G', G.le G' ∧ Sat G' w' (rmA r most (rmFeed most (bs, d) b).1 (rmFeed most (bs, d) b).2 :: l) ∧ FeedRes G'.ro most bs d b e := by
  refine calls_any fun K hK => ?_
  obtain ⟨vr, hr, S⟩ := rm_iff.1 H
  cases d with
  | true =>
    have c2 : w.cell? ⟨r, 2, none⟩ = some (.bool true) := S.cell 2
    clear S
    go_enter Try.func10, Try.ntmps10
    go_wp2_with fail
    exact hK.out _ _ ⟨G, Gnd.le.rfl', H, .inl ⟨rfl, rfl⟩⟩
  | false =>
    obtain ⟨A, c, rfl, -, -, -⟩ := hr.form
    obtain ⟨B, cb, rfl, -, -, -⟩ := hb.form
    clear H
    have c2 : w.cell? ⟨r, 2, none⟩ = some (.bool false) := S.cell 2
    go_enter Try.func10, Try.ntmps10
    go_upto_region 3 with fail
    clear c2
    have hfl : [bs, b].flatten = bs ++ b := by simp
    refine wp_act fun a0 ha0 => ?_
    have HSZ : a0.tmps.size = 44 := by rw [ha0]; rfl
    have E0 : a0.eval (.tmp 0) = .pointer (some ⟨r, 0, none⟩) := by rw [ha0]; rfl
    have E1 : a0.eval (.tmp 1) = .slice B b.length cb := by rw [ha0]; rfl
    refine wp_region_J (by kernel_rfl) 19 (by kernel_rfl) [[], [0], [1], [2], [], [3, 4], [5], [], [7], [8], [9], [6, 10, 6], [11], [12], [12], [12], [13, 11, 0, 1, 2, 3, 4, 5, 6, 7, 8, 9, 10, 11, 12, 13], [14, 16, 0, 1, 2, 3, 4, 5, 6, 7, 8, 9, 10, 11, 12, 13, 14, 16], [15, 17, 0, 1, 2, 3, 4, 5, 6, 7, 8, 9, 10, 11, 12, 13, 14, 15, 16, 17]] (by kernel_rfl) (by kernel_rfl) (fun f a' W => ∃ G1 g u20 x y ee, G.le G1 ∧ HH f ∧ (f 6 = true → SlB (Go.Proofs.Ytjaikmkfpkooiaa.cellR G1.ro) u20 (bs ++ b)) ∧ (f 11 = true → FA G1.ro most (bs ++ b) x y ee) ∧ a' = acts [(0, 14, .pointer (some ⟨r, 0, none⟩)), (1, 15, .pointer (some ⟨r, 0, none⟩)), (2, 16, .pointer (some ⟨r, 1, none⟩)), (3, 17, .slice A bs.length c), (4, 18, .slice B b.length cb), (5, 19, .slice (some ⟨g, 0, none⟩) 2 2), (6, 20, u20), (7, 21, .pointer (some ⟨r, 0, none⟩)), (8, 22, .pointer (some ⟨r, 0, none⟩)), (9, 23, .pointer (some ⟨r, 0, none⟩)), (10, 24, .int .i64 most), (11, 25, .tuple #[x, y, .int .i64 ee]), (12, 13, .tuple #[x, y, .int .i64 ee]), (13, 26, x), (14, 27, y), (15, 28, .int .i64 ee), (16, 6, x), (17, 7, y), (18, 8, .int .i64 ee)] f a0 ∧ Sat G1 W (opt (f 5) (blk g #[.slice A bs.length c, .slice B b.length cb] 29) :: blk r #[.int .i64 most, .slice A bs.length c, .bool false] 48 :: l)) ?_ ?_ ?_
    · exact ⟨G, 0, undef, undef, undef, 0, Gnd.le.rfl', (by unfold HH; decide), fun h => absurd h (by decide), fun h => absurd h (by decide), rfl, S.drew.opt0⟩
    · refine ⟨?_, ?_, ?_, ?_, ?_, ?_, ?_, ?_, ?_, ?_, ?_, ?_, ?_, ?_, ?_, ?_, ?_, ?_, ?_, trivial⟩
      · rintro f a' W h0 hd ⟨G1, g, u20, x, y, ee, hG1, hh, hu, hf, rfl, S⟩
        refine wpOp_run (v := .pointer (some ⟨r, 0, none⟩)) rfl rfl (fun ρ hρ => ?_) ⟨G1, g, u20, x, y, ee, hG1, hh, hu, hf, (acts_some 0 rfl (by kernel_rfl) (by kernel_rfl)).symm, S⟩
        have e0 : ρ (.tmp 0) = .pointer (some ⟨r, 0, none⟩) := by rw [hρ]; exact (acts_eval_tmp 0 (by kernel_rfl)).trans E0
        clear hρ
        go_simp
      · rintro f a' W h1 hd ⟨G1, g, u20, x, y, ee, hG1, hh, hu, hf, rfl, S⟩
        refine wpOp_run (v := .pointer (some ⟨r, 0, none⟩)) rfl rfl (fun ρ hρ => ?_) ⟨G1, g, u20, x, y, ee, hG1, hh, hu, hf, (acts_some 1 rfl (by kernel_rfl) (by kernel_rfl)).symm, S⟩
        have e0 : ρ (.tmp 14) = .pointer (some ⟨r, 0, none⟩) := by rw [hρ]; exact acts_eval_hit 0 rfl hd.1 (by rw [HSZ]; rfl) (by kernel_rfl)
        clear hρ
        go_simp
      · rintro f a' W h2 hd ⟨G1, g, u20, x, y, ee, hG1, hh, hu, hf, rfl, S⟩
        refine wpOp_run (v := .pointer (some ⟨r, 1, none⟩)) rfl rfl (fun ρ hρ => ?_) ⟨G1, g, u20, x, y, ee, hG1, hh, hu, hf, (acts_some 2 rfl (by kernel_rfl) (by kernel_rfl)).symm, S⟩
        have e0 : ρ (.tmp 15) = .pointer (some ⟨r, 0, none⟩) := by rw [hρ]; exact acts_eval_hit 1 rfl hd.1 (by rw [HSZ]; rfl) (by kernel_rfl)
        clear hρ
        go_simp
      · rintro f a' W h3 hd ⟨G1, g, u20, x, y, ee, hG1, hh, hu, hf, rfl, S⟩
        refine wpOp_run (v := .slice A bs.length c) rfl rfl (fun ρ hρ => ?_) ⟨G1, g, u20, x, y, ee, hG1, hh, hu, hf, (acts_some 3 rfl (by kernel_rfl) (by kernel_rfl)).symm, S⟩
        have e0 : ρ (.tmp 16) = .pointer (some ⟨r, 1, none⟩) := by rw [hρ]; exact acts_eval_hit 2 rfl hd.1 (by rw [HSZ]; rfl) (by kernel_rfl)
        clear hρ
        (have hcl : W.cell? ⟨r, 1, none⟩ = some (.slice A bs.length c) := S.swap.cell 1)
        go_simp
      · rintro f a' W h4 hd ⟨G1, g, u20, x, y, ee, hG1, hh, hu, hf, rfl, S⟩
        refine wpOp_run (v := .slice B b.length cb) rfl rfl (fun ρ hρ => ?_) ⟨G1, g, u20, x, y, ee, hG1, hh, hu, hf, (acts_some 4 rfl (by kernel_rfl) (by kernel_rfl)).symm, S⟩
        have e0 : ρ (.tmp 1) = .slice B b.length cb := by rw [hρ]; exact (acts_eval_tmp 1 (by kernel_rfl)).trans E1
        clear hρ
        go_simp
      · rintro f a' W h5 hd ⟨G1, g, u20, x, y, ee, hG1, hh, hu, hf, rfl, S⟩
        refine wpOp_mem (v := .slice (some ⟨W.heap.size, 0, none⟩) 2 2) (w' := W.alloc (.cells #[.slice A bs.length c, .slice B b.length cb] 29)) rfl rfl (fun ρ hρ => ?_) (⟨G1, W.heap.size, u20, x, y, ee, hG1, ⟨fun _ => rfl, hh.2⟩, hu, hf, acts_swap (by simp only [acts, h5, Bool.false_eq_true, if_false]) (k := 5) rfl (by kernel_rfl) (by kernel_rfl), Sat.optI rfl (S.newBlk _ _).drop2⟩)
        have e0 : ρ (.tmp 17) = .slice A bs.length c := by rw [hρ]; exact acts_eval_hit 3 rfl hd.1 (by rw [HSZ]; rfl) (by kernel_rfl)
        have e1 : ρ (.tmp 18) = .slice B b.length cb := by rw [hρ]; exact acts_eval_hit 4 rfl hd.2.1 (by rw [HSZ]; rfl) (by kernel_rfl)
        clear hρ
        go_simp
      · rintro f a' W h6 hd ⟨G1, g, u20, x, y, ee, hG1, hh, hu, hf, rfl, S⟩
        refine wpOp_call rfl rfl (fun ρ hρ => ?_) (concat_bytes S ⟨g, 0, none⟩ 2 [bs, b] (fun W S ↦ parts2 S hd.1 (hr.mono hG1) (hb.mono hG1)) (by simp; omega) (by simp) (by decide)) ?_
        · skip
          have e0 : ρ (.tmp 19) = .slice (some ⟨g, 0, none⟩) 2 2 := by rw [hρ]; exact acts_eval_hit 5 rfl hd.1 (by rw [HSZ]; rfl) (by kernel_rfl)
          have ef : ρ (.func 19) = .func (.func 19) #[] #[] := by rw [hρ]; rfl
          clear hρ
          go_simp
        · (rintro e W' ⟨u', rfl, S'⟩; rw [hfl] at S'; obtain ⟨G2, hG2, S2, hu2⟩ := S'.ownFrz; exact ⟨_, rfl, G2, g, u', x, y, ee, hG1.trans hG2, ⟨fun _ => hd.1, fun _ => rfl, hh.2.2⟩, fun _ => hu2, fun h => absurd (hh.2.1 h) (by rw [h6]; decide), acts_swap (by simp only [acts, h6, Bool.false_eq_true, if_false]) (k := 6) rfl (by kernel_rfl) (by kernel_rfl), S2⟩)
      · rintro f a' W h7 hd ⟨G1, g, u20, x, y, ee, hG1, hh, hu, hf, rfl, S⟩
        refine wpOp_run (v := .pointer (some ⟨r, 0, none⟩)) rfl rfl (fun ρ hρ => ?_) ⟨G1, g, u20, x, y, ee, hG1, hh, hu, hf, (acts_some 7 rfl (by kernel_rfl) (by kernel_rfl)).symm, S⟩
        have e0 : ρ (.tmp 0) = .pointer (some ⟨r, 0, none⟩) := by rw [hρ]; exact (acts_eval_tmp 0 (by kernel_rfl)).trans E0
        clear hρ
        go_simp
      · rintro f a' W h8 hd ⟨G1, g, u20, x, y, ee, hG1, hh, hu, hf, rfl, S⟩
        refine wpOp_run (v := .pointer (some ⟨r, 0, none⟩)) rfl rfl (fun ρ hρ => ?_) ⟨G1, g, u20, x, y, ee, hG1, hh, hu, hf, (acts_some 8 rfl (by kernel_rfl) (by kernel_rfl)).symm, S⟩
        have e0 : ρ (.tmp 21) = .pointer (some ⟨r, 0, none⟩) := by rw [hρ]; exact acts_eval_hit 7 rfl hd.1 (by rw [HSZ]; rfl) (by kernel_rfl)
        clear hρ
        go_simp
      · rintro f a' W h9 hd ⟨G1, g, u20, x, y, ee, hG1, hh, hu, hf, rfl, S⟩
        refine wpOp_run (v := .pointer (some ⟨r, 0, none⟩)) rfl rfl (fun ρ hρ => ?_) ⟨G1, g, u20, x, y, ee, hG1, hh, hu, hf, (acts_some 9 rfl (by kernel_rfl) (by kernel_rfl)).symm, S⟩
        have e0 : ρ (.tmp 22) = .pointer (some ⟨r, 0, none⟩) := by rw [hρ]; exact acts_eval_hit 8 rfl hd.1 (by rw [HSZ]; rfl) (by kernel_rfl)
        clear hρ
        go_simp
      · rintro f a' W h10 hd ⟨G1, g, u20, x, y, ee, hG1, hh, hu, hf, rfl, S⟩
        refine wpOp_run (v := .int .i64 most) rfl rfl (fun ρ hρ => ?_) ⟨G1, g, u20, x, y, ee, hG1, hh, hu, hf, (acts_some 10 rfl (by kernel_rfl) (by kernel_rfl)).symm, S⟩
        have e0 : ρ (.tmp 23) = .pointer (some ⟨r, 0, none⟩) := by rw [hρ]; exact acts_eval_hit 9 rfl hd.1 (by rw [HSZ]; rfl) (by kernel_rfl)
        clear hρ
        (have hcl : W.cell? ⟨r, 0, none⟩ = some (.int .i64 most) := S.swap.cell 0)
        go_simp
      · rintro f a' W h11 hd ⟨G1, g, u20, x, y, ee, hG1, hh, hu, hf, rfl, S⟩
        refine wpOp_call rfl rfl (fun ρ hρ => ?_) (frame_all S u20 (bs ++ b) most (hu hd.1) (by rw [List.length_append]; omega)) ?_
        · skip
          have e0 : ρ (.tmp 20) = u20 := by rw [hρ]; exact acts_eval_hit 6 rfl hd.1 (by rw [HSZ]; rfl) (by kernel_rfl)
          have e1 : ρ (.tmp 24) = .int .i64 most := by rw [hρ]; exact acts_eval_hit 10 rfl hd.2.1 (by rw [HSZ]; rfl) (by kernel_rfl)
          have ef : ρ (.func 18) = .func (.func 18) #[] #[] := by rw [hρ]; rfl
          clear hρ
          go_simp
        · (rintro e W' ⟨G2, K2, hG2, S2, hE2, hr2⟩; have hz := fun j (hj : f j = true → f 11 = true) ↦ (show f j = false from by cases hx : f j; rfl; exact absurd (hj hx) (by rw [h11]; decide)); have z12 := hz 12 hh.2.2.1; have z13 := hz 13 hh.2.2.2.1; have z14 := hz 14 hh.2.2.2.2.1; have z15 := hz 15 hh.2.2.2.2.2.1; have z16 := hz 16 hh.2.2.2.2.2.2.1; have z17 := hz 17 hh.2.2.2.2.2.2.2.1; have z18 := hz 18 hh.2.2.2.2.2.2.2.2; obtain ⟨x2, y2, ee2, rfl, hfa⟩ := fa_of hE2 hr2; exact ⟨_, rfl, G2, g, u20, x2, y2, ee2, hG1.trans hG2, ⟨hh.1, fun _ => hd.1, fun _ => rfl, fun _ => rfl, fun _ => rfl, fun _ => rfl, fun _ => rfl, fun _ => rfl, fun _ => rfl⟩, fun h => (hu h).mono hG2, fun _ => hfa, acts_swap (by simp only [acts, h11, z12, z13, z14, z15, z16, z17, z18, Bool.false_eq_true, if_false]) (k := 11) rfl (by kernel_rfl) (by kernel_rfl), S2⟩)
      · rintro f a' W h12 hd ⟨G1, g, u20, x, y, ee, hG1, hh, hu, hf, rfl, S⟩
        refine wpOp_run (v := .tuple #[x, y, .int .i64 ee]) rfl rfl (fun ρ hρ => ?_) ⟨G1, g, u20, x, y, ee, hG1, hh.set 12 (by decide) hd.1, hu, hf, (acts_some 12 rfl (by kernel_rfl) (by kernel_rfl)).symm, S⟩
        have e0 : ρ (.tmp 25) = .tuple #[x, y, .int .i64 ee] := by rw [hρ]; exact acts_eval_hit 11 rfl hd.1 (by rw [HSZ]; rfl) (by kernel_rfl)
        clear hρ
        go_simp
      · rintro f a' W h13 hd ⟨G1, g, u20, x, y, ee, hG1, hh, hu, hf, rfl, S⟩
        refine wpOp_run (v := x) rfl rfl (fun ρ hρ => ?_) ⟨G1, g, u20, x, y, ee, hG1, hh.set 13 (by decide) (hh.2.2.1 hd.1), hu, hf, (acts_some 13 rfl (by kernel_rfl) (by kernel_rfl)).symm, S⟩
        have e0 : ρ (.tmp 13) = .tuple #[x, y, .int .i64 ee] := by rw [hρ]; exact acts_eval_hit 12 rfl hd.1 (by rw [HSZ]; rfl) (by kernel_rfl)
        clear hρ
        go_simp
      · rintro f a' W h14 hd ⟨G1, g, u20, x, y, ee, hG1, hh, hu, hf, rfl, S⟩
        refine wpOp_run (v := y) rfl rfl (fun ρ hρ => ?_) ⟨G1, g, u20, x, y, ee, hG1, hh.set 14 (by decide) (hh.2.2.1 hd.1), hu, hf, (acts_some 14 rfl (by kernel_rfl) (by kernel_rfl)).symm, S⟩
        have e0 : ρ (.tmp 13) = .tuple #[x, y, .int .i64 ee] := by rw [hρ]; exact acts_eval_hit 12 rfl hd.1 (by rw [HSZ]; rfl) (by kernel_rfl)
        clear hρ
        go_simp
      · rintro f a' W h15 hd ⟨G1, g, u20, x, y, ee, hG1, hh, hu, hf, rfl, S⟩
        refine wpOp_run (v := .int .i64 ee) rfl rfl (fun ρ hρ => ?_) ⟨G1, g, u20, x, y, ee, hG1, hh.set 15 (by decide) (hh.2.2.1 hd.1), hu, hf, (acts_some 15 rfl (by kernel_rfl) (by kernel_rfl)).symm, S⟩
        have e0 : ρ (.tmp 13) = .tuple #[x, y, .int .i64 ee] := by rw [hρ]; exact acts_eval_hit 12 rfl hd.1 (by rw [HSZ]; rfl) (by kernel_rfl)
        clear hρ
        go_simp
      · rintro f a' W h16 hd ⟨G1, g, u20, x, y, ee, hG1, hh, hu, hf, rfl, S⟩
        refine wpOp_run (v := x) rfl rfl (fun ρ hρ => ?_) ⟨G1, g, u20, x, y, ee, hG1, hh.set 16 (by decide) (hh.2.2.2.1 hd.1), hu, hf, (acts_some 16 rfl (by kernel_rfl) (by kernel_rfl)).symm, S⟩
        have e0 : ρ (.tmp 26) = x := by rw [hρ]; exact acts_eval_hit 13 rfl hd.1 (by rw [HSZ]; rfl) (by kernel_rfl)
        clear hρ
        go_simp
      · rintro f a' W h17 hd ⟨G1, g, u20, x, y, ee, hG1, hh, hu, hf, rfl, S⟩
        refine wpOp_run (v := y) rfl rfl (fun ρ hρ => ?_) ⟨G1, g, u20, x, y, ee, hG1, hh.set 17 (by decide) (hh.2.2.2.2.1 hd.1), hu, hf, (acts_some 17 rfl (by kernel_rfl) (by kernel_rfl)).symm, S⟩
        have e0 : ρ (.tmp 27) = y := by rw [hρ]; exact acts_eval_hit 14 rfl hd.1 (by rw [HSZ]; rfl) (by kernel_rfl)
        clear hρ
        go_simp
      · rintro f a' W h18 hd ⟨G1, g, u20, x, y, ee, hG1, hh, hu, hf, rfl, S⟩
        refine wpOp_run (v := .int .i64 ee) rfl rfl (fun ρ hρ => ?_) ⟨G1, g, u20, x, y, ee, hG1, hh.set 18 (by decide) (hh.2.2.2.2.2.1 hd.1), hu, hf, (acts_some 18 rfl (by kernel_rfl) (by kernel_rfl)).symm, S⟩
        have e0 : ρ (.tmp 28) = .int .i64 ee := by rw [hρ]; exact acts_eval_hit 15 rfl hd.1 (by rw [HSZ]; rfl) (by kernel_rfl)
        clear hρ
        go_simp
    · rintro a' W ⟨G1, g, u20, x, y, ee, hG1, -, -, hf, rfl, S1⟩
      obtain ⟨M, hM, hor⟩ := hf rfl
      subst ha0
      simp only [acts, if_true, Act.put, List.setIfInBounds_toArray, List.set_cons_succ, List.set_cons_zero]
      have S2 := S1.drop
      clear S S1 HSZ E0 E1 hf
      have fz := fun j => S2.frozen j
      have c0 : W.cell? ⟨r, 0, none⟩ = some (.int .i64 most) := S2.cell 0
      have c1 : W.cell? ⟨r, 1, none⟩ = some (.slice A bs.length c) := S2.cell 1
      have c2 : W.cell? ⟨r, 2, none⟩ = some (.bool false) := S2.cell 2
      have f0 := fz 0
      have f1 := fz 1
      have f2 := fz 2
      clear fz
      rcases hor with ⟨h16, rfl, hfr, hy⟩ | ⟨h106, rfl, rfl, rfl⟩
      · have e1 : rmFeed most (bs, false) b = (eat (bs ++ b) M, false) := by rw [feed_of hM (by rw [h16]; decide), if_neg (by rw [h16]; decide)]
        rw [e1] at hK
        obtain ⟨Y, cy, rfl, -, -, -⟩ := hy.form
        obtain ⟨X, cx, rfl, hx1, hx2, hx3⟩ := hfr
        have S3 := rm_iff.2 ⟨_, hy, S2.setCell 1 (.slice Y (eat (bs ++ b) M).length cy)⟩
        clear S2 e1
        go_wp2_with fail
        exact hK.out _ _ ⟨G1, hG1, S3, .inr ⟨rfl, M, hM, .inl ⟨h16, _, rfl, _, _, rfl, hx1, hx2, hx3⟩⟩⟩
      · have e1 : rmFeed most (bs, false) b = ([], true) := by rw [feed_of hM (by rw [h106]; decide), if_pos h106]
        rw [e1] at hK
        have S3 : Sat G1 (((W.setCell ⟨r, 0, none⟩ (.int .i64 most)).setCell ⟨r, 1, none⟩ (.slice none 0 0)).setCell ⟨r, 2, none⟩ (.bool true)) (rmA r most [] true :: l) :=
          rm_iff.2 ⟨_, SlB.nil _, ((S2.setCell 0 (.int .i64 most)).setCell 1 (.slice none 0 0)).setCell 2 (.bool true)⟩
        clear S2 e1
        go_wp2_with fail
        exact hK.out _ _ ⟨G1, hG1, S3, .inr ⟨rfl, M, hM, .inr ⟨h106, rfl⟩⟩⟩
end Go.Proofs.Ytjaikmkfpkooiaa
