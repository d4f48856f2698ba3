/- The walk over the law's step. -/
import Derived.Test.YtidaafpfkbfiaaaOne
set_option linter.unusedSimpArgs false
set_option linter.unusedVariables false
namespace Go.Proofs.Ytidaafpfkbfiaaa
open Go.RowKit

/-- The reference's lists. -/
structure MR (get : Addr → Option Value) (U : List Value) (Q : List (List It)) : Prop where
  len : U.length = Q.length
  el : ∀ t, t < Q.length → RL get (U.getD t undef) (Q.getD t [])
theorem MR.mono {G G' : Gnd} {U : List Value} {Q : List (List It)} (h : MR (cellR G.ro) U Q) (hG : G.le G') : MR (cellR G'.ro) U Q := ⟨h.len, fun t ht => (h.el t ht).mono hG⟩
theorem getD_set {α : Type} (L : List α) (t k : Nat) (x d : α) (hk : k < L.length) : (L.set t x).getD k d = if t = k then x else L.getD k d := by
  rw [List.getD_eq_getElem?_getD, List.getD_eq_getElem?_getD, List.getElem?_set]
  split
  · subst t; rw [if_pos hk]; rfl
  · rfl
theorem getD_set_ne {α : Type} (L : List α) (t k : Nat) (x d : α) (h : t ≠ k) : (L.set t x).getD k d = L.getD k d := by
  rw [List.getD_eq_getElem?_getD, List.getD_eq_getElem?_getD, List.getElem?_set, if_neg h]
theorem MR.set {get : Addr → Option Value} {U : List Value} {Q : List (List It)} (h : MR get U Q) (t : Nat) {u : Value} {L : List It} (hu : RL get u L) : MR get (U.set t u) (Q.set t L) := by
  refine ⟨by simp [h.len], fun k hk => ?_⟩
  rw [List.length_set] at hk
  rw [getD_set U t k u _ (by have := h.len; omega), getD_set Q t k L _ hk]
  split
  · exact hu
  · exact h.el k hk
theorem MR.nil (get : Addr → Option Value) (n : Nat) : MR get (List.replicate n (Value.slice none 0 0)) (List.replicate n []) := by
  refine ⟨by simp, fun k hk => ?_⟩
  rw [List.length_replicate] at hk
  rw [List.getD_eq_getElem?_getD, List.getD_eq_getElem?_getD, List.getElem?_replicate, List.getElem?_replicate, if_pos hk, if_pos hk]
  exact RL.nil get
theorem clr_get {U : List Value} {k : Nat} (h : k < U.length) : (List.replicate k (Value.slice none 0 0) ++ U.drop k)[k]? = some (U.getD k undef) := by
  rw [List.getElem?_append_right (by simp), List.length_replicate, Nat.sub_self, List.getElem?_drop, List.getD_eq_getElem?_getD, Nat.add_zero, List.getElem?_eq_getElem h]
  rfl
theorem clr_step {U : List Value} {k : Nat} (h : k < U.length) : (List.replicate k (Value.slice none 0 0) ++ U.drop k).toArray.setIfInBounds k (.slice none 0 0) = (List.replicate (k + 1) (Value.slice none 0 0) ++ U.drop (k + 1)).toArray := by
  rw [List.setIfInBounds_toArray, List.set_append_right _ _ (by simp)]
  simp only [List.length_replicate, Nat.sub_self]
  rw [List.drop_eq_getElem_cons h, List.set_cons_zero, List.replicate_succ', List.append_assoc]
  rfl
theorem OpD.ok.mono {G G' : Gnd} {o : OpD} (h : o.ok G.ro) (hG : G.le G') : o.ok G'.ro := ⟨⟨h.1.1.mono hG, h.1.2.mono hG⟩, h.2, h.3, h.4, h.5⟩
theorem RL.one {get : Addr → Option Value} {v : Value} {L : List It} (h : RL get v L) : v.oneCell' = true := by
  obtain ⟨A, c, rfl, -⟩ := h
  rfl
def HSt (f : Nat → Bool) : Prop := (f 11 = true → f 8 = true) ∧ (f 12 = true → f 11 = true) ∧ (f 13 = true → f 12 = true) ∧ (f 16 = true → f 13 = true)
section
variable {G : Gnd} {w w' : World} {l : List Asrt} {q g xn xc : Nat} {Q : List (List It)} {U : List Value} {B I T : Int} {X : Option Addr} {o : OpD}
set_option maxHeartbeats 8000000 in
set_option maxRecDepth 100000 in
theorem step_clear (H : Sat G w (blk g U.toArray 48 :: quA q Q B I :: l)) (hw : QWf Q B I) (hm : MR (cellR G.ro) U Q) (hT : T = Q.length) (ho : o.ok G.ro)  (hk6 : (o.k == 6) = true) :
    Calls Try.prog 17 #[.pointer (some ⟨q, 0, none⟩), .slice (some ⟨g, 0, none⟩) Q.length Q.length, .agg #[.int .i64 T, .int .i64 B, .int .i64 I, .slice X xn xc], .agg o.cells.toArray] w fun e w' => ∃ U' Q' G', G.le G' ∧ e = .returned (.bool true) ∧ QWf Q' B I ∧ Q'.length = Q.length ∧ MR (cellR G'.ro) U' Q' ∧ Sat G' w' (blk g U'.toArray 48 :: quA q Q' B I :: l) ∧ (o.k ≠ 6 → ∀ t : Nat, o.t ≠ t → Q'.getD t [] = Q.getD t [] ∧ U'.getD t undef = U.getD t undef) := by
  refine calls_any fun K hK => ?_
  have HO := Lib.hid ho
  obtain ⟨ok, ot, on, ⟨n, hv1, bv1, h, b⟩⟩ := o
  obtain ⟨hox, hoh, hob, ⟨hot0, hot1⟩, ⟨hon0, hon1⟩⟩ := ho
  obtain ⟨A, a, D, d, e1, e2⟩ := qe_slices hox
  simp only at e1 e2 hoh hob hot0 hot1 hon0 hon1 hk6
  subst e1
  subst e2
  simp only [OpD.cells, Qe.enc, Qe.abs] at *
  have hb1 := hw.b1
  have hi1 := hw.i1
  have hm64 := hw.m1
  have S1 := (H.newBlk #[.int .i64 T, .int .i64 B, .int .i64 I, .slice X xn xc] 41).newBlk #[.int .i64 ok, .int .i64 ot, .int .i64 on, .int .i64 n, .slice A h.length a, .slice D b.length d] 46
  simp only [World.size_alloc] at S1
  have HOX := Lib.hid hox
  have HM := Lib.hid hm
  have HTq := Lib.hid hT
  clear H hox hm hT
  have HTT := Lib.hid fun k (h : k < Q.length) => tot_take h
  have HTB : Hid (∀ k, tot (Q.take k) ≤ 262144) := Lib.hid fun k => by
    have h1 := tot_le (Q := Q.take k) (b := 4096) fun L hL => by have := (hw.sz L (List.mem_of_mem_take hL)).2; omega
    have h2 : (Q.take k).length * 4096 ≤ 64 * 4096 := Nat.mul_le_mul_right _ (by rw [List.length_take]; omega)
    omega
  obtain ⟨N, hN⟩ : ∃ N, Q.length = N := ⟨_, rfl⟩
  have HN := Lib.hid hN
  rw [hN] at hm64 ⊢
  go_enter Try.func17, Try.ntmps17
  go_upto_region 2 with fail
  generalize w.heap.size + 1 = p2 at *
  generalize w.heap.size = p1 at *
  refine wp_world S1 fun w1 S2 => ?_
  clear S1
  go_wp2_with fail
  go_loopw [9, 19] (fun s i wr => ∃ k : Nat, k ≤ N ∧ i = .int .i64 k ∧ s = .int .i64 (tot (Q.take k)) ∧ Sat G wr (blk g (List.replicate k (Value.slice none 0 0) ++ U.drop k).toArray 48 :: blk p2 #[.int .i64 ok, .int .i64 ot, .int .i64 on, .int .i64 n, .slice A h.length a, .slice D b.length d] 46 :: blk p1 #[.int .i64 T, .int .i64 B, .int .i64 I, .slice X xn xc] 41 :: quA q Q B I :: l)) (fun _ i _ => N - (intOf i).toNat)
  case atStart => exact ⟨0, Nat.zero_le _, rfl, by simp [tot], by simpa using S2.pull2⟩
  case round =>
    obtain ⟨k, hk, rfl, rfl, S⟩ := hrel
    clear S2
    by_cases hlt : k < N
    · have hkU : k < U.length := by have := HM.out.len; have := HN.out; omega
      have hkQ : k < Q.length := by have := HN.out; omega
      have hg := clr_get hkU
      obtain ⟨va, vc, hu, hv1, hv2, -, -⟩ := HM.out.el k hkQ
      rw [hu] at hg
      have c0 := (S.cell k).trans ((List.getElem?_toArray ..).trans hg)
      have f0 := S.frozen k
      have htt := HTT.out k hkQ
      have ht1 := HTB.out k
      have ht2 := HTB.out (k + 1)
      have HTK := Lib.hid htt
      generalize (Q.getD k []).length = fn at *
      have hwr : IntKind.i64.wrap ((tot (Q.take k) : Int) + (fn : Int)) = ((tot (Q.take (k + 1)) : Nat) : Int) := by rw [IntWalk.i64_in _ (by omega)]; omega
      have S3 := S.setCell k (.slice none 0 0)
      rw [clr_step hkU] at S3
      have HS6 := Lib.hid S3
      have hbd : (tot (Q.take k) : Int) + (fn : Int) ≤ 300000 := by omega
      clear S S3 htt ht2 hu hg hkU hkQ hN
      generalize tot (Q.take k) = t1 at *
      obtain ⟨t2, ht2e⟩ : ∃ t2, t2 = tot (Q.take (k + 1)) := ⟨_, rfl⟩
      rw [← ht2e] at hwr
      have HT2 := Lib.hid ht2e
      clear ht2e
      go_wp2_with fail
      go_roundw
      case rel => exact ⟨k + 1, by omega, by go_num, by rw [← HT2.out], HS6.out⟩
      case measure => simp [intOf]; omega
    · obtain rfl : k = N := by omega
      have S3 := S
      rw [← HN.out, List.take_length]
      rw [← HN.out, ← HM.out.len, List.drop_length, List.append_nil, HM.out.len, HN.out] at S3
      have hc := qu_clear (S3.re [3, 0, 1, 2]) hw
      rw [HN.out] at hc
      clear S S3
      go_wp2_with fail
      (with_reducible refine hc.mono ?_)
      clear hc
      rintro e w3 ⟨rfl, S4⟩
      go_wp2_with fail
      refine hK.out _ _ ⟨List.replicate k (Value.slice none 0 0), List.replicate k [], G, Gnd.le.rfl', rfl, ?_, by simp [HN.out], MR.nil _ k, S4.pull2.drop.pull2.drop.swap, fun h => absurd (by simpa using hk6) h⟩
      refine ⟨by have := hw.m0; have := HN.out; simp; omega, by simp; omega, hw.b0, hw.b1, hw.i0, hw.i1, fun L hL => ?_⟩
      obtain ⟨-, rfl⟩ := List.mem_replicate.1 hL
      have := hw.b0
      have := hw.i0
      simp [qsz]; omega
set_option maxHeartbeats 8000000 in
set_option maxRecDepth 100000 in
theorem step_out (H : Sat G w (blk g U.toArray 48 :: quA q Q B I :: l)) (hw : QWf Q B I) (hm : MR (cellR G.ro) U Q) (hT : T = Q.length) (ho : o.ok G.ro) (ht : o.t < 0 ∨ (Q.length : Int) ≤ o.t) (hk6 : (o.k == 6) = false) :
    Calls Try.prog 17 #[.pointer (some ⟨q, 0, none⟩), .slice (some ⟨g, 0, none⟩) Q.length Q.length, .agg #[.int .i64 T, .int .i64 B, .int .i64 I, .slice X xn xc], .agg o.cells.toArray] w fun e w' => ∃ U' Q' G', G.le G' ∧ e = .returned (.bool true) ∧ QWf Q' B I ∧ Q'.length = Q.length ∧ MR (cellR G'.ro) U' Q' ∧ Sat G' w' (blk g U'.toArray 48 :: quA q Q' B I :: l) ∧ (o.k ≠ 6 → ∀ t : Nat, o.t ≠ t → Q'.getD t [] = Q.getD t [] ∧ U'.getD t undef = U.getD t undef) := by
  refine calls_any fun K hK => ?_
  have HO := Lib.hid ho
  obtain ⟨ok, ot, on, ⟨n, hv1, bv1, h, b⟩⟩ := o
  obtain ⟨hox, hoh, hob, ⟨hot0, hot1⟩, ⟨hon0, hon1⟩⟩ := ho
  obtain ⟨A, a, D, d, e1, e2⟩ := qe_slices hox
  simp only at e1 e2 hoh hob hot0 hot1 hon0 hon1 hk6 ht
  subst e1
  subst e2
  simp only [OpD.cells, Qe.enc, Qe.abs] at *
  have hb1 := hw.b1
  have hi1 := hw.i1
  have hm64 := hw.m1
  have S1 := (H.newBlk #[.int .i64 T, .int .i64 B, .int .i64 I, .slice X xn xc] 41).newBlk #[.int .i64 ok, .int .i64 ot, .int .i64 on, .int .i64 n, .slice A h.length a, .slice D b.length d] 46
  simp only [World.size_alloc] at S1
  have HOX := Lib.hid hox
  have HM := Lib.hid hm
  have HTq := Lib.hid hT
  clear H hox hm hT
  have hq : qAt Q ot = [] := qAt_out ht
  have HSM : Hid (∀ (G' : Gnd) (w' : World), G.le G' → Sat G' w' (quA q Q B I :: blk g U.toArray 48 :: l) → K (.returned (.bool true)) w') := Lib.hid fun G' w' hG S => hK.out _ _ ⟨U, Q, G', hG, rfl, hw, rfl, HM.out.mono hG, S.swap, fun _ _ _ => ⟨rfl, rfl⟩⟩
  have hpq : putQ Q B I ot (n, h, b) = (Q, 11) := by unfold putQ; rw [if_pos ht]
  have HTT := Lib.hid ht
  go_enter Try.func17, Try.ntmps17
  go_upto_region 10 with fail
  generalize w.heap.size + 1 = p2 at *
  generalize w.heap.size = p1 at *
  refine wp_world S1 fun w1 S2 => ?_
  clear S1
  have o0 := S2.cell 0
  have o1 := S2.cell 1
  have o2 := S2.cell 2
  have o3 := S2.cell 3
  have o4 := S2.cell 4
  have o5 := S2.cell 5
  have p0 := S2.swap.cell 0
  have hf := qu_first_not (S2.re [3, 2, 0, 1]) hw ot hq
  clear S2
  rcases ht with ht | ht
  · have hd0 : decide (ot < 0) = true := decide_eq_true ht
    go_wp2_with fail
    (with_reducible refine hf.mono ?_)
    clear hf o0 o1 o2 o3 o4 o5 p0
    rintro e w2 ⟨rfl, S3⟩
    have S4 := S3.newBlk #[.int .i64 0, .slice none 0 0, .slice none 0 0] 24
    clear S3
    go_upto_region 12 with fail
    generalize w2.heap.size = z at *
    refine wp_world S4 fun w3 S5 => ?_
    clear S4
    have S6 := S5.re [3, 1, 2, 4, 0]
    have o1 := S6.cell 1
    have o2 := S6.cell 2
    have o3 := S6.cell 3
    have o4 := S6.cell 4
    have o5 := S6.cell 5
    have hput := qu_put (S5.re [1, 2, 3, 4, 0]) hw ot n (.slice A h.length a) (.slice D b.length d) h b (fun W SW => HOX.out.1.sat SW) (fun W SW => HOX.out.2.sat SW) (by omega) (by omega)
    rw [hpq] at hput
    clear S5 S6
    go_wp2_with fail
    (with_reducible refine hput.mono ?_)
    clear hput o1 o2 o3 o4 o5
    rintro e w4 ⟨G3, hG3, rfl, S7⟩
    have S8 := S7.re [2, 0, 1]
    have o1 := S8.cell 1
    have o2 := S8.cell 2
    have hby := qu_bytes S7 hw ot
    have hln := qu_len S7 hw ot
    rw [hq] at hby hln
    have hdr := qu_drop_not S7 ot on HTT.out
    change Calls _ _ _ _ (fun e w' => e = .returned (.int .i64 0) ∧ _) at hby
    change Calls _ _ _ _ (fun e w' => e = .returned (.int .i64 0) ∧ _) at hln
    clear S7 S8
    go_wp2_with fail
    (with_reducible refine hby.mono ?_)
    clear hby
    rintro e w5 ⟨rfl, rfl⟩
    go_wp2_with fail
    (with_reducible refine hln.mono ?_)
    clear hln
    rintro e w5 ⟨rfl, rfl⟩
    go_wp2_with fail
    (with_reducible refine hdr.mono ?_)
    clear hdr o1 o2
    rintro e w5 ⟨rfl, S9⟩
    go_wp2_with fail
    exact HSM.out G3 _ hG3 S9.pull2.drop.pull2.drop.pull2.drop
  · have hd0 : decide (ot < 0) = false := decide_eq_false (by omega)
    have hd1 : decide (ot ≥ T) = true := decide_eq_true (by have := HTq.out; omega)
    go_wp2_with fail
    (with_reducible refine hf.mono ?_)
    clear hf o0 o1 o2 o3 o4 o5 p0
    rintro e w2 ⟨rfl, S3⟩
    have S4 := S3.newBlk #[.int .i64 0, .slice none 0 0, .slice none 0 0] 24
    clear S3
    go_upto_region 12 with fail
    generalize w2.heap.size = z at *
    refine wp_world S4 fun w3 S5 => ?_
    clear S4
    have S6 := S5.re [3, 1, 2, 4, 0]
    have o1 := S6.cell 1
    have o2 := S6.cell 2
    have o3 := S6.cell 3
    have o4 := S6.cell 4
    have o5 := S6.cell 5
    have hput := qu_put (S5.re [1, 2, 3, 4, 0]) hw ot n (.slice A h.length a) (.slice D b.length d) h b (fun W SW => HOX.out.1.sat SW) (fun W SW => HOX.out.2.sat SW) (by omega) (by omega)
    rw [hpq] at hput
    clear S5 S6
    go_wp2_with fail
    (with_reducible refine hput.mono ?_)
    clear hput o1 o2 o3 o4 o5
    rintro e w4 ⟨G3, hG3, rfl, S7⟩
    have S8 := S7.re [2, 0, 1]
    have o1 := S8.cell 1
    have o2 := S8.cell 2
    have hby := qu_bytes S7 hw ot
    have hln := qu_len S7 hw ot
    rw [hq] at hby hln
    have hdr := qu_drop_not S7 ot on HTT.out
    change Calls _ _ _ _ (fun e w' => e = .returned (.int .i64 0) ∧ _) at hby
    change Calls _ _ _ _ (fun e w' => e = .returned (.int .i64 0) ∧ _) at hln
    clear S7 S8
    go_wp2_with fail
    (with_reducible refine hby.mono ?_)
    clear hby
    rintro e w5 ⟨rfl, rfl⟩
    go_wp2_with fail
    (with_reducible refine hln.mono ?_)
    clear hln
    rintro e w5 ⟨rfl, rfl⟩
    go_wp2_with fail
    (with_reducible refine hdr.mono ?_)
    clear hdr o1 o2
    rintro e w5 ⟨rfl, S9⟩
    go_wp2_with fail
    exact HSM.out G3 _ hG3 S9.pull2.drop.pull2.drop.pull2.drop
set_option maxHeartbeats 8000000 in
set_option maxRecDepth 100000 in
theorem step_one (H : Sat G w (blk g U.toArray 48 :: quA q Q B I :: l)) (hw : QWf Q B I) (hm : MR (cellR G.ro) U Q) (hT : T = Q.length) (ho : o.ok G.ro) (ht : 0 ≤ o.t ∧ o.t < (Q.length : Int)) (hk6 : (o.k == 6) = false) :
    Calls Try.prog 17 #[.pointer (some ⟨q, 0, none⟩), .slice (some ⟨g, 0, none⟩) Q.length Q.length, .agg #[.int .i64 T, .int .i64 B, .int .i64 I, .slice X xn xc], .agg o.cells.toArray] w fun e w' => ∃ U' Q' G', G.le G' ∧ e = .returned (.bool true) ∧ QWf Q' B I ∧ Q'.length = Q.length ∧ MR (cellR G'.ro) U' Q' ∧ Sat G' w' (blk g U'.toArray 48 :: quA q Q' B I :: l) ∧ (o.k ≠ 6 → ∀ t : Nat, o.t ≠ t → Q'.getD t [] = Q.getD t [] ∧ U'.getD t undef = U.getD t undef) := by
  refine calls_any fun K hK => ?_
  have HO := Lib.hid ho
  obtain ⟨ok, ot, on, ⟨n, hv1, bv1, h, b⟩⟩ := o
  obtain ⟨hox, hoh, hob, ⟨hot0, hot1⟩, ⟨hon0, hon1⟩⟩ := ho
  obtain ⟨A, a, D, d, e1, e2⟩ := qe_slices hox
  simp only at e1 e2 hoh hob hot0 hot1 hon0 hon1 hk6 ht
  subst e1
  subst e2
  simp only [OpD.cells, Qe.enc, Qe.abs] at *
  have hb1 := hw.b1
  have hi1 := hw.i1
  have hm64 := hw.m1
  have S1 := (H.newBlk #[.int .i64 T, .int .i64 B, .int .i64 I, .slice X xn xc] 41).newBlk #[.int .i64 ok, .int .i64 ot, .int .i64 on, .int .i64 n, .slice A h.length a, .slice D b.length d] 46
  simp only [World.size_alloc] at S1
  have HOX := Lib.hid hox
  have HM := Lib.hid hm
  have HTq := Lib.hid hT
  clear H hox hm hT
  obtain ⟨t, rfl⟩ : ∃ t : Nat, ot = t := ⟨ot.toNat, by omega⟩
  have htq : t < Q.length := by omega
  have hd0 : decide ((t : Int) < 0) = false := decide_eq_false (by omega)
  have hd1 : decide ((t : Int) ≥ T) = false := decide_eq_false (by have := HTq.out; omega)
  have hlU := HM.out.len
  have htU : t < U.length := by omega
  obtain ⟨L', hL'⟩ : ∃ L', L' = oneL B I (Q.getD t []) ⟨ok, t, on, n, .slice A h.length a, .slice D b.length d, h, b⟩ := ⟨_, rfl⟩
  have hone : ∀ {G' : Gnd} {W : World} {l' : List Asrt}, G.le G' → Sat G' W (quA q Q B I :: l') → Calls Try.prog 20 #[.pointer (some ⟨q, 0, none⟩), U.getD t undef, .agg #[.int .i64 T, .int .i64 B, .int .i64 I, .slice X xn xc], .agg #[.int .i64 ok, .int .i64 t, .int .i64 on, .int .i64 n, .slice A h.length a, .slice D b.length d]] W fun e w' => ∃ u G2, G'.le G2 ∧ e = .returned (.tuple #[u, .bool true]) ∧ RL (cellR G2.ro) u L' ∧ Sat G2 w' (quA q (Q.set t L') B I :: l') := fun {G'} {W} {l'} hG S => by
    rw [hL']
    exact law_one S hw htq ((HM.out.el t htq).mono hG) (HO.out.mono hG) rfl
  have hwf : QWf (Q.set t L') B I := by rw [hL']; exact oneL_wf hw
  have HON : Hid (∀ {G' : Gnd} {W : World} {l' : List Asrt}, G.le G' → Sat G' W (quA q Q B I :: l') → Calls Try.prog 20 #[.pointer (some ⟨q, 0, none⟩), U.getD t undef, .agg #[.int .i64 T, .int .i64 B, .int .i64 I, .slice X xn xc], .agg #[.int .i64 ok, .int .i64 t, .int .i64 on, .int .i64 n, .slice A h.length a, .slice D b.length d]] W fun e w' => ∃ u G2, G'.le G2 ∧ e = .returned (.tuple #[u, .bool true]) ∧ RL (cellR G2.ro) u L' ∧ Sat G2 w' (quA q (Q.set t L') B I :: l')) := Lib.hid hone
  have HSM : Hid (∀ (G' : Gnd) (u : Value) (w' : World), G.le G' → RL (cellR G'.ro) u L' → Sat G' w' (blk g (U.set t u).toArray 48 :: quA q (Q.set t L') B I :: l) → K (.returned (.bool true)) w') := Lib.hid fun G' u w' hG hu S => hK.out _ _ ⟨U.set t u, Q.set t L', G', hG, rfl, hwf, by simp, (HM.out.mono hG).set t hu, S, fun _ k hk => ⟨getD_set_ne _ _ _ _ _ (by omega), getD_set_ne _ _ _ _ _ (by omega)⟩⟩
  have HGU : Hid (U.toArray[t]? = some (U.getD t undef)) := Lib.hid (by simp [List.getD_eq_getElem?_getD, List.getElem?_eq_getElem htU])
  obtain ⟨v, hv⟩ : ∃ v, v = U.getD t undef := ⟨_, rfl⟩
  rw [← hv] at HON HGU
  obtain ⟨N, hN⟩ : ∃ N, N = Q.length := ⟨_, rfl⟩
  rw [← hN] at htq ⊢
  have HTU : Hid (t < U.toArray.size) := Lib.hid (by simpa using htU)
  clear hone hL' hv htU hlU hwf
  go_enter Try.func17, Try.ntmps17
  go_upto_region 10 with fail
  generalize w.heap.size + 1 = p2 at *
  generalize w.heap.size = p1 at *
  refine wp_world S1 fun w1 S2 => ?_
  clear S1
  have o1 := S2.cell 1
  have p0 := S2.swap.cell 0
  have HS2 := Lib.hid S2
  clear S2
  go_upto_region 14 with fail
  have S2 := HS2.out
  clear HS2 o1 p0
  refine wp_act fun a0 ha0 => ?_
  have HSZ : a0.tmps.size = 105 := by rw [ha0]; rfl
  have E0 : a0.eval (.tmp 0) = .pointer (some ⟨q, 0, none⟩) := by rw [ha0]; rfl
  have E1 : a0.eval (.tmp 1) = .slice (some ⟨g, 0, none⟩) N N := by rw [ha0]; rfl
  have E6 : a0.eval (.tmp 6) = .pointer (some ⟨p1, 0, none⟩) := by rw [ha0]; rfl
  have E7 : a0.eval (.tmp 7) = .pointer (some ⟨p2, 0, none⟩) := by rw [ha0]; rfl
  refine wp_region_J (by kernel_rfl) 18 (by kernel_rfl) [[], [], [1], [], [], [], [5], [4, 6], [7], [], [], [3, 8, 9, 10], [11], [12], [12], [0, 2, 0, 1, 2, 3, 4, 5, 6, 7, 8, 9, 10, 11, 12, 13], [15, 13, 11, 0, 1, 2, 3, 4, 5, 6, 7, 8, 9, 10, 11, 12, 13], [14, 16, 0, 1, 2, 3, 4, 5, 6, 7, 8, 9, 10, 11, 12, 13, 14, 15, 16]] (by kernel_rfl) (by kernel_rfl) (fun f a' W => ∃ u G', HSt f ∧ G.le G' ∧ (f 11 = true → RL (cellR G'.ro) u L') ∧ a' = acts [(0, 89, .slice (some ⟨g, 0, none⟩) N N), (1, 90, .pointer (some ⟨p2, 1, none⟩)), (2, 91, .int .i64 t), (3, 92, .pointer (some ⟨q, 0, none⟩)), (4, 93, .slice (some ⟨g, 0, none⟩) N N), (5, 94, .pointer (some ⟨p2, 1, none⟩)), (6, 95, .int .i64 t), (7, 96, .pointer (some ⟨g, t, none⟩)), (8, 97, v), (9, 98, .agg #[.int .i64 T, .int .i64 B, .int .i64 I, .slice X xn xc]), (10, 99, .agg #[.int .i64 ok, .int .i64 t, .int .i64 on, .int .i64 n, .slice A h.length a, .slice D b.length d]), (11, 100, .tuple #[u, .bool true]), (12, 88, .tuple #[u, .bool true]), (13, 101, u), (14, 102, .bool true), (15, 103, .pointer (some ⟨g, t, none⟩)), (17, 13, .bool true)] f a0 ∧ Sat G' W (blk g (cond (f 16) (U.set t u) U).toArray 48 :: quA q (cond (f 11) (Q.set t L') Q) B I :: blk p2 #[.int .i64 ok, .int .i64 t, .int .i64 on, .int .i64 n, .slice A h.length a, .slice D b.length d] 46 :: blk p1 #[.int .i64 T, .int .i64 B, .int .i64 I, .slice X xn xc] 41 :: l)) ?_ ?_ ?_
  · exact ⟨undef, G, (by unfold HSt; decide), Gnd.le.rfl', (by intro h; cases h), rfl, (S2.re [2, 3, 0, 1]).drew⟩
  · refine ⟨?_, ?_, ?_, ?_, ?_, ?_, ?_, ?_, ?_, ?_, ?_, ?_, ?_, ?_, ?_, ?_, ?_, ?_, trivial⟩
    · rintro f a' W h0 hd ⟨u, G', hh, hG, hu, rfl, S⟩
      refine wpOp_run (v := .slice (some ⟨g, 0, none⟩) N N) rfl rfl (fun ρ hρ => ?_) ⟨u, G', hh, hG, hu, (acts_some 0 rfl (by kernel_rfl) (by kernel_rfl)).symm, S⟩
      have e0 : ρ (.tmp 1) = .slice (some ⟨g, 0, none⟩) N N := by rw [hρ]; exact (acts_eval_tmp 1 (by kernel_rfl)).trans E1
      clear hρ
      go_simp
    · rintro f a' W h1 hd ⟨u, G', hh, hG, hu, rfl, S⟩
      refine wpOp_run (v := .pointer (some ⟨p2, 1, none⟩)) rfl rfl (fun ρ hρ => ?_) ⟨u, G', hh, hG, hu, (acts_some 1 rfl (by kernel_rfl) (by kernel_rfl)).symm, S⟩
      have e0 : ρ (.tmp 7) = .pointer (some ⟨p2, 0, none⟩) := by rw [hρ]; exact (acts_eval_tmp 7 (by kernel_rfl)).trans E7
      clear hρ
      go_simp
    · rintro f a' W h2 hd ⟨u, G', hh, hG, hu, rfl, S⟩
      refine wpOp_run (v := .int .i64 t) rfl rfl (fun ρ hρ => ?_) ⟨u, G', hh, hG, hu, (acts_some 2 rfl (by kernel_rfl) (by kernel_rfl)).symm, S⟩
      have e0 : ρ (.tmp 90) = .pointer (some ⟨p2, 1, none⟩) := by rw [hρ]; exact acts_eval_hit 1 rfl hd.1 (by rw [HSZ]; rfl) (by kernel_rfl)
      clear hρ
      (have hz := S.pull2.cell 1)
      go_simp
    · rintro f a' W h3 hd ⟨u, G', hh, hG, hu, rfl, S⟩
      refine wpOp_run (v := .pointer (some ⟨q, 0, none⟩)) rfl rfl (fun ρ hρ => ?_) ⟨u, G', hh, hG, hu, (acts_some 3 rfl (by kernel_rfl) (by kernel_rfl)).symm, S⟩
      have e0 : ρ (.tmp 0) = .pointer (some ⟨q, 0, none⟩) := by rw [hρ]; exact (acts_eval_tmp 0 (by kernel_rfl)).trans E0
      clear hρ
      go_simp
    · rintro f a' W h4 hd ⟨u, G', hh, hG, hu, rfl, S⟩
      refine wpOp_run (v := .slice (some ⟨g, 0, none⟩) N N) rfl rfl (fun ρ hρ => ?_) ⟨u, G', hh, hG, hu, (acts_some 4 rfl (by kernel_rfl) (by kernel_rfl)).symm, S⟩
      have e0 : ρ (.tmp 1) = .slice (some ⟨g, 0, none⟩) N N := by rw [hρ]; exact (acts_eval_tmp 1 (by kernel_rfl)).trans E1
      clear hρ
      go_simp
    · rintro f a' W h5 hd ⟨u, G', hh, hG, hu, rfl, S⟩
      refine wpOp_run (v := .pointer (some ⟨p2, 1, none⟩)) rfl rfl (fun ρ hρ => ?_) ⟨u, G', hh, hG, hu, (acts_some 5 rfl (by kernel_rfl) (by kernel_rfl)).symm, S⟩
      have e0 : ρ (.tmp 7) = .pointer (some ⟨p2, 0, none⟩) := by rw [hρ]; exact (acts_eval_tmp 7 (by kernel_rfl)).trans E7
      clear hρ
      go_simp
    · rintro f a' W h6 hd ⟨u, G', hh, hG, hu, rfl, S⟩
      refine wpOp_run (v := .int .i64 t) rfl rfl (fun ρ hρ => ?_) ⟨u, G', hh, hG, hu, (acts_some 6 rfl (by kernel_rfl) (by kernel_rfl)).symm, S⟩
      have e0 : ρ (.tmp 94) = .pointer (some ⟨p2, 1, none⟩) := by rw [hρ]; exact acts_eval_hit 5 rfl hd.1 (by rw [HSZ]; rfl) (by kernel_rfl)
      clear hρ
      (have hz := S.pull2.cell 1)
      go_simp
    · rintro f a' W h7 hd ⟨u, G', hh, hG, hu, rfl, S⟩
      refine wpOp_run (v := .pointer (some ⟨g, t, none⟩)) rfl rfl (fun ρ hρ => ?_) ⟨u, G', hh, hG, hu, (acts_some 7 rfl (by kernel_rfl) (by kernel_rfl)).symm, S⟩
      have e0 : ρ (.tmp 93) = .slice (some ⟨g, 0, none⟩) N N := by rw [hρ]; exact acts_eval_hit 4 rfl hd.1 (by rw [HSZ]; rfl) (by kernel_rfl)
      have e1 : ρ (.tmp 95) = .int .i64 t := by rw [hρ]; exact acts_eval_hit 6 rfl hd.2.1 (by rw [HSZ]; rfl) (by kernel_rfl)
      clear hρ
      go_simp
    · rintro f a' W h8 hd ⟨u, G', hh, hG, hu, rfl, S⟩
      (have z11 := no_of hh.1 h8; have z12 := no_of hh.2.1 z11; have z13 := no_of hh.2.2.1 z12; have z16 := no_of hh.2.2.2 z13)
      refine wpOp_run (v := v) rfl rfl (fun ρ hρ => ?_) ⟨u, G', ⟨fun _ => rfl, hh.2⟩, hG, hu, (acts_some 8 rfl (by kernel_rfl) (by kernel_rfl)).symm, S⟩
      have e0 : ρ (.tmp 96) = .pointer (some ⟨g, t, none⟩) := by rw [hρ]; exact acts_eval_hit 7 rfl hd.1 (by rw [HSZ]; rfl) (by kernel_rfl)
      clear hρ
      (have S9 := S; rw [z16] at S9; have hz := (S9.cell t).trans HGU.out)
      go_simp
    · rintro f a' W h9 hd ⟨u, G', hh, hG, hu, rfl, S⟩
      refine wpOp_run (v := .agg #[.int .i64 T, .int .i64 B, .int .i64 I, .slice X xn xc]) rfl rfl (fun ρ hρ => ?_) ⟨u, G', hh, hG, hu, (acts_some 9 rfl (by kernel_rfl) (by kernel_rfl)).symm, S⟩
      have e0 : ρ (.tmp 6) = .pointer (some ⟨p1, 0, none⟩) := by rw [hρ]; exact (acts_eval_tmp 6 (by kernel_rfl)).trans E6
      clear hρ
      (have hz0 := S.pull3.cell 0; have hz1 := S.pull3.cell 1; have hz2 := S.pull3.cell 2; have hz3 := S.pull3.cell 3)
      go_simp
    · rintro f a' W h10 hd ⟨u, G', hh, hG, hu, rfl, S⟩
      refine wpOp_run (v := .agg #[.int .i64 ok, .int .i64 t, .int .i64 on, .int .i64 n, .slice A h.length a, .slice D b.length d]) rfl rfl (fun ρ hρ => ?_) ⟨u, G', hh, hG, hu, (acts_some 10 rfl (by kernel_rfl) (by kernel_rfl)).symm, S⟩
      have e0 : ρ (.tmp 7) = .pointer (some ⟨p2, 0, none⟩) := by rw [hρ]; exact (acts_eval_tmp 7 (by kernel_rfl)).trans E7
      clear hρ
      (have hz0 := S.pull2.cell 0; have hz1 := S.pull2.cell 1; have hz2 := S.pull2.cell 2; have hz3 := S.pull2.cell 3; have hz4 := S.pull2.cell 4; have hz5 := S.pull2.cell 5)
      go_simp
    · rintro f a' W h11 hd ⟨u, G', hh, hG, hu, rfl, S⟩
      (have z12 := no_of hh.2.1 h11; have z13 := no_of hh.2.2.1 z12; have z16 := no_of hh.2.2.2 z13; rw [h11, z16] at S)
      refine wpOp_call rfl rfl (fun ρ hρ => ?_) (HON.out hG S.swap) ?_
      · skip
        have e0 : ρ (.tmp 92) = .pointer (some ⟨q, 0, none⟩) := by rw [hρ]; exact acts_eval_hit 3 rfl hd.1 (by rw [HSZ]; rfl) (by kernel_rfl)
        have e1 : ρ (.tmp 97) = v := by rw [hρ]; exact acts_eval_hit 8 rfl hd.2.1 (by rw [HSZ]; rfl) (by kernel_rfl)
        have e2 : ρ (.tmp 98) = .agg #[.int .i64 T, .int .i64 B, .int .i64 I, .slice X xn xc] := by rw [hρ]; exact acts_eval_hit 9 rfl hd.2.2.1 (by rw [HSZ]; rfl) (by kernel_rfl)
        have e3 : ρ (.tmp 99) = .agg #[.int .i64 ok, .int .i64 t, .int .i64 on, .int .i64 n, .slice A h.length a, .slice D b.length d] := by rw [hρ]; exact acts_eval_hit 10 rfl hd.2.2.2.1 (by rw [HSZ]; rfl) (by kernel_rfl)
        have ef : ρ (.func 20) = .func (.func 20) #[] #[] := by rw [hρ]; rfl
        clear hρ
        go_simp
      · (rintro x W' ⟨u2, G2, hG2, rfl, hr3, S'⟩; exact ⟨_, rfl, u2, G2, ⟨fun _ => hd.2.1, fun _ => rfl, hh.2.2⟩, hG.trans hG2, fun _ => hr3, acts_swap (by simp only [acts, h11, z12, z13, Bool.false_eq_true, if_false]) (k := 11) rfl (by kernel_rfl) (by kernel_rfl), (by show Sat _ _ (blk g (cond (f 16) (U.set t u2) U).toArray _ :: _); rw [z16]; exact S'.swap)⟩)
    · rintro f a' W h12 hd ⟨u, G', hh, hG, hu, rfl, S⟩
      refine wpOp_run (v := .tuple #[u, .bool true]) rfl rfl (fun ρ hρ => ?_) ⟨u, G', ⟨hh.1, fun _ => hd.1, fun h => rfl, hh.2.2.2⟩, hG, hu, (acts_some 12 rfl (by kernel_rfl) (by kernel_rfl)).symm, S⟩
      have e0 : ρ (.tmp 100) = .tuple #[u, .bool true] := by rw [hρ]; exact acts_eval_hit 11 rfl hd.1 (by rw [HSZ]; rfl) (by kernel_rfl)
      clear hρ
      skip
      go_simp
    · rintro f a' W h13 hd ⟨u, G', hh, hG, hu, rfl, S⟩
      refine wpOp_run (v := u) rfl rfl (fun ρ hρ => ?_) ⟨u, G', ⟨hh.1, hh.2.1, fun _ => hd.1, fun h => rfl⟩, hG, hu, (acts_some 13 rfl (by kernel_rfl) (by kernel_rfl)).symm, S⟩
      have e0 : ρ (.tmp 88) = .tuple #[u, .bool true] := by rw [hρ]; exact acts_eval_hit 12 rfl hd.1 (by rw [HSZ]; rfl) (by kernel_rfl)
      clear hρ
      skip
      go_simp
    · rintro f a' W h14 hd ⟨u, G', hh, hG, hu, rfl, S⟩
      refine wpOp_run (v := .bool true) rfl rfl (fun ρ hρ => ?_) ⟨u, G', hh, hG, hu, (acts_some 14 rfl (by kernel_rfl) (by kernel_rfl)).symm, S⟩
      have e0 : ρ (.tmp 88) = .tuple #[u, .bool true] := by rw [hρ]; exact acts_eval_hit 12 rfl hd.1 (by rw [HSZ]; rfl) (by kernel_rfl)
      clear hρ
      go_simp
    · rintro f a' W h15 hd ⟨u, G', hh, hG, hu, rfl, S⟩
      refine wpOp_run (v := .pointer (some ⟨g, t, none⟩)) rfl rfl (fun ρ hρ => ?_) ⟨u, G', hh, hG, hu, (acts_some 15 rfl (by kernel_rfl) (by kernel_rfl)).symm, S⟩
      have e0 : ρ (.tmp 89) = .slice (some ⟨g, 0, none⟩) N N := by rw [hρ]; exact acts_eval_hit 0 rfl hd.1 (by rw [HSZ]; rfl) (by kernel_rfl)
      have e1 : ρ (.tmp 91) = .int .i64 t := by rw [hρ]; exact acts_eval_hit 2 rfl hd.2.1 (by rw [HSZ]; rfl) (by kernel_rfl)
      clear hρ
      go_simp
    · rintro f a' W h16 hd ⟨u, G', hh, hG, hu, rfl, S⟩
      have q103 : (acts [(0, 89, .slice (some ⟨g, 0, none⟩) N N), (1, 90, .pointer (some ⟨p2, 1, none⟩)), (2, 91, .int .i64 t), (3, 92, .pointer (some ⟨q, 0, none⟩)), (4, 93, .slice (some ⟨g, 0, none⟩) N N), (5, 94, .pointer (some ⟨p2, 1, none⟩)), (6, 95, .int .i64 t), (7, 96, .pointer (some ⟨g, t, none⟩)), (8, 97, v), (9, 98, .agg #[.int .i64 T, .int .i64 B, .int .i64 I, .slice X xn xc]), (10, 99, .agg #[.int .i64 ok, .int .i64 t, .int .i64 on, .int .i64 n, .slice A h.length a, .slice D b.length d]), (11, 100, .tuple #[u, .bool true]), (12, 88, .tuple #[u, .bool true]), (13, 101, u), (14, 102, .bool true), (15, 103, .pointer (some ⟨g, t, none⟩)), (17, 13, .bool true)] f a0).eval (.tmp 103) = .pointer (some ⟨g, t, none⟩) := acts_eval_hit 15 rfl hd.1 (by rw [HSZ]; rfl) (by kernel_rfl)
      have q101 : (acts [(0, 89, .slice (some ⟨g, 0, none⟩) N N), (1, 90, .pointer (some ⟨p2, 1, none⟩)), (2, 91, .int .i64 t), (3, 92, .pointer (some ⟨q, 0, none⟩)), (4, 93, .slice (some ⟨g, 0, none⟩) N N), (5, 94, .pointer (some ⟨p2, 1, none⟩)), (6, 95, .int .i64 t), (7, 96, .pointer (some ⟨g, t, none⟩)), (8, 97, v), (9, 98, .agg #[.int .i64 T, .int .i64 B, .int .i64 I, .slice X xn xc]), (10, 99, .agg #[.int .i64 ok, .int .i64 t, .int .i64 on, .int .i64 n, .slice A h.length a, .slice D b.length d]), (11, 100, .tuple #[u, .bool true]), (12, 88, .tuple #[u, .bool true]), (13, 101, u), (14, 102, .bool true), (15, 103, .pointer (some ⟨g, t, none⟩)), (17, 13, .bool true)] f a0).eval (.tmp 101) = u := acts_eval_hit 13 rfl hd.2.1 (by rw [HSZ]; rfl) (by kernel_rfl)
      (rw [h16] at S; refine wpOp_list rfl ?_; refine st_set rfl _ _ _ rfl g t u q103 q101 ((hu (hh.2.1 (hh.2.2.1 hd.2.1))).one) _ _ S rfl HTU.out fun W' S' => ?_; refine ⟨u, G', ⟨hh.1, hh.2.1, hh.2.2.1, fun _ => hd.2.1⟩, hG, hu, (acts_none 16 (by kernel_rfl)).symm, ?_⟩; rw [List.setIfInBounds_toArray] at S'; exact S')
    · rintro f a' W h17 hd ⟨u, G', hh, hG, hu, rfl, S⟩
      refine wpOp_run (v := .bool true) rfl rfl (fun ρ hρ => ?_) ⟨u, G', hh, hG, hu, (acts_some 16 rfl (by kernel_rfl) (by kernel_rfl)).symm, S⟩
      have e0 : ρ (.tmp 102) = .bool true := by rw [hρ]; exact acts_eval_hit 14 rfl hd.1 (by rw [HSZ]; rfl) (by kernel_rfl)
      clear hρ
      go_simp
  rintro a' W ⟨u, G', -, hG, hu, rfl, S3⟩
  replace hu := hu rfl
  subst ha0
  simp only [acts, if_true, Act.put, List.setIfInBounds_toArray, List.set_cons_succ, List.set_cons_zero]
  have HS := Lib.hid (HSM.out G' u W hG hu S3.pull2.drop.pull2.drop)
  clear S3 S2 HSZ E0 E1 E6 E7 hu
  go_wp2_with fail
  exact HS.out

theorem law_step (H : Sat G w (blk g U.toArray 48 :: quA q Q B I :: l)) (hw : QWf Q B I) (hm : MR (cellR G.ro) U Q) (hT : T = Q.length) (ho : o.ok G.ro) :
    Calls Try.prog 17 #[.pointer (some ⟨q, 0, none⟩), .slice (some ⟨g, 0, none⟩) Q.length Q.length, .agg #[.int .i64 T, .int .i64 B, .int .i64 I, .slice X xn xc], .agg o.cells.toArray] w fun e w' => ∃ U' Q' G', G.le G' ∧ e = .returned (.bool true) ∧ QWf Q' B I ∧ Q'.length = Q.length ∧ MR (cellR G'.ro) U' Q' ∧ Sat G' w' (blk g U'.toArray 48 :: quA q Q' B I :: l) ∧ (o.k ≠ 6 → ∀ t : Nat, o.t ≠ t → Q'.getD t [] = Q.getD t [] ∧ U'.getD t undef = U.getD t undef) := by
  by_cases h6 : o.k = 6
  · exact step_clear H hw hm hT ho (beq_iff_eq.2 h6)
  by_cases ht : o.t < 0 ∨ (Q.length : Int) ≤ o.t
  · exact step_out H hw hm hT ho ht (beq_eq_false_iff_ne.2 h6)
  · exact step_one H hw hm hT ho (by omega) (beq_eq_false_iff_ne.2 h6)
end
end Go.Proofs.Ytidaafpfkbfiaaa
