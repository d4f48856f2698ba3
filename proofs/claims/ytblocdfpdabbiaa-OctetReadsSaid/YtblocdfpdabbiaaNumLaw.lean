/- The walk of the law OctetNum. -/
import Derived.Test.YtblocdfpdabbiaaOrder
set_option linter.unusedSimpArgs false
set_option linter.unusedVariables false
namespace Go.Proofs.Ytblocdfpdabbiaa
open Go.RowKit

theorem SlV.sat {G : Gnd} {w : World} {l : List Asrt} {v : Value} {n : Nat} {cs : List Value} (H : Sat G w l) (h : SlV (cellR G.ro) v n cs) : SlV w.cell? v n cs := by
  obtain ⟨A, c, hv, h1, h2, h3⟩ := h
  exact ⟨A, c, hv, h1, h2, fun j u hj => by obtain ⟨a, hA, hc⟩ := h3 j u hj; exact ⟨a, hA, H.cellR hc⟩⟩
theorem byte_cell {R : Hp} {d : D} {es : List Value} (h : Rd R (.int .u8) d es) : ∃ c : UInt8, es = [byteV c] := by
  cases d <;> simp only [Rd] at h
  rename_i n
  obtain ⟨rfl, h⟩ := h
  have h1 : 0 ≤ n ∧ n ≤ 255 := by
    simp [Lit.wf] at h
    exact h
  refine ⟨UInt8.ofNat n.toNat, ?_⟩
  have : (UInt8.ofNat n.toNat).toNat = n.toNat := by simp; omega
  simp only [byteV, this]
  congr 2
  omega
theorem bytes_of {R : Hp} {v : Value} {l : List D} (h : RdSl R 1 (.int .u8) v l) : ∃ bs : List UInt8, bs.length = l.length ∧ bs.length ≤ 140737488351232 ∧ SlV (cellR R) v bs.length (bs.map byteV) := by
  obtain ⟨A, c, hv, hlc, hc, hb, _, hel⟩ := h.form
  have key : ∀ i, i < l.length → ∃ b : UInt8, ∃ a, A = some a ∧ cellR R (a.add i) = some (byteV b) := fun i hi => by
    obtain ⟨a, hA, es, he, hc, hr⟩ := hel i l[i] (List.getElem?_eq_getElem hi)
    obtain ⟨b, rfl⟩ := byte_cell hr
    have := hc 0 (by simp [Ty.size])
    simp only [Ty.size, Nat.mul_one, Nat.add_zero] at this
    exact ⟨b, a, hA, this⟩
  obtain ⟨bs, hbl, hbs⟩ := list_of_each (Q := fun i (b : UInt8) => ∃ a, A = some a ∧ cellR R (a.add i) = some (byteV b)) l.length key
  refine ⟨bs, hbl, by omega, A, c, by rw [hbl]; exact hv, by omega, Nat.le_trans hc (by decide), fun j u hj => ?_⟩
  rw [List.getElem?_map] at hj
  cases hb : bs[j]? with
  | none => rw [hb] at hj; cases hj
  | some b => rw [hb] at hj; cases hj; exact hbs j b hb
theorem bigOf_numOf (bs : List UInt8) : bigOf (numOf bs) bs.length = bs := by
  have key : ∀ (bs : List UInt8) (a : Nat), bigOf (a * 256 ^ bs.length + numOf bs) bs.length = bs := by
    intro bs
    induction bs with
    | nil => intro a; simp [bigOf]
    | cons c bs ih =>
      intro a
      have h2 := numOf_lt bs
      have hc := c.toNat_lt
      rw [List.length_cons, bigOf_succ, numOf_cons]
      have e : a * 256 ^ (bs.length + 1) + (c.toNat * 256 ^ bs.length + numOf bs) = (a * 256 + c.toNat) * 256 ^ bs.length + numOf bs := by
        rw [Nat.pow_succ, Nat.add_mul, Nat.mul_assoc, Nat.mul_comm 256]; omega
      rw [e, ih (a * 256 + c.toNat)]
      congr 1
      have h3 : ((a * 256 + c.toNat) * 256 ^ bs.length + numOf bs) / 256 ^ bs.length = a * 256 + c.toNat := by
        rw [Nat.mul_comm, Nat.mul_add_div (Nat.pos_of_ne_zero (by simp)), Nat.div_eq_of_lt h2, Nat.add_zero]
      rw [h3, show (a * 256 + c.toNat) % 256 = c.toNat by omega]
      simp
  have := key bs 0
  simpa using this
theorem octet_big_all {G : Gnd} {w : World} {l : List Asrt} (H : Sat G w l) (x n : Nat) (hx : x < 18446744073709551616) (h2 : n ≤ 64) :
    Calls Try.prog 7 #[.int .u64 x, .int .i64 n] w fun e w' => ∃ u, e = .returned u ∧ Sat G w' (ownS 5 1 u n ((bigOf x n).map byteV) :: l) := by
  by_cases h0 : n = 0
  · subst h0
    exact (octet_big_none x 0 w (by omega)).mono fun e w' h => ⟨_, h.1, by rw [← h.2]; exact H.ownNil 5 1⟩
  · exact (octet_big H x n hx (by omega) h2).mono fun e w' h => by
      obtain ⟨g, rfl, S⟩ := h
      exact ⟨_, rfl, by have := S.ownBlk (size := 1) n (by simp [bigOf_length]) (Nat.le_trans h2 (by decide)); simpa using this⟩
set_option maxHeartbeats 4000000 in
set_option maxRecDepth 100000 in
theorem octetNum_walk (w : World) (v0 : Value) (h0 : ∃ d, ArgV w (.sl 1 (.int .u8)) v0 d) :
    Calls Try.prog 4 #[v0] w fun e w' => e = .returned (.bool true) ∧ Below w.heap.size w w' := by
  refine calls_any fun K hK => ?_
  obtain ⟨_, h0⟩ := h0
  obtain ⟨l, h0⟩ := arg_sl h0
  obtain ⟨bs, -, hlen, hb⟩ := bytes_of h0
  clear h0
  have S0 := Sat.start w
  have hbw : SlV w.cell? v0 bs.length (bs.map byteV) := hb.sat S0
  have hnum := octet_num bs v0 w hbw
  have hb' := hb
  obtain ⟨A, c, rfl, _, _, _⟩ := hb'
  by_cases h8 : 8 < bs.length
  · rw [if_neg (by omega), decide_eq_false (by omega)] at hnum
    have haw := law_awake S0
    have hl8 : 8 < (bs.length : Int) := by omega
    go_enter Try.func4, Try.ntmps4
    go_wp2_with fail
    (with_reducible refine hnum.mono ?_)
    rintro e w1 ⟨rfl, rfl⟩
    go_wp2_with fail
    (with_reducible refine haw.mono ?_)
    rintro e w1 ⟨rfl, hb⟩
    go_wp2_with fail
    exact hK.out _ _ ⟨rfl, hb.above Gnd.le.rfl'⟩
  · have hx : numOf bs < 18446744073709551616 := by
      have := numOf_cons_lt bs bs.length (by omega)
      rwa [List.take_length] at this
    have hbig := bigOf_numOf bs
    rw [if_pos (by omega), decide_eq_true (by omega)] at hnum
    go_enter Try.func4, Try.ntmps4
    go_wp2_with fail
    (with_reducible refine hnum.mono ?_)
    clear hnum hbw
    rintro e w1 ⟨rfl, rfl⟩
    go_upto_region 4 with fail
    refine wp_act fun a0 ha0 => ?_
    have HSZ : a0.tmps.size = 43 := by rw [ha0]; rfl
    have E4 : a0.eval (.tmp 4) = .bool true := by rw [ha0]; rfl
    have E3 : a0.eval (.tmp 3) = .int .u64 (numOf bs) := by rw [ha0]; rfl
    have E0 : a0.eval (.tmp 0) = .slice A bs.length c := by rw [ha0]; rfl
    refine wp_region_J (by kernel_rfl) 22 (by kernel_rfl) [[], [0], [1], [1], [3, 1], [4, 1, 1], [2, 5, 1], [1, 6], [7, 5], [8], [8], [10, 8], [9, 11, 8, 8], [12, 8], [8], [14, 8], [13, 15, 8], [8, 16], [17, 12], [18, 18], [18, 19], [20, 19, 0, 1, 2, 3, 4, 5, 6, 7, 8, 9, 10, 11, 12, 13, 14, 15, 16, 17, 18, 19, 20]] (by kernel_rfl) (by kernel_rfl) (fun f a' W => ∃ u, a' = acts [(0, 22, .bool true), (1, 23, .bool true), (2, 24, .int .u64 (numOf bs)), (3, 25, .slice A bs.length c), (4, 26, .string (bstr bs)), (5, 27, .int .u64 (numOf bs)), (6, 28, .bool true), (7, 29, .bool true), (8, 30, .bool true), (9, 31, .int .u64 (numOf bs)), (10, 32, .slice A bs.length c), (11, 33, .int .i64 bs.length), (12, 34, u), (13, 35, .string (bstr bs)), (14, 36, .slice A bs.length c), (15, 37, .string (bstr bs)), (16, 38, .bool true), (17, 39, .bool true), (18, 40, .bool true), (19, 41, .bool true), (20, 42, .bool true), (21, 2, .bool true)] f a0 ∧ Sat (Gnd.of w) W (opt (f 12) (ownS 5 1 u bs.length (bs.map byteV)) :: [])) ?_ ?_ ?_
    · exact ⟨undef, rfl, S0.drew.opt0⟩
    · refine ⟨?_, ?_, ?_, ?_, ?_, ?_, ?_, ?_, ?_, ?_, ?_, ?_, ?_, ?_, ?_, ?_, ?_, ?_, ?_, ?_, ?_, ?_, trivial⟩
      · rintro f a' W h0 hd ⟨u, rfl, S⟩
        refine wpOp_run (v := .bool true) rfl rfl (fun ρ hρ => ?_) ⟨u, (acts_some 0 rfl (by kernel_rfl) (by kernel_rfl)).symm, S⟩
        have e0 : ρ (.tmp 4) = .bool true := by rw [hρ]; exact (acts_eval_tmp 4 (by kernel_rfl)).trans E4
        clear hρ
        go_simp
      · rintro f a' W h1 hd ⟨u, rfl, S⟩
        refine wpOp_run (v := .bool true) rfl rfl (fun ρ hρ => ?_) ⟨u, (acts_some 1 rfl (by kernel_rfl) (by kernel_rfl)).symm, S⟩
        have e0 : ρ (.tmp 22) = .bool true := by rw [hρ]; exact acts_eval_hit 0 rfl hd.1 (by rw [HSZ]; rfl) (by kernel_rfl)
        clear hρ
        go_simp
      · rintro f a' W h2 hd ⟨u, rfl, S⟩
        refine wpOp_runG (v := .int .u64 (numOf bs)) rfl ?_ (fun ρ hρ => ?_) ⟨u, (acts_some 2 rfl (by kernel_rfl) (by kernel_rfl)).symm, S⟩
        · exact wanted_hit (t := 23) rfl rfl (acts_eval_hit 1 rfl hd.1 (by rw [HSZ]; rfl) (by kernel_rfl))
        · skip
          have e0 : ρ (.tmp 3) = .int .u64 (numOf bs) := by rw [hρ]; exact (acts_eval_tmp 3 (by kernel_rfl)).trans E3
          clear hρ
          go_simp
      · rintro f a' W h3 hd ⟨u, rfl, S⟩
        refine wpOp_runG (v := .slice A bs.length c) rfl ?_ (fun ρ hρ => ?_) ⟨u, (acts_some 3 rfl (by kernel_rfl) (by kernel_rfl)).symm, S⟩
        · exact wanted_hit (t := 23) rfl rfl (acts_eval_hit 1 rfl hd.1 (by rw [HSZ]; rfl) (by kernel_rfl))
        · skip
          have e0 : ρ (.tmp 0) = .slice A bs.length c := by rw [hρ]; exact (acts_eval_tmp 0 (by kernel_rfl)).trans E0
          clear hρ
          go_simp
      · rintro f a' W h4 hd ⟨u, rfl, S⟩
        refine wpOp_runG (v := .string (bstr bs)) rfl ?_ (fun ρ hρ => ?_) ⟨u, (acts_some 4 rfl (by kernel_rfl) (by kernel_rfl)).symm, S⟩
        · exact wanted_hit (t := 23) rfl rfl (acts_eval_hit 1 rfl hd.2.1 (by rw [HSZ]; rfl) (by kernel_rfl))
        · skip
          have e0 : ρ (.tmp 25) = .slice A bs.length c := by rw [hρ]; exact acts_eval_hit 3 rfl hd.1 (by rw [HSZ]; rfl) (by kernel_rfl)
          clear hρ
          (have hcv := conv_bytes _ bs W (hb.sat S))
          go_simp
      · rintro f a' W h5 hd ⟨u, rfl, S⟩
        refine wpOp_callG rfl (wanted_hit (t := 23) rfl rfl (acts_eval_hit 1 rfl hd.2.1 (by rw [HSZ]; rfl) (by kernel_rfl))) (fun ρ hρ => ?_) (ref_num bs (by omega) W) ?_
        · skip
          have e0 : ρ (.tmp 26) = .string (bstr bs) := by rw [hρ]; exact acts_eval_hit 4 rfl hd.1 (by rw [HSZ]; rfl) (by kernel_rfl)
          have ef : ρ (.func 11) = .func (.func 11) #[] #[] := by rw [hρ]; rfl
          clear hρ
          go_simp
        · (rintro e W' ⟨rfl, rfl⟩; exact ⟨_, rfl, u, (acts_some 5 rfl (by kernel_rfl) (by kernel_rfl)).symm, S⟩)
      · rintro f a' W h6 hd ⟨u, rfl, S⟩
        refine wpOp_runG (v := .bool true) rfl ?_ (fun ρ hρ => ?_) ⟨u, (acts_some 6 rfl (by kernel_rfl) (by kernel_rfl)).symm, S⟩
        · exact wanted_hit (t := 23) rfl rfl (acts_eval_hit 1 rfl hd.2.2.1 (by rw [HSZ]; rfl) (by kernel_rfl))
        · skip
          have e0 : ρ (.tmp 24) = .int .u64 (numOf bs) := by rw [hρ]; exact acts_eval_hit 2 rfl hd.1 (by rw [HSZ]; rfl) (by kernel_rfl)
          have e1 : ρ (.tmp 27) = .int .u64 (numOf bs) := by rw [hρ]; exact acts_eval_hit 5 rfl hd.2.1 (by rw [HSZ]; rfl) (by kernel_rfl)
          clear hρ
          go_simp
      · rintro f a' W h7 hd ⟨u, rfl, S⟩
        refine wpOp_run (v := .bool true) rfl rfl (fun ρ hρ => ?_) ⟨u, (acts_some 7 rfl (by kernel_rfl) (by kernel_rfl)).symm, S⟩
        have e0 : ρ (.tmp 23) = .bool true := by rw [hρ]; exact acts_eval_hit 1 rfl hd.1 (by rw [HSZ]; rfl) (by kernel_rfl)
        have e1 : ρ (.tmp 28) = .bool true := by rw [hρ]; exact acts_eval_hit 6 rfl hd.2.1 (by rw [HSZ]; rfl) (by kernel_rfl)
        clear hρ
        go_simp
      · rintro f a' W h8 hd ⟨u, rfl, S⟩
        refine wpOp_run (v := .bool true) rfl rfl (fun ρ hρ => ?_) ⟨u, (acts_some 8 rfl (by kernel_rfl) (by kernel_rfl)).symm, S⟩
        have e0 : ρ (.tmp 29) = .bool true := by rw [hρ]; exact acts_eval_hit 7 rfl hd.1 (by rw [HSZ]; rfl) (by kernel_rfl)
        clear hρ
        go_simp
      · rintro f a' W h9 hd ⟨u, rfl, S⟩
        refine wpOp_runG (v := .int .u64 (numOf bs)) rfl ?_ (fun ρ hρ => ?_) ⟨u, (acts_some 9 rfl (by kernel_rfl) (by kernel_rfl)).symm, S⟩
        · exact wanted_hit (t := 30) rfl rfl (acts_eval_hit 8 rfl hd.1 (by rw [HSZ]; rfl) (by kernel_rfl))
        · skip
          have e0 : ρ (.tmp 3) = .int .u64 (numOf bs) := by rw [hρ]; exact (acts_eval_tmp 3 (by kernel_rfl)).trans E3
          clear hρ
          go_simp
      · rintro f a' W h10 hd ⟨u, rfl, S⟩
        refine wpOp_runG (v := .slice A bs.length c) rfl ?_ (fun ρ hρ => ?_) ⟨u, (acts_some 10 rfl (by kernel_rfl) (by kernel_rfl)).symm, S⟩
        · exact wanted_hit (t := 30) rfl rfl (acts_eval_hit 8 rfl hd.1 (by rw [HSZ]; rfl) (by kernel_rfl))
        · skip
          have e0 : ρ (.tmp 0) = .slice A bs.length c := by rw [hρ]; exact (acts_eval_tmp 0 (by kernel_rfl)).trans E0
          clear hρ
          go_simp
      · rintro f a' W h11 hd ⟨u, rfl, S⟩
        refine wpOp_runG (v := .int .i64 bs.length) rfl ?_ (fun ρ hρ => ?_) ⟨u, (acts_some 11 rfl (by kernel_rfl) (by kernel_rfl)).symm, S⟩
        · exact wanted_hit (t := 30) rfl rfl (acts_eval_hit 8 rfl hd.2.1 (by rw [HSZ]; rfl) (by kernel_rfl))
        · skip
          have e0 : ρ (.tmp 32) = .slice A bs.length c := by rw [hρ]; exact acts_eval_hit 10 rfl hd.1 (by rw [HSZ]; rfl) (by kernel_rfl)
          clear hρ
          go_simp
      · rintro f a' W h12 hd ⟨u, rfl, S⟩
        refine wpOp_callG rfl (wanted_hit (t := 30) rfl rfl (acts_eval_hit 8 rfl hd.2.2.1 (by rw [HSZ]; rfl) (by kernel_rfl))) (fun ρ hρ => ?_) (octet_big_all S (numOf bs) bs.length hx (by omega)) ?_
        · skip
          have e0 : ρ (.tmp 31) = .int .u64 (numOf bs) := by rw [hρ]; exact acts_eval_hit 9 rfl hd.1 (by rw [HSZ]; rfl) (by kernel_rfl)
          have e1 : ρ (.tmp 33) = .int .i64 bs.length := by rw [hρ]; exact acts_eval_hit 11 rfl hd.2.1 (by rw [HSZ]; rfl) (by kernel_rfl)
          have ef : ρ (.func 7) = .func (.func 7) #[] #[] := by rw [hρ]; rfl
          clear hρ
          go_simp
        · (rintro e W' ⟨u', rfl, S'⟩; rw [hbig] at S'; exact ⟨_, rfl, u', acts_swap (by simp only [acts, h12, Bool.false_eq_true, if_false]) (k := 12) rfl (by kernel_rfl) (by kernel_rfl), Sat.optI rfl S'.drop2⟩)
      · rintro f a' W h13 hd ⟨u, rfl, S⟩
        refine wpOp_runG (v := .string (bstr bs)) rfl ?_ (fun ρ hρ => ?_) ⟨u, (acts_some 13 rfl (by kernel_rfl) (by kernel_rfl)).symm, S⟩
        · exact wanted_hit (t := 30) rfl rfl (acts_eval_hit 8 rfl hd.2.1 (by rw [HSZ]; rfl) (by kernel_rfl))
        · skip
          have e0 : ρ (.tmp 34) = u := by rw [hρ]; exact acts_eval_hit 12 rfl hd.1 (by rw [HSZ]; rfl) (by kernel_rfl)
          clear hρ
          (have hcv := conv_bytes _ bs W (slv_own (Sat.optE hd.1 S)))
          go_simp
      · rintro f a' W h14 hd ⟨u, rfl, S⟩
        refine wpOp_runG (v := .slice A bs.length c) rfl ?_ (fun ρ hρ => ?_) ⟨u, (acts_some 14 rfl (by kernel_rfl) (by kernel_rfl)).symm, S⟩
        · exact wanted_hit (t := 30) rfl rfl (acts_eval_hit 8 rfl hd.1 (by rw [HSZ]; rfl) (by kernel_rfl))
        · skip
          have e0 : ρ (.tmp 0) = .slice A bs.length c := by rw [hρ]; exact (acts_eval_tmp 0 (by kernel_rfl)).trans E0
          clear hρ
          go_simp
      · rintro f a' W h15 hd ⟨u, rfl, S⟩
        refine wpOp_runG (v := .string (bstr bs)) rfl ?_ (fun ρ hρ => ?_) ⟨u, (acts_some 15 rfl (by kernel_rfl) (by kernel_rfl)).symm, S⟩
        · exact wanted_hit (t := 30) rfl rfl (acts_eval_hit 8 rfl hd.2.1 (by rw [HSZ]; rfl) (by kernel_rfl))
        · skip
          have e0 : ρ (.tmp 36) = .slice A bs.length c := by rw [hρ]; exact acts_eval_hit 14 rfl hd.1 (by rw [HSZ]; rfl) (by kernel_rfl)
          clear hρ
          (have hcv := conv_bytes _ bs W (hb.sat S))
          go_simp
      · rintro f a' W h16 hd ⟨u, rfl, S⟩
        refine wpOp_runG (v := .bool true) rfl ?_ (fun ρ hρ => ?_) ⟨u, (acts_some 16 rfl (by kernel_rfl) (by kernel_rfl)).symm, S⟩
        · exact wanted_hit (t := 30) rfl rfl (acts_eval_hit 8 rfl hd.2.2.1 (by rw [HSZ]; rfl) (by kernel_rfl))
        · skip
          have e0 : ρ (.tmp 35) = .string (bstr bs) := by rw [hρ]; exact acts_eval_hit 13 rfl hd.1 (by rw [HSZ]; rfl) (by kernel_rfl)
          have e1 : ρ (.tmp 37) = .string (bstr bs) := by rw [hρ]; exact acts_eval_hit 15 rfl hd.2.1 (by rw [HSZ]; rfl) (by kernel_rfl)
          clear hρ
          go_simp
      · rintro f a' W h17 hd ⟨u, rfl, S⟩
        refine wpOp_run (v := .bool true) rfl rfl (fun ρ hρ => ?_) ⟨u, (acts_some 17 rfl (by kernel_rfl) (by kernel_rfl)).symm, S⟩
        have e0 : ρ (.tmp 30) = .bool true := by rw [hρ]; exact acts_eval_hit 8 rfl hd.1 (by rw [HSZ]; rfl) (by kernel_rfl)
        have e1 : ρ (.tmp 38) = .bool true := by rw [hρ]; exact acts_eval_hit 16 rfl hd.2.1 (by rw [HSZ]; rfl) (by kernel_rfl)
        clear hρ
        go_simp
      · rintro f a' W h18 hd ⟨u, rfl, S⟩
        refine wpOp_run (v := .bool true) rfl rfl (fun ρ hρ => ?_) ⟨u, (acts_some 18 rfl (by kernel_rfl) (by kernel_rfl)).symm, S⟩
        have e0 : ρ (.tmp 39) = .bool true := by rw [hρ]; exact acts_eval_hit 17 rfl hd.1 (by rw [HSZ]; rfl) (by kernel_rfl)
        clear hρ
        go_simp
      · rintro f a' W h19 hd ⟨u, rfl, S⟩
        refine wpOp_callG rfl (wanted_hit (t := 40) rfl rfl (acts_eval_hit 18 rfl hd.1 (by rw [HSZ]; rfl) (by kernel_rfl))) (fun ρ hρ => ?_) (law_awake S) ?_
        · skip
          have ef : ρ (.func 8) = .func (.func 8) #[] #[] := by rw [hρ]; rfl
          clear hρ
          go_simp
        · (rintro e W' ⟨rfl, S'⟩; exact ⟨_, rfl, u, (acts_some 19 rfl (by kernel_rfl) (by kernel_rfl)).symm, S'⟩)
      · rintro f a' W h20 hd ⟨u, rfl, S⟩
        refine wpOp_run (v := .bool true) rfl rfl (fun ρ hρ => ?_) ⟨u, (acts_some 20 rfl (by kernel_rfl) (by kernel_rfl)).symm, S⟩
        have e0 : ρ (.tmp 40) = .bool true := by rw [hρ]; exact acts_eval_hit 18 rfl hd.1 (by rw [HSZ]; rfl) (by kernel_rfl)
        have e1 : ρ (.tmp 41) = .bool true := by rw [hρ]; exact acts_eval_hit 19 rfl hd.2.1 (by rw [HSZ]; rfl) (by kernel_rfl)
        clear hρ
        go_simp
      · rintro f a' W h21 hd ⟨u, rfl, S⟩
        refine wpOp_run (v := .bool true) rfl rfl (fun ρ hρ => ?_) ⟨u, (acts_some 21 rfl (by kernel_rfl) (by kernel_rfl)).symm, S⟩
        have e0 : ρ (.tmp 42) = .bool true := by rw [hρ]; exact acts_eval_hit 20 rfl hd.1 (by rw [HSZ]; rfl) (by kernel_rfl)
        clear hρ
        go_simp
    · rintro a' W ⟨u, rfl, S⟩
      subst ha0
      simp only [acts, if_true, Act.put, List.setIfInBounds_toArray, List.set_cons_succ, List.set_cons_zero]
      clear S0 HSZ E0 E3 E4
      go_wp2_with fail
      exact hK.out _ _ ⟨rfl, S.above Gnd.le.rfl'⟩
end Go.Proofs.Ytblocdfpdabbiaa
