/- The walks of the laws FrameFlags and FrameSame. -/
import Derived.Test.YtjhhabaeaekejaaAwake
set_option linter.unusedSimpArgs false
set_option linter.unusedVariables false
namespace Go.Proofs.Ytjhhabaeaekejaa
open Go.RowKit

/-- What is read of a frame. -/
theorem rd_frame {R : Hp} {d : D} {es : List Value} (h : Rd R (Ty.agg [.int .i64, .int .i64, .int .i64, .sl 1 (.int .u8)]) d es) : ∃ (t f s : Int) (A : Option Addr) (bs : List UInt8) (c : Nat), es = [.int .i64 t, .int .i64 f, .int .i64 s, .slice A bs.length c] ∧ (-9223372036854775808 ≤ t ∧ t ≤ 9223372036854775807) ∧ (-9223372036854775808 ≤ f ∧ f ≤ 9223372036854775807) ∧ (-9223372036854775808 ≤ s ∧ s ≤ 9223372036854775807) ∧ bs.length ≤ 140737488351232 ∧ SlB (cellR R) (.slice A bs.length c) bs := by
  cases d <;> simp only [Rd] at h
  rename_i ds
  match ds, h with
  | [d0, d1, d2, d3], h =>
    simp only [RdAll] at h
    obtain ⟨c0, _, rfl, _, h0, c1, _, rfl, _, h1, c2, _, rfl, _, h2, c3, _, rfl, l3, h3, rfl⟩ := h
    cases d0 <;> simp only [Rd] at h0
    cases d1 <;> simp only [Rd] at h1
    cases d2 <;> simp only [Rd] at h2
    obtain ⟨l, rfl⟩ : ∃ l, d3 = .sl l := by cases d3 <;> (try simp only [Rd] at h3) <;> exact ⟨_, rfl⟩
    obtain ⟨rfl, w0⟩ := h0
    obtain ⟨rfl, w1⟩ := h1
    obtain ⟨rfl, w2⟩ := h2
    obtain ⟨v, rfl⟩ : ∃ v, c3 = [v] := by
      match c3, l3 with
      | [v], _ => exact ⟨v, rfl⟩
    have h3' : RdSl R 1 (.int .u8) v l := by simpa only [RdSl, Rd] using h3
    obtain ⟨bs, e1, e2, e3⟩ := slb_of h3'
    obtain ⟨A, c, rfl, -, -, -⟩ := e3.form
    simp [Lit.wf] at w0 w1 w2
    exact ⟨_, _, _, A, bs, c, rfl, w0, w1, w2, e2, e3⟩
  | [], h => simp [RdAll] at h
  | [_], h => simp [RdAll] at h
  | [_, _], h => simp [RdAll] at h
  | [_, _, _], h => simp [RdAll] at h
  | _ :: _ :: _ :: _ :: _ :: _, h => simp [RdAll] at h
theorem arg_frame {w : World} {v : Value} {d : D} (h : ArgV w (Ty.agg [.int .i64, .int .i64, .int .i64, .sl 1 (.int .u8)]) v d) : ∃ (t f s : Int) (A : Option Addr) (bs : List UInt8) (c : Nat), v = .agg #[.int .i64 t, .int .i64 f, .int .i64 s, .slice A bs.length c] ∧ (-9223372036854775808 ≤ t ∧ t ≤ 9223372036854775807) ∧ (-9223372036854775808 ≤ f ∧ f ≤ 9223372036854775807) ∧ (-9223372036854775808 ≤ s ∧ s ≤ 9223372036854775807) ∧ bs.length ≤ 140737488351232 ∧ SlB (cellR (Gnd.of w).ro) (.slice A bs.length c) bs := by
  obtain ⟨cs, rfl, h⟩ := h
  obtain ⟨t, f, s, A, bs, c, e, r⟩ := rd_frame h
  exact ⟨t, f, s, A, bs, c, by rw [← e], r⟩
theorem same_bool (t f s t' f' s' : Int) (bs bs' : List UInt8) : decide (t = t' ∧ f = f' ∧ s = s' ∧ bs = bs') = (t == t' && f == f' && s == s' && bs == bs') := by
  rw [Bool.eq_iff_iff]
  simp only [decide_eq_true_eq, Bool.and_eq_true, beq_iff_eq]
  exact ⟨fun h => ⟨⟨⟨h.1, h.2.1⟩, h.2.2.1⟩, h.2.2.2⟩, fun h => ⟨h.1.1.1, h.1.1.2, h.1.2, h.2⟩⟩
theorem same_bool' (t f s t' f' s' : Int) (bs bs' : List UInt8) : decide (t' = t ∧ f' = f ∧ s' = s ∧ bs' = bs) = (t == t' && f == f' && s == s' && bs == bs') := by
  rw [Bool.eq_iff_iff]
  simp only [decide_eq_true_eq, Bool.and_eq_true, beq_iff_eq]
  exact ⟨fun h => ⟨⟨⟨h.1.symm, h.2.1.symm⟩, h.2.2.1.symm⟩, h.2.2.2.symm⟩, fun h => ⟨h.1.1.1.symm, h.1.1.2.symm, h.1.2.symm, h.2.symm⟩⟩
set_option maxHeartbeats 4000000 in
set_option maxRecDepth 100000 in
theorem frameSame_walk (w : World) (v0 v1 : Value) (h0 : ∃ d, ArgV w (Ty.agg [.int .i64, .int .i64, .int .i64, .sl 1 (.int .u8)]) v0 d) (h1 : ∃ d, ArgV w (Ty.agg [.int .i64, .int .i64, .int .i64, .sl 1 (.int .u8)]) v1 d) :
    Calls Try.prog 5 #[v0, v1] w fun e w' => e = .returned (.bool true) ∧ Below w.heap.size w w' := by
  refine calls_any fun K hK => ?_
  obtain ⟨_, h0⟩ := h0
  obtain ⟨t, f, s, A, bs, c, rfl, -, -, -, -, hb⟩ := arg_frame h0
  obtain ⟨_, h1⟩ := h1
  obtain ⟨t', f', s', A', bs', c', rfl, -, -, -, -, hb'⟩ := arg_frame h1
  clear h0 h1
  have S1 := ((Sat.start w).newBlk #[.int .i64 t, .int .i64 f, .int .i64 s, .slice A bs.length c] 24).newBlk #[.int .i64 t', .int .i64 f', .int .i64 s', .slice A' bs'.length c'] 24
  have e0 : ∀ o, (w.alloc o).heap.size = w.heap.size + 1 := fun o => by simp
  rw [e0] at S1
  clear e0
  by_cases hl : 300 < (bs.length : Int)
  · go_enter Try.func5, Try.ntmps5
    go_wp2_with fail
    (with_reducible refine (law_awake S1.drop.drop).mono ?_); rintro e w9 ⟨rfl, G9, hG9, S9⟩; go_wp2_with fail; exact hK.out _ _ ⟨rfl, S9.above hG9⟩
  by_cases hl' : 300 < (bs'.length : Int)
  · go_enter Try.func5, Try.ntmps5
    go_wp2_with fail
    (with_reducible refine (law_awake S1.drop.drop).mono ?_); rintro e w9 ⟨rfl, G9, hG9, S9⟩; go_wp2_with fail; exact hK.out _ _ ⟨rfl, S9.above hG9⟩
  go_enter Try.func5, Try.ntmps5
  go_upto_region 3 with fail
  generalize w.heap.size = q at S1 ⊢
  refine wp_world S1 fun W S => ?_
  clear S1
  have a0 : W.cell? ⟨q, 0, none⟩ = some (.int .i64 t) := S.swap.cell 0
  have a1 : W.cell? ⟨q, 1, none⟩ = some (.int .i64 f) := S.swap.cell 1
  have a2 : W.cell? ⟨q, 2, none⟩ = some (.int .i64 s) := S.swap.cell 2
  have a3 : W.cell? ⟨q, 3, none⟩ = some (.slice A bs.length c) := S.swap.cell 3
  have b0 : W.cell? ⟨q + 1, 0, none⟩ = some (.int .i64 t') := S.cell 0
  have b1 : W.cell? ⟨q + 1, 1, none⟩ = some (.int .i64 f') := S.cell 1
  have b2 : W.cell? ⟨q + 1, 2, none⟩ = some (.int .i64 s') := S.cell 2
  have b3 : W.cell? ⟨q + 1, 3, none⟩ = some (.slice A' bs'.length c') := S.cell 3
  have hc1 := conv_bytes _ bs W (hb.sat S).1
  have hc2 := conv_bytes _ bs' W (hb'.sat S).1
  have k1 := bstr_list bs
  have k2 := bstr_list bs'
  have hq := frame_equal S t f s t' f' s' _ _ bs bs' (fun W SW => (hb.sat SW).1) (fun W SW => (hb'.sat SW).1)
  rw [same_bool t f s t' f' s' bs bs'] at hq
  have e2 : decide (t' = t ∧ f' = f ∧ s' = s ∧ bs' = bs) = (t == t' && f == f' && s == s' && bs == bs') := same_bool' t f s t' f' s' bs bs'
  have HE := Lib.hid e2
  clear e2
  cases y1 : (t == t') <;> cases y2 : (f == f') <;> cases y3 : (s == s') <;> cases y4 : (bs == bs') <;> simp only [y1, y2, y3, y4, Bool.false_and, Bool.and_false, Bool.and_true, Bool.true_and] at hq
  all_goals
    go_wp2_with fail
    (with_reducible refine hq.mono ?_)
    clear hq hc1 hc2 a0 a1 a2 a3 b0 b1 b2 b3
    rintro e w1 ⟨rfl, S2⟩
    have hq2 := frame_equal S2 t' f' s' t f s _ _ bs' bs (fun W SW => (hb'.sat SW).1) (fun W SW => (hb.sat SW).1)
    rw [HE.out, y1, y2, y3, y4] at hq2
    simp only [Bool.false_and, Bool.and_false, Bool.and_true, Bool.true_and] at hq2
    have a0 : w1.cell? ⟨q, 0, none⟩ = some (.int .i64 t) := S2.swap.cell 0
    have a1 : w1.cell? ⟨q, 1, none⟩ = some (.int .i64 f) := S2.swap.cell 1
    have a2 : w1.cell? ⟨q, 2, none⟩ = some (.int .i64 s) := S2.swap.cell 2
    have a3 : w1.cell? ⟨q, 3, none⟩ = some (.slice A bs.length c) := S2.swap.cell 3
    have b0 : w1.cell? ⟨q + 1, 0, none⟩ = some (.int .i64 t') := S2.cell 0
    have b1 : w1.cell? ⟨q + 1, 1, none⟩ = some (.int .i64 f') := S2.cell 1
    have b2 : w1.cell? ⟨q + 1, 2, none⟩ = some (.int .i64 s') := S2.cell 2
    have b3 : w1.cell? ⟨q + 1, 3, none⟩ = some (.slice A' bs'.length c') := S2.cell 3
    clear S S2
    go_wp2_with fail
    (with_reducible refine hq2.mono ?_)
    clear hq2 a0 a1 a2 a3 b0 b1 b2 b3
    rintro e w2 ⟨rfl, S3⟩
    go_wp2_with fail
    (with_reducible refine (law_awake S3.drop.drop).mono ?_); rintro e w9 ⟨rfl, G9, hG9, S9⟩; go_wp2_with fail; exact hK.out _ _ ⟨rfl, S9.above hG9⟩
end Go.Proofs.Ytjhhabaeaekejaa
