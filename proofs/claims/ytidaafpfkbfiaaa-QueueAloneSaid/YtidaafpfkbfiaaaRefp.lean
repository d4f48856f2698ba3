/- The reference's Put, Cut, Drop: the walks. -/
import Derived.Test.YtidaafpfkbfiaaaRefq
set_option linter.unusedSimpArgs false
set_option linter.unusedVariables false
namespace Go.Proofs.Ytidaafpfkbfiaaa
open Go.RowKit

theorem Sat.drewQ {G : Gnd} {w : World} {l : List Asrt} (H : Sat G w l) (n : Nat) : Sat G (w.drewN n) l := H.below ⟨rfl, rfl, rfl, Nat.le_refl _, fun _ _ => rfl⟩
theorem info_ri' : ∃ i, Try.prog.info? 31 = some i := by
  have := info_ri
  cases hi : Try.prog.info? 31 with
  | none => rw [hi] at this; cases this
  | some i => exact ⟨i, rfl⟩
theorem renc_one (L : List It) : (encs renc L).all (·.oneCell') = true := by
  rw [List.all_eq_true]
  intro u hu
  obtain ⟨x, hx, hu⟩ := List.mem_flatMap.1 hu
  simp only [renc, List.mem_cons, List.not_mem_nil, or_false] at hu
  rcases hu with rfl | rfl | rfl <;> rfl
section
variable {G : Gnd} {w w' : World} {l : List Asrt}
/-- append of items to items of one's own. -/
theorem st_appL {ops : Array Oper} {rest : List Oper} {o : Oper} {a : Act} {Q : Exit → Act → World → Prop} {v : Value} {n : Nat} {xs : List Value} (S : Sat G w (ownS 31 3 v n xs :: l)) (hgd : o.guard = none) (s x : Operand)
    (ho : o.op = .call { callee := .builtin .append, args := #[s, x], argTypes := #[48, 48] }) (hs : a.eval s = v)
    {u : Value} {L : List It} (hx : a.eval x = u) (hb : RL w.cell? u L) (hm : n + L.length ≤ 100000)
    (h : ∀ v' w', Sat G w' (ownS 31 3 v' (n + L.length) (xs ++ encs renc L) :: l) → wpList Try.prog ops Q rest (a.put o.dst v') w') : wpList Try.prog ops Q (o :: rest) a w := by
  obtain ⟨A, c, rfl, h1, h2, h3, hel⟩ := hb
  cases L with
  | nil =>
    cases A with
    | none =>
      obtain rfl := h3 rfl
      obtain ⟨i, hi⟩ := info_ri'
      refine wpList_append_own_none hgd s x 48 ho 0 31 i 3 Try.underlying48 hi v n xs hs S.owns hx (h v w ?_)
      simpa [encs] using S
    | some ad =>
      exact st_append hgd s x 48 ho 31 (.agg #[.int .i64 0, .string ByteArray.empty, .string ByteArray.empty]) 3 40 Try.underlying48 info_ri rfl (by omega) v n xs hs S ad 0 c [] hx rfl (fun j u hj => by simp at hj) rfl (Nat.le_trans (show n + 0 ≤ 100000 from hm) (by decide)) (by simp only [List.length_nil] at hm; omega) h
  | cons y L =>
    obtain ⟨g, o', rfl, -⟩ := hel 0 y rfl
    refine st_append hgd s x 48 ho 31 (.agg #[.int .i64 0, .string ByteArray.empty, .string ByteArray.empty]) 3 40 Try.underlying48 info_ri rfl (by omega) v n xs hs S ⟨g, o', none⟩ (y :: L).length c (encs renc (y :: L)) hx (encs_length re_len _) (fun j u hj => ?_) (renc_one _) (Nat.le_trans hm (by decide)) (by omega) h
    have hjl := (List.getElem?_eq_some_iff.1 hj).1
    rw [encs_length re_len] at hjl
    have hq : j / 3 < (y :: L).length := by omega
    have hx' := List.getElem?_eq_getElem hq
    obtain ⟨g', o'', e, hc⟩ := hel (j / 3) _ hx'
    cases e
    have h0 := encs_get re_len (y :: L) (j / 3) _ hx' (j % 3) (Nat.mod_lt _ (by decide))
    have ej : j / 3 * 3 + j % 3 = j := by omega
    rw [ej] at h0
    have := hc (j % 3) u (h0.symm.trans hj)
    have ea : (⟨g, o', none⟩ : Addr).add j = ⟨g, o' + j, none⟩ := by unfold Addr.add; split <;> simp_all
    rw [ea, ← this, show o' + j / 3 * 3 + j % 3 = o' + j by omega]
theorem rl_new (x : It) (W : World) (n : Nat) (hn : n = W.heap.size) : RL (W.alloc (.cells (renc x).toArray 31)).cell? (.slice (some ⟨n, 0, none⟩) 1 1) [x] := ⟨_, _, rfl, Nat.le_refl _, by omega, (fun e => by cases e), fun i y hy => ⟨n, 0, rfl, fun j u hj => by
  have hi := (List.getElem?_eq_some_iff.1 hy).1
  simp only [List.length_cons, List.length_nil] at hi
  obtain rfl : i = 0 := by omega
  simp at hy
  subst hy
  subst hn
  rw [show 0 + 0 * 3 + j = j by omega, cell_of_block (heap_alloc_new W _)]
  simpa using hj⟩⟩
def putL (B I : Int) (L : List It) (x : It) : List It × Int := if I ≤ (L.length : Int) ∨ B < (qsz L : Int) + isz x then (L, 1) else (L ++ [x], 0)
set_option maxHeartbeats 4000000 in
theorem ref_put (H : Sat G w l) {v : Value} {L : List It} (hv : RL (cellR G.ro) v L) (B I : Int) (n : Int) (h b : List UInt8) (hsz : qsz L ≤ 281474976710656) (hL : L.length ≤ 5000) (h1 : h.length ≤ 140737488355328) (h2 : b.length ≤ 140737488355328) :
    Calls Try.prog 26 #[v, .int .i64 B, .int .i64 I, .agg #[.int .i64 n, .string (bstr h), .string (bstr b)]] w fun e w' => ∃ u G', G.le G' ∧ e = .returned (.tuple #[u, .int .i64 (putL B I L (n, h, b)).2]) ∧ RL (cellR G'.ro) u (putL B I L (n, h, b)).1 ∧ Sat G' w' l := by
  refine calls_any fun K hK => ?_
  have S1 := (H.newBlk #[.int .i64 n, .string (bstr h), .string (bstr b)] 31).newBlk #[.int .i64 n, .string (bstr h), .string (bstr b)] 31
  simp only [World.size_alloc] at S1
  have hrs := fun W (S : Sat G W (blk (w.heap.size + 1) #[.int .i64 n, .string (bstr h), .string (bstr b)] 31 :: blk w.heap.size #[.int .i64 n, .string (bstr h), .string (bstr b)] 31 :: l)) => ref_size (hv.sat S) (by omega)
  have hr1 := fun W (S : Sat G W (blk (w.heap.size + 1) #[.int .i64 n, .string (bstr h), .string (bstr b)] 31 :: blk w.heap.size #[.int .i64 n, .string (bstr h), .string (bstr b)] 31 :: l)) => ref_size (w := W) (v := .slice (some ⟨w.heap.size + 1, 0, none⟩) 1 1) (L := [(n, h, b)]) ⟨_, _, rfl, Nat.le_refl _, by omega, (fun e => by cases e), fun i x hx => ⟨w.heap.size + 1, 0, rfl, fun j u hj => by
    have hi := (List.getElem?_eq_some_iff.1 hx).1
    simp only [List.length_cons, List.length_nil] at hi
    obtain rfl : i = 0 := by omega
    simp at hx
    subst hx
    have hlt : j < 3 := (List.getElem?_eq_some_iff.1 hj).1
    rw [show 0 + 0 * 3 + j = j by omega, S.cell j]
    simpa [renc] using hj⟩⟩ (by simp [qsz, isz]; omega)
  rw [show qsz [(n, h, b)] = isz (n, h, b) by simp [qsz]] at hr1
  obtain ⟨A, c, rfl, hlc, hc, h0, hel⟩ := id hv
  have hiz : isz (n, h, b) ≤ 281474976710656 := by unfold isz; simp only; omega
  have HV := Lib.hid hv
  unfold putL at hK
  clear hel hv H h0
  generalize isz (n, h, b) = sx at *
  generalize qsz L = z at *
  have hwz : IntKind.i64.wrap ((z : Int) + sx) = (z : Int) + sx := IntWalk.i64_in _ (by omega)
  by_cases hq1 : I ≤ (L.length : Int)
  · rw [if_pos (Or.inl hq1)] at hK
    have HS := Lib.hid S1
    clear S1 hrs hr1
    go_enter Try.func26, Try.ntmps26
    go_wp2_with fail
    exact hK.out _ _ ⟨_, G, Gnd.le.rfl', rfl, HV.out, HS.out.drop.drop⟩
  have hq1b : decide ((L.length : Int) ≥ I) = false := decide_eq_false hq1
  by_cases hq2 : B < (z : Int) + sx
  · rw [if_pos (Or.inr hq2)] at hK
    have hq2b : decide ((z : Int) + sx > B) = true := decide_eq_true hq2
    go_enter Try.func26, Try.ntmps26
    go_wp2_with fail
    (with_reducible refine (hrs _ S1).mono ?_)
    clear hrs
    rintro e w1 ⟨rfl, n1, rfl⟩
    have S2 := S1.drewQ n1
    go_wp2_with fail
    (with_reducible refine (hr1 _ S2).mono ?_)
    clear hr1
    rintro e w1 ⟨rfl, n2, rfl⟩
    have HS := Lib.hid (S1.drewQ (n1 + n2))
    clear S1 S2
    go_wp2_with fail
    exact hK.out _ _ ⟨_, G, Gnd.le.rfl', rfl, HV.out, HS.out.drop.drop⟩
  · rw [if_neg (by omega)] at hK
    have hq2b : decide ((z : Int) + sx > B) = false := decide_eq_false hq2
    go_enter Try.func26, Try.ntmps26
    go_wp2_with fail
    (with_reducible refine (hrs _ S1).mono ?_)
    clear hrs
    rintro e w1 ⟨rfl, n1, rfl⟩
    have S2 := S1.drewQ n1
    go_wp2_with fail
    (with_reducible refine (hr1 _ S2).mono ?_)
    clear hr1
    rintro e w1 ⟨rfl, n2, rfl⟩
    have S3 := S1.drewQ (n1 + n2)
    clear S1 S2
    go_upto_region 4 with fail
    generalize w.heap.size + 1 = p2 at *
    generalize w.heap.size = p at *
    refine wp_world S3 fun w3 S4 => ?_
    have S5 := S4.ownNil 31 3
    have hv2 := HV.out.sat S5
    clear S3 S4
    have hLb : 0 + L.length ≤ 100000 := by omega
    go_upto_region 6 with (at_builtin; refine st_appL S5 rfl _ _ rfl rfl rfl hv2 hLb ?_; clear S5 hv2; intro v1 w4 S5)
    have d0 := S5.pull2.cell 0
    have d1 := S5.pull2.cell 1
    have d2 := S5.pull2.cell 2
    rw [Nat.zero_add, List.nil_append] at S5
    have S6 := S5.alloc (.cells (renc (n, h, b)).toArray 31)
    have hv3 := rl_new (n, h, b) w4 _ rfl
    change RL (w4.alloc (.cells #[.int .i64 n, .string (bstr h), .string (bstr b)] 31)).cell? _ _ at hv3
    have hLb2 : L.length + 1 ≤ 100000 := by omega
    clear S5
    go_wp2_with (at_builtin; refine st_appL S6 rfl _ _ rfl rfl rfl hv3 hLb2 ?_; clear S6 hv3; intro v2 w5 S6)
    rw [← encs_append] at S6
    have e1 : L.length + ([(n, h, b)] : List It).length = (L ++ [(n, h, b)]).length := by simp
    rw [e1] at S6
    obtain ⟨G', hG, S7, hr⟩ := S6.rl
    exact hK.out _ _ ⟨_, G', hG, rfl, hr, S7.drop.drop⟩
end
end Go.Proofs.Ytidaafpfkbfiaaa
