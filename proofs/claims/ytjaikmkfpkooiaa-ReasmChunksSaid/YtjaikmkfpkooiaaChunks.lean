/- The walk of the law ReasmChunks. -/
import Derived.Test.YtjaikmkfpkooiaaNeeds
set_option linter.unusedSimpArgs false
set_option linter.unusedVariables false
namespace Go.Proofs.Ytjaikmkfpkooiaa
open Go.RowKit

/-! ### more bytes behind do not change the frames ahead -/
theorem head_app {c x : List UInt8} {most : Int} (h : 9 ≤ c.length) : hdN (c ++ x) = hdN c ∧ hdT (c ++ x) = hdT c ∧ hdF (c ++ x) = hdF c ∧ hdS (c ++ x) = hdS c := by
  refine ⟨hdN_app c x (by omega), ?_, ?_, ?_⟩
  · unfold hdT; rw [List.drop_append_of_le_length (by omega), List.take_append_of_le_length (by rw [List.length_drop]; omega)]
  · unfold hdF; rw [List.drop_append_of_le_length (by omega), List.take_append_of_le_length (by rw [List.length_drop]; omega)]
  · unfold hdS; rw [List.drop_append_of_le_length (by omega), List.take_append_of_le_length (by rw [List.length_drop]; omega)]
theorem headE_app {c x : List UInt8} {most : Int} (h : headE c most ≠ 16) : headE (c ++ x) most = headE c most := by
  unfold headE at h ⊢
  by_cases h9 : c.length < 9
  · rw [if_pos h9] at h; exact absurd rfl h
  · have hn := hdN_app c x (by omega)
    rw [if_neg h9] at h ⊢
    rw [if_neg (by rw [List.length_append]; omega), hn]
    split
    · rfl
    · rename_i h1
      rw [if_neg h1] at h
      split at h
      · exact absurd rfl h
      · rename_i h2
        rw [if_neg (by rw [List.length_append]; omega), if_neg h2]
theorem eat_app {P x : List UInt8} {most : Int} : ∀ {k : Nat}, Eats P most k → eat (P ++ x) k = eat P k ++ x
  | 0, _ => rfl
  | k + 1, h => by
    have ih := eat_app (x := x) (k := k) fun i hi => h i (by omega)
    have hf := head_fits (h k (by omega))
    simp only [eat]
    rw [ih, hdN_app _ x (by omega), List.drop_append_of_le_length (by omega)]
theorem eats_app {P x : List UInt8} {most : Int} {k : Nat} (h : Eats P most k) : Eats (P ++ x) most k := fun i hi => by
  rw [eat_app fun j hj => h j (by omega), headE_app (by rw [h i hi]; decide), h i hi]
theorem eat_add (P : List UInt8) (k : Nat) : ∀ j, eat P (k + j) = eat (eat P k) j
  | 0 => rfl
  | j + 1 => by
    have ih := eat_add P k j
    show (eat P (k + j)).drop (9 + hdN (eat P (k + j))) = _
    rw [ih]; rfl
theorem eats_add {P : List UInt8} {most : Int} {k j : Nat} (h : Eats P most k) (h' : Eats (eat P k) most j) : Eats P most (k + j) := fun i hi => by
  by_cases hk : i < k
  · exact h i hk
  · obtain ⟨d, rfl⟩ : ∃ d, i = k + d := ⟨i - k, by omega⟩
    rw [eat_add]
    exact h' d (by omega)
theorem fr_app {R : Hp} {get : Nat → Option Value} {c x : List UInt8} {most : Int} (h : FrAt R get c) (hh : headE c most = 0) : FrAt R get (c ++ x) := by
  have hf := head_fits hh
  obtain ⟨u, h0, h1, h2, h3, h4⟩ := h
  obtain ⟨e1, e2, e3, e4⟩ := head_app (x := x) (most := most) (c := c) (by omega)
  refine ⟨u, by rw [e2]; exact h0, by rw [e3]; exact h1, by rw [e4]; exact h2, h3, ?_⟩
  rw [e1, List.drop_append_of_le_length (by omega), List.take_append_of_le_length (by rw [List.length_drop]; omega)]
  exact h4
/-- Frames collected: the first k of P. -/
def Got (R : Hp) (xs : List Value) (k : Nat) (P : List UInt8) : Prop := ∀ i, i < k → FrAt R (fun j => xs[i * 4 + j]?) (eat P i)
theorem got_app {R : Hp} {xs : List Value} {k : Nat} {P x : List UInt8} {most : Int} (h : Got R xs k P) (hE : Eats P most k) : Got R xs k (P ++ x) := fun i hi => by
  rw [eat_app fun j hj => hE j (by omega)]
  exact fr_app (h i hi) (hE i hi)
theorem Got.up {G G' : Gnd} {xs : List Value} {k : Nat} {P : List UInt8} (h : Got G.ro xs k P) (hG : G.le G') : Got G'.ro xs k P := fun i hi => (h i hi).up hG fun j v _ hv => hv
/-- The cells of a slice of frames. -/
theorem rfr_cells {R : Hp} {A : Option Addr} {N c : Nat} {cat : List UInt8} (h : RFr R (.slice A N c) N cat) : ∃ ys : List Value, ys.length = N * 4 ∧ (∀ i, i < N → FrAt R (fun j => ys[i * 4 + j]?) (eat cat i)) ∧ ys.all (·.oneCell') = true ∧
    ∀ j u, ys[j]? = some u → ∃ g, A = some ⟨g, 0, none⟩ ∧ cellR R ⟨g, j, none⟩ = some u := by
  obtain ⟨A', c', e, h1, h2, hel⟩ := h
  cases e
  have key : ∀ j, j < N * 4 → ∃ u : Value, (∃ g, A = some ⟨g, 0, none⟩ ∧ cellR R ⟨g, j, none⟩ = some u) ∧ u.oneCell' = true := fun j hj => by
    obtain ⟨g, hA, u, f0, f1, f2, f3, hu⟩ := hel (j / 4) (by omega)
    obtain ⟨X, cx, rfl, -, -, -⟩ := hu.form
    have hj4 : j % 4 = 0 ∨ j % 4 = 1 ∨ j % 4 = 2 ∨ j % 4 = 3 := by omega
    rcases hj4 with e | e | e | e
    · exact ⟨_, ⟨g, hA, by rw [show j = j / 4 * 4 + 0 by omega]; exact f0⟩, rfl⟩
    · exact ⟨_, ⟨g, hA, by rw [show j = j / 4 * 4 + 1 by omega]; exact f1⟩, rfl⟩
    · exact ⟨_, ⟨g, hA, by rw [show j = j / 4 * 4 + 2 by omega]; exact f2⟩, rfl⟩
    · exact ⟨_, ⟨g, hA, by rw [show j = j / 4 * 4 + 3 by omega]; exact f3⟩, rfl⟩
  obtain ⟨ys, hl, hys⟩ := list_of_each (Q := fun j (u : Value) => (∃ g, A = some ⟨g, 0, none⟩ ∧ cellR R ⟨g, j, none⟩ = some u) ∧ u.oneCell' = true) (N * 4) key
  refine ⟨ys, hl, fun i hi => ?_, ?_, fun j u hj => (hys j u hj).1⟩
  · obtain ⟨g, hA, u, f0, f1, f2, f3, hu⟩ := hel i hi
    have hg : ∀ j v, j < 4 → cellR R ⟨g, i * 4 + j, none⟩ = some v → ys[i * 4 + j]? = some v := fun j v hj hv => by
      have hlt : i * 4 + j < ys.length := by omega
      obtain ⟨⟨g', hA', hc⟩, -⟩ := hys (i * 4 + j) _ (List.getElem?_eq_getElem hlt)
      rw [hA] at hA'
      cases hA'
      rw [hv] at hc
      rw [List.getElem?_eq_getElem hlt, ← hc]
    exact ⟨u, hg 0 _ (by omega) f0, hg 1 _ (by omega) f1, hg 2 _ (by omega) f2, hg 3 _ (by omega) f3, hu⟩
  · rw [List.all_eq_true]
    intro u hu
    obtain ⟨j, hj, rfl⟩ := List.mem_iff_getElem.1 hu
    exact (hys j _ (List.getElem?_eq_getElem hj)).2
theorem got_join {R : Hp} {xs ys : List Value} {k N : Nat} {P : List UInt8} (hl : xs.length = k * 4) (h : Got R xs k P) (hy : ∀ i, i < N → FrAt R (fun j => ys[i * 4 + j]?) (eat (eat P k) i)) (hyl : ys.length = N * 4) : Got R (xs ++ ys) (k + N) P := fun i hi => by
  by_cases hk : i < k
  · obtain ⟨u, h0, h1, h2, h3, h4⟩ := h i hk
    have e : ∀ j v, xs[i * 4 + j]? = some v → (xs ++ ys)[i * 4 + j]? = some v := fun j v hv => by
      have := (List.getElem?_eq_some_iff.1 hv).1
      rw [List.getElem?_append_left this]; exact hv
    exact ⟨u, e 0 _ h0, e 1 _ h1, e 2 _ h2, e 3 _ h3, h4⟩
  · obtain ⟨d, rfl⟩ : ∃ d, i = k + d := ⟨i - k, by omega⟩
    obtain ⟨u, h0, h1, h2, h3, h4⟩ := hy d (by omega)
    have e : ∀ j, (xs ++ ys)[(k + d) * 4 + j]? = ys[d * 4 + j]? := fun j => by
      rw [List.getElem?_append_right (by omega)]; congr 1; omega
    rw [eat_add]
    exact ⟨u, (e 0).trans h0, (e 1).trans h1, (e 2).trans h2, (e 3).trans h3, h4⟩
/-- append of frames that nobody turns to frames of one's own. -/
theorem st_appF {G : Gnd} {w : World} {l : List Asrt} {ops : Array Oper} {rest : List Oper} {o : Oper} {a : Act} {Q : Exit → Act → World → Prop} {v : Value} {n : Nat} {xs : List Value} (S : Sat G w (ownS 42 4 v n xs :: l)) (hgd : o.guard = none) (s x : Operand)
    (ho : o.op = .call { callee := .builtin .append, args := #[s, x], argTypes := #[30, 30] }) (hs : a.eval s = v)
    {A : Option Addr} {N c : Nat} {ys : List Value} (hx : a.eval x = .slice A N c) (hl : ys.length = N * 4) (h1 : ys.all (·.oneCell') = true) (hel : ∀ j u, ys[j]? = some u → ∃ g, A = some ⟨g, 0, none⟩ ∧ cellR G.ro ⟨g, j, none⟩ = some u) (hm : n + N ≤ 1000000000)
    (h : ∀ v' w', Sat G w' (ownS 42 4 v' (n + N) (xs ++ ys) :: l) → wpList Try.prog ops Q rest (a.put o.dst v') w') : wpList Try.prog ops Q (o :: rest) a w := by
  cases A with
  | none =>
    have e0 : N = 0 := by
      by_cases hN : N = 0
      · exact hN
      · obtain ⟨g, e, _⟩ := hel 0 (ys[0]'(by omega)) (List.getElem?_eq_getElem _)
        cases e
    subst e0
    have ey : ys = [] := List.eq_nil_of_length_eq_zero (by omega)
    subst ey
    obtain ⟨i, hi⟩ : ∃ i, Try.prog.info? 42 = some i := by
      have := info_fr
      cases hi : Try.prog.info? 42 with
      | none => rw [hi] at this; cases this
      | some i => exact ⟨i, rfl⟩
    have hrun : ∀ ty, (Builtin.append_ #[30, 30] ty #[v, .slice none 0 c]).run Try.prog w = .ok v w := fun ty => by
      have hown := S.owns
      rcases hown.2 with ⟨rfl, rfl⟩ | ⟨g, cap, cur, rfl, _, _, hnc, _⟩
      · simp [Builtin.append_, run_underlying Try.underlying30, sizeOf, typeInfo, hi, Builtin.lenOf, Builtin.firstCells]
      · simp [Builtin.append_, run_underlying Try.underlying30, sizeOf, typeInfo, hi, Builtin.lenOf, Builtin.firstCells, hnc, storeCells]
    refine Go.Lib.wpList_append_run w hgd s x _ _ ho _ _ hs hx _ _ (hrun _) (h v w ?_)
    simpa using S
  | some ad =>
    have hn : n + N ≤ maxLen := Nat.le_trans hm (by decide)
    refine st_append hgd s x 30 ho 42 (.agg #[.int .i64 0, .int .i64 0, .int .i64 0, .slice none 0 0]) 4 48 Try.underlying30 info_fr rfl (by omega) v n xs hs S ad N c ys hx hl (fun j u hj => ?_) h1 hn (by omega) h
    obtain ⟨g, e, hc⟩ := hel j u hj
    cases e
    have e : (⟨g, 0, none⟩ : Addr).add j = ⟨g, j, none⟩ := by unfold Addr.add; split <;> simp_all
    rw [e]
    exact S.cellR hc
theorem map_add_zero (A : Option Addr) : A.map (fun x => x.add 0) = A := by cases A <;> simp [Addr.add]
theorem ints_of {R : Hp} {v : Value} {l : List D} (h : RdSl R 8 (.int .i64) v l) : ∃ (ns : List Int) (A : Option Addr) (c : Nat), v = .slice A ns.length c ∧ ns.length ≤ 140737488351232 ∧ ∀ i n, ns[i]? = some n → ∃ a, A = some a ∧ cellR R (a.add i) = some (.int .i64 n) := by
  obtain ⟨A, c, hv, hlc, hc, hb, _, hel⟩ := h.form
  have key : ∀ i, i < l.length → ∃ n : Int, ∃ a, A = some a ∧ cellR R (a.add i) = some (.int .i64 n) := fun i hi => by
    obtain ⟨a, hA, es, he, hcl, hr⟩ := hel i l[i] (List.getElem?_eq_getElem hi)
    have h0 := hcl 0 (by simp [Ty.size])
    simp only [Ty.size, Nat.mul_one, Nat.add_zero] at h0
    cases hx : l[i] <;> rw [hx] at hr <;> simp only [Rd] at hr
    obtain ⟨rfl, -⟩ := hr
    exact ⟨_, a, hA, h0⟩
  obtain ⟨ns, hl, hns⟩ := list_of_each (Q := fun i (n : Int) => ∃ a, A = some a ∧ cellR R (a.add i) = some (.int .i64 n)) l.length key
  exact ⟨ns, A, c, by rw [hl]; exact hv, by omega, hns⟩
set_option maxHeartbeats 8000000 in
set_option maxRecDepth 100000 in
theorem reasmChunks_walk (w : World) (v0 v1 : Value) (h0 : ∃ d, ArgV w (.sl 1 (.int .u8)) v0 d) (h1 : ∃ d, ArgV w (.sl 8 (.int .i64)) v1 d) :
    Calls Try.prog 6 #[v0, v1] w fun e w' => e = .returned (.bool true) ∧ Below w.heap.size w w' := by
  refine calls_any fun K hK => ?_
  obtain ⟨_, h0⟩ := h0
  obtain ⟨l, h0⟩ := arg_sl h0
  obtain ⟨b, -, hlen, hb⟩ := slb_of h0
  obtain ⟨_, h1⟩ := h1
  obtain ⟨l1, h1⟩ := arg_sl h1
  obtain ⟨ns, D, cd, rfl, hnl, hne⟩ := ints_of h1
  clear h0 h1 l l1
  have S0 := Sat.start w
  change SlB (cellR (Gnd.of w).ro) _ _ at hb
  change ∀ i n, ns[i]? = some n → ∃ a, D = some a ∧ cellR (Gnd.of w).ro (a.add i) = some (.int .i64 n) at hne
  have HNE := Lib.hid hne
  clear hne
  obtain ⟨A0, c0, rfl, -, -, -⟩ := hb.form
  have hG := Gnd.le.rfl' (G := Gnd.of w)
  by_cases h300 : 300 < (b.length : Int)
  · go_enter Try.func6, Try.ntmps6
    go_wp2_with fail
    (with_reducible refine (law_awake _).mono ?_); rintro e w9 ⟨rfl, hb9⟩; go_wp2_with fail; exact hK.out _ _ ⟨rfl, ((S0).below hb9).above hG⟩
  by_cases h50 : 50 < (ns.length : Int)
  · go_enter Try.func6, Try.ntmps6
    go_wp2_with fail
    (with_reducible refine (law_awake _).mono ?_); rintro e w9 ⟨rfl, hb9⟩; go_wp2_with fail; exact hK.out _ _ ⟨rfl, ((S0).below hb9).above hG⟩
  have hn1 := rm_new S0 16384 (by decide) (by decide)
  go_enter Try.func6, Try.ntmps6
  go_wp2_with fail
  (with_reducible refine hn1.mono ?_)
  clear hn1 S0
  rintro e w1 ⟨r, rfl, S1⟩
  have hn2 := rm_new S1 16384 (by decide) (by decide)
  go_wp2_with fail
  (with_reducible refine hn2.mono ?_)
  clear hn2 S1
  rintro e w2 ⟨q, rfl, S2⟩
  have hfq := rm_feed S2 _ b hb (by simp; omega)
  go_wp2_with fail
  (with_reducible refine hfq.mono ?_)
  clear hfq S2
  rintro e w3 ⟨G, hG1, S3, ⟨h, -⟩ | ⟨-, M, hqM, hqr⟩⟩
  · cases h
  replace hG := hG.trans hG1
  rw [List.nil_append] at hqM hqr
  have hqne : headE (eat b M) 16384 ≠ 0 := by rcases hqr with h | h <;> rw [h.1] <;> decide
  have hqf := feed_of (bs := []) (b := b) hqM hqne
  rw [List.nil_append] at hqf
  rw [hqf] at S3
  obtain ⟨vq, gq, rfl, hq⟩ : ∃ (vq : Value) (gq : Int), e = .returned (.tuple #[vq, .int .i64 gq]) ∧ ((headE (eat b M) 16384 = 16 ∧ gq = 0 ∧ RFr G.ro vq M b) ∨ (headE (eat b M) 16384 = 106 ∧ gq = 106 ∧ vq = .slice none 0 0)) := by
    rcases hqr with ⟨h1, v1, rfl, h2⟩ | ⟨h1, rfl⟩
    · exact ⟨v1, 0, rfl, .inl ⟨h1, rfl, h2⟩⟩
    · exact ⟨_, 106, rfl, .inr ⟨h1, rfl, rfl⟩⟩
  have S4 := (Sat.swap S3).ownNil 42 4
  have hb1 := hb.mono hG1
  generalize hsq : (if headE (eat b M) 16384 = 106 then ([], true) else (eat b M, false)) = sq at *
  have HSQ := Lib.hid hsq
  clear hsq
  clear S3 hqr hqf hb
  go_wp2_with fail
  go_loopw [11, 12, 13, 62] (fun g rv h i wr => ∃ (k : Nat) (G1 : Gnd) (xs : List Value) (N : Nat) (P rest : List UInt8), k ≤ ns.length ∧ i = .int .i64 k ∧ (Gnd.of w).le G1 ∧ P ++ rest = b ∧ SlB (Go.Proofs.Ytjaikmkfpkooiaa.cellR G1.ro) rv rest ∧ Eats P 16384 N ∧ headE (eat P N) 16384 = 16 ∧ Got G1.ro xs N P ∧ xs.length = N * 4 ∧ h = .int .i64 0 ∧ G.le G1 ∧ Sat G1 wr [ownS 42 4 g N xs, rmA r 16384 (eat P N) false, rmA q 16384 sq.1 sq.2]) (fun _ _ _ i _ => ns.length - (intOf i).toNat)
  case atStart => exact ⟨0, G, [], 0, [], b, Nat.zero_le _, rfl, hG, rfl, hb1, fun i hi => absurd hi (by omega), by decide, fun i hi => absurd hi (by omega), rfl, rfl, Gnd.le.rfl', S4⟩
  case round =>
    obtain ⟨k, G1, xs, N, P, rest, hk, rfl, hG, hPr, hrv, hN, hN16, hgt, hxs, rfl, hGq, S2⟩ := hrel
    clear S4
    have hrl : P.length + rest.length = b.length := by rw [← hPr, List.length_append]
    obtain ⟨A, c, rfl, hc1, hc2, hcA⟩ := hrv.form
    have hc3 : c ≤ 9223372036854775807 := hc2
    by_cases hlt : k < ns.length
    · obtain ⟨a, rfl, hcl⟩ := HNE.out k ns[k] (List.getElem?_eq_getElem hlt)
      have hcc := S2.cellR (cellR_mono hG.ro hcl)
      clear hcl
      generalize ns[k] = ci at *
      obtain ⟨O, co, rfl, hco1, hco2, -⟩ := S2.ownForm
      have S3 := S2.swap
      clear S2
      by_cases n0 : ci < 0
      ·
        have hxl : (rest.take (0)).length = 0 := by rw [List.length_take]; omega
        have hx1 := hrv.to (0) (by omega) c (by omega) (Nat.le_refl _)
        have hx2 := hrv.from (0) (by omega)
        have hPX : (P ++ rest.take (0)) ++ rest.drop (0) = b := by rw [List.append_assoc, List.take_append_drop]; exact hPr
        rw [show rest.length - (0) = (rest.drop (0)).length from List.length_drop.symm] at hx2
        have hdl : (rest.drop (0)).length = rest.length - (0) := List.length_drop
        generalize hX : rest.take (0) = X at *
        generalize hY : rest.drop (0) = Y at *
        have hfd := rm_feed S3 _ X hx1 (by have := eat_len hN; have := congrArg List.length hPr; rw [List.length_append] at this; omega)
        have HPX := Lib.hid hPX
        have HPR := Lib.hid hPr
        clear hPX hPr hX hY
        by_cases hcn : c = 0
        ·
          replace hcn := hcn.symm
          subst hcn
          rw [show fromA A (0) (0) = A from if_pos rfl] at hx2
          have HX2 := Lib.hid hx2
          have HDL := Lib.hid hdl
          have HXL := Lib.hid hxl
          clear hx1 hx2 hxl hdl
          go_wp2_with fail
          (with_reducible refine hfd.mono ?_)
          clear hfd S3
          rintro e w4 ⟨G2, hG2, S4, ⟨h, -⟩ | ⟨-, M2, hM2, hres⟩⟩
          · cases h
          replace hG := hG.trans hG2
          have hne : headE (eat (eat P N ++ X) M2) 16384 ≠ 0 := by rcases hres with h | h <;> rw [h.1] <;> decide
          rw [feed_of hM2 hne] at S4
          have hPe : eat (P ++ X) N = eat P N ++ X := eat_app hN
          have hP1 : Eats (P ++ X) 16384 (N + M2) := eats_add (eats_app hN) (by rw [hPe]; exact hM2)
          have hP2 : eat (P ++ X) (N + M2) = eat (eat P N ++ X) M2 := by rw [eat_add, hPe]
          have hgt2 := (got_app (x := X) hgt hN).up hG2
          have hlen2 := eat_len hP1
          have S5 := Sat.swap S4
          rcases hres with ⟨h16, v1, rfl, hfr⟩ | ⟨h106, rfl⟩
          ·
            rw [if_neg (by rw [h16]; decide), ← hP2] at S5
            simp only at S5
            obtain ⟨V, cv, rfl, -, -, -⟩ := id hfr
            obtain ⟨ys, hy1, hy2, hy3, hy4⟩ := rfr_cells hfr
            have hbnd : N + M2 ≤ 1000000000 := by have h1 := congrArg List.length HPX.out; rw [List.length_append] at h1; omega
            have hgj := got_join hxs hgt2 (by rw [hPe]; exact hy2) hy1
            have HGJ := Lib.hid hgj
            have HP1 := Lib.hid hP1
            have HP2 := Lib.hid (show headE (eat (P ++ X) (N + M2)) 16384 = 16 by rw [hP2]; exact h16)
            clear hP1 hP2 hPe hgt hgt2 hM2 hne hlen2 hfr hy2 h16 hgj S4
            go_wp2_with (at_builtin; refine st_appF S5 rfl _ _ rfl rfl rfl hy1 hy3 hy4 hbnd ?_; intro v' w' S')
            go_roundw
            case rel => exact ⟨k + 1, G2, xs ++ ys, N + M2, P ++ X, Y, by omega, by go_num, hG, HPX.out, by have h := HX2.out.mono hG2; rw [HDL.out] at h; first | simpa using h | (simpa [Nat.le_zero.1 hc1] using h) | (simpa [map_add_zero] using h) | (simpa [show rest.length - (0) = 0 by omega] using h), HP1.out, HP2.out, HGJ.out, by rw [List.length_append, hxs, hy1]; omega, rfl, hGq.trans hG2, Sat.mid [_] (Sat.dim [_] S')⟩
            case measure => simp [intOf]; omega
          ·
            rw [if_pos h106] at S5
            simp only at S5
            have hb1 : Eats b 16384 (N + M2) := by rw [← HPX.out]; exact eats_app hP1
            have hb2 : headE (eat b (N + M2)) 16384 = 106 := by rw [← HPX.out, eat_app hP1, headE_app (by rw [hP2, h106]; decide), hP2, h106]
            have hsame := same_count hb1 (by rw [hb2]; decide) hqM (by rcases hq with h | h <;> rw [h.1] <;> decide)
            have hbnd : N + 0 ≤ 1000000000 := by have h1 := congrArg List.length HPX.out; rw [List.length_append] at h1; omega
            subst hsame
            rcases hq with ⟨h, -⟩ | ⟨-, rfl, rfl⟩
            · rw [hb2] at h; exact absurd h (by decide)
            clear hP1 hP2 hPe hgt hgt2 hM2 hne hlen2 hb1 hb2 h106 S4
            go_wp2_with (at_builtin; refine st_appF S5 rfl _ _ rfl rfl rfl (ys := []) (N := 0) rfl rfl (fun j u hj => by simp at hj) hbnd ?_; intro v' w' S')
            (with_reducible refine (law_awake _).mono ?_); rintro e w9 ⟨rfl, hb9⟩; go_wp2_with fail; exact hK.out _ _ ⟨rfl, ((S'.drop.drop.drop).below hb9).above hG⟩
        ·
          rw [show fromA A c (0) = A.map (·.add (0)) from if_neg hcn] at hx2
          have HX2 := Lib.hid hx2
          have HDL := Lib.hid hdl
          have HXL := Lib.hid hxl
          clear hx1 hx2 hxl hdl
          go_wp2_with fail
          (with_reducible refine hfd.mono ?_)
          clear hfd S3
          rintro e w4 ⟨G2, hG2, S4, ⟨h, -⟩ | ⟨-, M2, hM2, hres⟩⟩
          · cases h
          replace hG := hG.trans hG2
          have hne : headE (eat (eat P N ++ X) M2) 16384 ≠ 0 := by rcases hres with h | h <;> rw [h.1] <;> decide
          rw [feed_of hM2 hne] at S4
          have hPe : eat (P ++ X) N = eat P N ++ X := eat_app hN
          have hP1 : Eats (P ++ X) 16384 (N + M2) := eats_add (eats_app hN) (by rw [hPe]; exact hM2)
          have hP2 : eat (P ++ X) (N + M2) = eat (eat P N ++ X) M2 := by rw [eat_add, hPe]
          have hgt2 := (got_app (x := X) hgt hN).up hG2
          have hlen2 := eat_len hP1
          have S5 := Sat.swap S4
          rcases hres with ⟨h16, v1, rfl, hfr⟩ | ⟨h106, rfl⟩
          ·
            rw [if_neg (by rw [h16]; decide), ← hP2] at S5
            simp only at S5
            obtain ⟨V, cv, rfl, -, -, -⟩ := id hfr
            obtain ⟨ys, hy1, hy2, hy3, hy4⟩ := rfr_cells hfr
            have hbnd : N + M2 ≤ 1000000000 := by have h1 := congrArg List.length HPX.out; rw [List.length_append] at h1; omega
            have hgj := got_join hxs hgt2 (by rw [hPe]; exact hy2) hy1
            have HGJ := Lib.hid hgj
            have HP1 := Lib.hid hP1
            have HP2 := Lib.hid (show headE (eat (P ++ X) (N + M2)) 16384 = 16 by rw [hP2]; exact h16)
            clear hP1 hP2 hPe hgt hgt2 hM2 hne hlen2 hfr hy2 h16 hgj S4
            go_wp2_with (at_builtin; refine st_appF S5 rfl _ _ rfl rfl rfl hy1 hy3 hy4 hbnd ?_; intro v' w' S')
            go_roundw
            case rel => exact ⟨k + 1, G2, xs ++ ys, N + M2, P ++ X, Y, by omega, by go_num, hG, HPX.out, by have h := HX2.out.mono hG2; rw [HDL.out] at h; first | simpa using h | (simpa [Nat.le_zero.1 hc1] using h) | (simpa [map_add_zero] using h) | (simpa [show rest.length - (0) = 0 by omega] using h), HP1.out, HP2.out, HGJ.out, by rw [List.length_append, hxs, hy1]; omega, rfl, hGq.trans hG2, Sat.mid [_] (Sat.dim [_] S')⟩
            case measure => simp [intOf]; omega
          ·
            rw [if_pos h106] at S5
            simp only at S5
            have hb1 : Eats b 16384 (N + M2) := by rw [← HPX.out]; exact eats_app hP1
            have hb2 : headE (eat b (N + M2)) 16384 = 106 := by rw [← HPX.out, eat_app hP1, headE_app (by rw [hP2, h106]; decide), hP2, h106]
            have hsame := same_count hb1 (by rw [hb2]; decide) hqM (by rcases hq with h | h <;> rw [h.1] <;> decide)
            have hbnd : N + 0 ≤ 1000000000 := by have h1 := congrArg List.length HPX.out; rw [List.length_append] at h1; omega
            subst hsame
            rcases hq with ⟨h, -⟩ | ⟨-, rfl, rfl⟩
            · rw [hb2] at h; exact absurd h (by decide)
            clear hP1 hP2 hPe hgt hgt2 hM2 hne hlen2 hb1 hb2 h106 S4
            go_wp2_with (at_builtin; refine st_appF S5 rfl _ _ rfl rfl rfl (ys := []) (N := 0) rfl rfl (fun j u hj => by simp at hj) hbnd ?_; intro v' w' S')
            (with_reducible refine (law_awake _).mono ?_); rintro e w9 ⟨rfl, hb9⟩; go_wp2_with fail; exact hK.out _ _ ⟨rfl, ((S'.drop.drop.drop).below hb9).above hG⟩
      by_cases n8 : (rest.length : Int) < ci
      ·
        have hxl : (rest.take (rest.length)).length = rest.length := by rw [List.length_take]; omega
        have hx1 := hrv.to (rest.length) (by omega) c (by omega) (Nat.le_refl _)
        have hx2 := hrv.from (rest.length) (by omega)
        have hPX : (P ++ rest.take (rest.length)) ++ rest.drop (rest.length) = b := by rw [List.append_assoc, List.take_append_drop]; exact hPr
        rw [show rest.length - (rest.length) = (rest.drop (rest.length)).length from List.length_drop.symm] at hx2
        have hdl : (rest.drop (rest.length)).length = rest.length - (rest.length) := List.length_drop
        generalize hX : rest.take (rest.length) = X at *
        generalize hY : rest.drop (rest.length) = Y at *
        have hfd := rm_feed S3 _ X hx1 (by have := eat_len hN; have := congrArg List.length hPr; rw [List.length_append] at this; omega)
        have HPX := Lib.hid hPX
        have HPR := Lib.hid hPr
        clear hPX hPr hX hY
        by_cases hcn : c = rest.length
        ·
          replace hcn := hcn.symm
          subst hcn
          rw [show fromA A (rest.length) (rest.length) = A from if_pos rfl] at hx2
          have HX2 := Lib.hid hx2
          have HDL := Lib.hid hdl
          have HXL := Lib.hid hxl
          clear hx1 hx2 hxl hdl
          go_wp2_with fail
          (with_reducible refine hfd.mono ?_)
          clear hfd S3
          rintro e w4 ⟨G2, hG2, S4, ⟨h, -⟩ | ⟨-, M2, hM2, hres⟩⟩
          · cases h
          replace hG := hG.trans hG2
          have hne : headE (eat (eat P N ++ X) M2) 16384 ≠ 0 := by rcases hres with h | h <;> rw [h.1] <;> decide
          rw [feed_of hM2 hne] at S4
          have hPe : eat (P ++ X) N = eat P N ++ X := eat_app hN
          have hP1 : Eats (P ++ X) 16384 (N + M2) := eats_add (eats_app hN) (by rw [hPe]; exact hM2)
          have hP2 : eat (P ++ X) (N + M2) = eat (eat P N ++ X) M2 := by rw [eat_add, hPe]
          have hgt2 := (got_app (x := X) hgt hN).up hG2
          have hlen2 := eat_len hP1
          have S5 := Sat.swap S4
          rcases hres with ⟨h16, v1, rfl, hfr⟩ | ⟨h106, rfl⟩
          ·
            rw [if_neg (by rw [h16]; decide), ← hP2] at S5
            simp only at S5
            obtain ⟨V, cv, rfl, -, -, -⟩ := id hfr
            obtain ⟨ys, hy1, hy2, hy3, hy4⟩ := rfr_cells hfr
            have hbnd : N + M2 ≤ 1000000000 := by have h1 := congrArg List.length HPX.out; rw [List.length_append] at h1; omega
            have hgj := got_join hxs hgt2 (by rw [hPe]; exact hy2) hy1
            have HGJ := Lib.hid hgj
            have HP1 := Lib.hid hP1
            have HP2 := Lib.hid (show headE (eat (P ++ X) (N + M2)) 16384 = 16 by rw [hP2]; exact h16)
            clear hP1 hP2 hPe hgt hgt2 hM2 hne hlen2 hfr hy2 h16 hgj S4
            go_wp2_with (at_builtin; refine st_appF S5 rfl _ _ rfl rfl rfl hy1 hy3 hy4 hbnd ?_; intro v' w' S')
            go_roundw
            case rel => exact ⟨k + 1, G2, xs ++ ys, N + M2, P ++ X, Y, by omega, by go_num, hG, HPX.out, by have h := HX2.out.mono hG2; rw [HDL.out] at h; first | simpa using h | (simpa [Nat.le_zero.1 hc1] using h) | (simpa [map_add_zero] using h) | (simpa [show rest.length - (rest.length) = 0 by omega] using h), HP1.out, HP2.out, HGJ.out, by rw [List.length_append, hxs, hy1]; omega, rfl, hGq.trans hG2, Sat.mid [_] (Sat.dim [_] S')⟩
            case measure => simp [intOf]; omega
          ·
            rw [if_pos h106] at S5
            simp only at S5
            have hb1 : Eats b 16384 (N + M2) := by rw [← HPX.out]; exact eats_app hP1
            have hb2 : headE (eat b (N + M2)) 16384 = 106 := by rw [← HPX.out, eat_app hP1, headE_app (by rw [hP2, h106]; decide), hP2, h106]
            have hsame := same_count hb1 (by rw [hb2]; decide) hqM (by rcases hq with h | h <;> rw [h.1] <;> decide)
            have hbnd : N + 0 ≤ 1000000000 := by have h1 := congrArg List.length HPX.out; rw [List.length_append] at h1; omega
            subst hsame
            rcases hq with ⟨h, -⟩ | ⟨-, rfl, rfl⟩
            · rw [hb2] at h; exact absurd h (by decide)
            clear hP1 hP2 hPe hgt hgt2 hM2 hne hlen2 hb1 hb2 h106 S4
            go_wp2_with (at_builtin; refine st_appF S5 rfl _ _ rfl rfl rfl (ys := []) (N := 0) rfl rfl (fun j u hj => by simp at hj) hbnd ?_; intro v' w' S')
            (with_reducible refine (law_awake _).mono ?_); rintro e w9 ⟨rfl, hb9⟩; go_wp2_with fail; exact hK.out _ _ ⟨rfl, ((S'.drop.drop.drop).below hb9).above hG⟩
        ·
          rw [show fromA A c (rest.length) = A.map (·.add (rest.length)) from if_neg hcn] at hx2
          have HX2 := Lib.hid hx2
          have HDL := Lib.hid hdl
          have HXL := Lib.hid hxl
          clear hx1 hx2 hxl hdl
          go_wp2_with fail
          (with_reducible refine hfd.mono ?_)
          clear hfd S3
          rintro e w4 ⟨G2, hG2, S4, ⟨h, -⟩ | ⟨-, M2, hM2, hres⟩⟩
          · cases h
          replace hG := hG.trans hG2
          have hne : headE (eat (eat P N ++ X) M2) 16384 ≠ 0 := by rcases hres with h | h <;> rw [h.1] <;> decide
          rw [feed_of hM2 hne] at S4
          have hPe : eat (P ++ X) N = eat P N ++ X := eat_app hN
          have hP1 : Eats (P ++ X) 16384 (N + M2) := eats_add (eats_app hN) (by rw [hPe]; exact hM2)
          have hP2 : eat (P ++ X) (N + M2) = eat (eat P N ++ X) M2 := by rw [eat_add, hPe]
          have hgt2 := (got_app (x := X) hgt hN).up hG2
          have hlen2 := eat_len hP1
          have S5 := Sat.swap S4
          rcases hres with ⟨h16, v1, rfl, hfr⟩ | ⟨h106, rfl⟩
          ·
            rw [if_neg (by rw [h16]; decide), ← hP2] at S5
            simp only at S5
            obtain ⟨V, cv, rfl, -, -, -⟩ := id hfr
            obtain ⟨ys, hy1, hy2, hy3, hy4⟩ := rfr_cells hfr
            have hbnd : N + M2 ≤ 1000000000 := by have h1 := congrArg List.length HPX.out; rw [List.length_append] at h1; omega
            have hgj := got_join hxs hgt2 (by rw [hPe]; exact hy2) hy1
            have HGJ := Lib.hid hgj
            have HP1 := Lib.hid hP1
            have HP2 := Lib.hid (show headE (eat (P ++ X) (N + M2)) 16384 = 16 by rw [hP2]; exact h16)
            clear hP1 hP2 hPe hgt hgt2 hM2 hne hlen2 hfr hy2 h16 hgj S4
            go_wp2_with (at_builtin; refine st_appF S5 rfl _ _ rfl rfl rfl hy1 hy3 hy4 hbnd ?_; intro v' w' S')
            go_roundw
            case rel => exact ⟨k + 1, G2, xs ++ ys, N + M2, P ++ X, Y, by omega, by go_num, hG, HPX.out, by have h := HX2.out.mono hG2; rw [HDL.out] at h; first | simpa using h | (simpa [Nat.le_zero.1 hc1] using h) | (simpa [map_add_zero] using h) | (simpa [show rest.length - (rest.length) = 0 by omega] using h), HP1.out, HP2.out, HGJ.out, by rw [List.length_append, hxs, hy1]; omega, rfl, hGq.trans hG2, Sat.mid [_] (Sat.dim [_] S')⟩
            case measure => simp [intOf]; omega
          ·
            rw [if_pos h106] at S5
            simp only at S5
            have hb1 : Eats b 16384 (N + M2) := by rw [← HPX.out]; exact eats_app hP1
            have hb2 : headE (eat b (N + M2)) 16384 = 106 := by rw [← HPX.out, eat_app hP1, headE_app (by rw [hP2, h106]; decide), hP2, h106]
            have hsame := same_count hb1 (by rw [hb2]; decide) hqM (by rcases hq with h | h <;> rw [h.1] <;> decide)
            have hbnd : N + 0 ≤ 1000000000 := by have h1 := congrArg List.length HPX.out; rw [List.length_append] at h1; omega
            subst hsame
            rcases hq with ⟨h, -⟩ | ⟨-, rfl, rfl⟩
            · rw [hb2] at h; exact absurd h (by decide)
            clear hP1 hP2 hPe hgt hgt2 hM2 hne hlen2 hb1 hb2 h106 S4
            go_wp2_with (at_builtin; refine st_appF S5 rfl _ _ rfl rfl rfl (ys := []) (N := 0) rfl rfl (fun j u hj => by simp at hj) hbnd ?_; intro v' w' S')
            (with_reducible refine (law_awake _).mono ?_); rintro e w9 ⟨rfl, hb9⟩; go_wp2_with fail; exact hK.out _ _ ⟨rfl, ((S'.drop.drop.drop).below hb9).above hG⟩
      ·
        obtain ⟨z, rfl⟩ : ∃ z : Nat, ci = z := ⟨ci.toNat, by omega⟩
        have hzr : z ≤ rest.length := by omega
        have hxl : (rest.take (z)).length = z := by rw [List.length_take]; omega
        have hx1 := hrv.to (z) (by omega) c (by omega) (Nat.le_refl _)
        have hx2 := hrv.from (z) (by omega)
        have hPX : (P ++ rest.take (z)) ++ rest.drop (z) = b := by rw [List.append_assoc, List.take_append_drop]; exact hPr
        rw [show rest.length - (z) = (rest.drop (z)).length from List.length_drop.symm] at hx2
        have hdl : (rest.drop (z)).length = rest.length - (z) := List.length_drop
        generalize hX : rest.take (z) = X at *
        generalize hY : rest.drop (z) = Y at *
        have hfd := rm_feed S3 _ X hx1 (by have := eat_len hN; have := congrArg List.length hPr; rw [List.length_append] at this; omega)
        have HPX := Lib.hid hPX
        have HPR := Lib.hid hPr
        clear hPX hPr hX hY
        by_cases hcn : c = z
        ·
          replace hcn := hcn.symm
          subst hcn
          rw [show fromA A (z) (z) = A from if_pos rfl] at hx2
          have HX2 := Lib.hid hx2
          have HDL := Lib.hid hdl
          have HXL := Lib.hid hxl
          clear hx1 hx2 hxl hdl
          go_wp2_with fail
          (with_reducible refine hfd.mono ?_)
          clear hfd S3
          rintro e w4 ⟨G2, hG2, S4, ⟨h, -⟩ | ⟨-, M2, hM2, hres⟩⟩
          · cases h
          replace hG := hG.trans hG2
          have hne : headE (eat (eat P N ++ X) M2) 16384 ≠ 0 := by rcases hres with h | h <;> rw [h.1] <;> decide
          rw [feed_of hM2 hne] at S4
          have hPe : eat (P ++ X) N = eat P N ++ X := eat_app hN
          have hP1 : Eats (P ++ X) 16384 (N + M2) := eats_add (eats_app hN) (by rw [hPe]; exact hM2)
          have hP2 : eat (P ++ X) (N + M2) = eat (eat P N ++ X) M2 := by rw [eat_add, hPe]
          have hgt2 := (got_app (x := X) hgt hN).up hG2
          have hlen2 := eat_len hP1
          have S5 := Sat.swap S4
          rcases hres with ⟨h16, v1, rfl, hfr⟩ | ⟨h106, rfl⟩
          ·
            rw [if_neg (by rw [h16]; decide), ← hP2] at S5
            simp only at S5
            obtain ⟨V, cv, rfl, -, -, -⟩ := id hfr
            obtain ⟨ys, hy1, hy2, hy3, hy4⟩ := rfr_cells hfr
            have hbnd : N + M2 ≤ 1000000000 := by have h1 := congrArg List.length HPX.out; rw [List.length_append] at h1; omega
            have hgj := got_join hxs hgt2 (by rw [hPe]; exact hy2) hy1
            have HGJ := Lib.hid hgj
            have HP1 := Lib.hid hP1
            have HP2 := Lib.hid (show headE (eat (P ++ X) (N + M2)) 16384 = 16 by rw [hP2]; exact h16)
            clear hP1 hP2 hPe hgt hgt2 hM2 hne hlen2 hfr hy2 h16 hgj S4
            go_wp2_with (at_builtin; refine st_appF S5 rfl _ _ rfl rfl rfl hy1 hy3 hy4 hbnd ?_; intro v' w' S')
            go_roundw
            case rel => exact ⟨k + 1, G2, xs ++ ys, N + M2, P ++ X, Y, by omega, by go_num, hG, HPX.out, by have h := HX2.out.mono hG2; rw [HDL.out] at h; first | simpa using h | (simpa [Nat.le_zero.1 hc1] using h) | (simpa [map_add_zero] using h) | (simpa [show rest.length - (z) = 0 by omega] using h), HP1.out, HP2.out, HGJ.out, by rw [List.length_append, hxs, hy1]; omega, rfl, hGq.trans hG2, Sat.mid [_] (Sat.dim [_] S')⟩
            case measure => simp [intOf]; omega
          ·
            rw [if_pos h106] at S5
            simp only at S5
            have hb1 : Eats b 16384 (N + M2) := by rw [← HPX.out]; exact eats_app hP1
            have hb2 : headE (eat b (N + M2)) 16384 = 106 := by rw [← HPX.out, eat_app hP1, headE_app (by rw [hP2, h106]; decide), hP2, h106]
            have hsame := same_count hb1 (by rw [hb2]; decide) hqM (by rcases hq with h | h <;> rw [h.1] <;> decide)
            have hbnd : N + 0 ≤ 1000000000 := by have h1 := congrArg List.length HPX.out; rw [List.length_append] at h1; omega
            subst hsame
            rcases hq with ⟨h, -⟩ | ⟨-, rfl, rfl⟩
            · rw [hb2] at h; exact absurd h (by decide)
            clear hP1 hP2 hPe hgt hgt2 hM2 hne hlen2 hb1 hb2 h106 S4
            go_wp2_with (at_builtin; refine st_appF S5 rfl _ _ rfl rfl rfl (ys := []) (N := 0) rfl rfl (fun j u hj => by simp at hj) hbnd ?_; intro v' w' S')
            (with_reducible refine (law_awake _).mono ?_); rintro e w9 ⟨rfl, hb9⟩; go_wp2_with fail; exact hK.out _ _ ⟨rfl, ((S'.drop.drop.drop).below hb9).above hG⟩
        ·
          rw [show fromA A c (z) = A.map (·.add (z)) from if_neg hcn] at hx2
          have HX2 := Lib.hid hx2
          have HDL := Lib.hid hdl
          have HXL := Lib.hid hxl
          clear hx1 hx2 hxl hdl
          go_wp2_with fail
          (with_reducible refine hfd.mono ?_)
          clear hfd S3
          rintro e w4 ⟨G2, hG2, S4, ⟨h, -⟩ | ⟨-, M2, hM2, hres⟩⟩
          · cases h
          replace hG := hG.trans hG2
          have hne : headE (eat (eat P N ++ X) M2) 16384 ≠ 0 := by rcases hres with h | h <;> rw [h.1] <;> decide
          rw [feed_of hM2 hne] at S4
          have hPe : eat (P ++ X) N = eat P N ++ X := eat_app hN
          have hP1 : Eats (P ++ X) 16384 (N + M2) := eats_add (eats_app hN) (by rw [hPe]; exact hM2)
          have hP2 : eat (P ++ X) (N + M2) = eat (eat P N ++ X) M2 := by rw [eat_add, hPe]
          have hgt2 := (got_app (x := X) hgt hN).up hG2
          have hlen2 := eat_len hP1
          have S5 := Sat.swap S4
          rcases hres with ⟨h16, v1, rfl, hfr⟩ | ⟨h106, rfl⟩
          ·
            rw [if_neg (by rw [h16]; decide), ← hP2] at S5
            simp only at S5
            obtain ⟨V, cv, rfl, -, -, -⟩ := id hfr
            obtain ⟨ys, hy1, hy2, hy3, hy4⟩ := rfr_cells hfr
            have hbnd : N + M2 ≤ 1000000000 := by have h1 := congrArg List.length HPX.out; rw [List.length_append] at h1; omega
            have hgj := got_join hxs hgt2 (by rw [hPe]; exact hy2) hy1
            have HGJ := Lib.hid hgj
            have HP1 := Lib.hid hP1
            have HP2 := Lib.hid (show headE (eat (P ++ X) (N + M2)) 16384 = 16 by rw [hP2]; exact h16)
            clear hP1 hP2 hPe hgt hgt2 hM2 hne hlen2 hfr hy2 h16 hgj S4
            go_wp2_with (at_builtin; refine st_appF S5 rfl _ _ rfl rfl rfl hy1 hy3 hy4 hbnd ?_; intro v' w' S')
            go_roundw
            case rel => exact ⟨k + 1, G2, xs ++ ys, N + M2, P ++ X, Y, by omega, by go_num, hG, HPX.out, by have h := HX2.out.mono hG2; rw [HDL.out] at h; first | simpa using h | (simpa [Nat.le_zero.1 hc1] using h) | (simpa [map_add_zero] using h) | (simpa [show rest.length - (z) = 0 by omega] using h), HP1.out, HP2.out, HGJ.out, by rw [List.length_append, hxs, hy1]; omega, rfl, hGq.trans hG2, Sat.mid [_] (Sat.dim [_] S')⟩
            case measure => simp [intOf]; omega
          ·
            rw [if_pos h106] at S5
            simp only at S5
            have hb1 : Eats b 16384 (N + M2) := by rw [← HPX.out]; exact eats_app hP1
            have hb2 : headE (eat b (N + M2)) 16384 = 106 := by rw [← HPX.out, eat_app hP1, headE_app (by rw [hP2, h106]; decide), hP2, h106]
            have hsame := same_count hb1 (by rw [hb2]; decide) hqM (by rcases hq with h | h <;> rw [h.1] <;> decide)
            have hbnd : N + 0 ≤ 1000000000 := by have h1 := congrArg List.length HPX.out; rw [List.length_append] at h1; omega
            subst hsame
            rcases hq with ⟨h, -⟩ | ⟨-, rfl, rfl⟩
            · rw [hb2] at h; exact absurd h (by decide)
            clear hP1 hP2 hPe hgt hgt2 hM2 hne hlen2 hb1 hb2 h106 S4
            go_wp2_with (at_builtin; refine st_appF S5 rfl _ _ rfl rfl rfl (ys := []) (N := 0) rfl rfl (fun j u hj => by simp at hj) hbnd ?_; intro v' w' S')
            (with_reducible refine (law_awake _).mono ?_); rintro e w9 ⟨rfl, hb9⟩; go_wp2_with fail; exact hK.out _ _ ⟨rfl, ((S'.drop.drop.drop).below hb9).above hG⟩
    · obtain rfl : k = ns.length := by omega
      obtain ⟨O, co, rfl, hco1, hco2, -⟩ := S2.ownForm
      have S3 := S2.swap
      clear S2
      have HPX := Lib.hid hPr
      have hfd := rm_feed S3 _ rest hrv (by have := eat_len hN; omega)
      clear hPr
      go_wp2_with fail
      (with_reducible refine hfd.mono ?_)
      clear hfd S3
      rintro e w4 ⟨G2, hG2, S4, ⟨h, -⟩ | ⟨-, M2, hM2, hres⟩⟩
      · cases h
      replace hG := hG.trans hG2
      have hne : headE (eat (eat P N ++ rest) M2) 16384 ≠ 0 := by rcases hres with h | h <;> rw [h.1] <;> decide
      rw [feed_of hM2 hne] at S4
      have hPe : eat (P ++ rest) N = eat P N ++ rest := eat_app hN
      have hP1 : Eats (P ++ rest) 16384 (N + M2) := eats_add (eats_app hN) (by rw [hPe]; exact hM2)
      have hP2 : eat (P ++ rest) (N + M2) = eat (eat P N ++ rest) M2 := by rw [eat_add, hPe]
      have hgt2 := (got_app (x := rest) hgt hN).up hG2
      have hlen2 := eat_len hP1
      have S5 := Sat.swap S4
      rw [HPX.out] at hP1 hP2 hgt2 hlen2
      have hsame := same_count hP1 (by rw [hP2]; exact hne) hqM (by rcases hq with h | h <;> rw [h.1] <;> decide)
      subst hsame
      have hbnd : N + M2 ≤ 1000000000 := by omega
      rcases hres with ⟨h16, v1, rfl, hfr⟩ | ⟨h106, rfl⟩
      ·
        rw [if_neg (by rw [h16]; decide), ← hP2] at S5
        simp only at S5
        rcases hq with ⟨hq1, rfl, hqr⟩ | ⟨h, -⟩
        rotate_left
        · rw [hP2, h16] at h; exact absurd h (by decide)
        obtain ⟨V, cv, rfl, -, -, -⟩ := id hfr
        obtain ⟨Q, cq, rfl, hq3, hq4, hqe⟩ := hqr
        have hq5 : cq ≤ 9223372036854775807 := hq4
        obtain ⟨ys, hy1, hy2, hy3, hy4⟩ := rfr_cells hfr
        have hgj := got_join hxs (by rw [HPX.out] at hPe; exact hgt2) (by rw [← HPX.out, hPe]; exact hy2) hy1
        have hsq := HSQ.out
        rw [if_neg (by rw [hq1]; decide)] at hsq
        subst hsq
        have HGJ := Lib.hid hgj
        have HQE := Lib.hid hqe
        have hED : (eat b (N + M2)).length ≤ 300 := by omega
        generalize hD : eat b (N + M2) = E at S5
        have HD := Lib.hid hD
        rw [hD] at hED
        simp only at S5
        clear hP1 hP2 hPe hgt hgt2 hM2 hne hlen2 hfr hy2 h16 hgj S4 hqe hq1 hqM hqne hN hN16 hb1 hrv hD
        go_wp2_with (at_builtin; refine st_appF S5 rfl _ _ rfl rfl rfl hy1 hy3 hy4 hbnd ?_; intro v' w' S'; obtain ⟨Z9, c9, rfl, hz1, hz2, -⟩ := S'.ownForm)
        obtain ⟨G4, hG4, S6, A4, c4, e4, hk4, hl4, hel⟩ := S'.ownFreeze
        cases e4
        have hz3 : c9 ≤ 9223372036854775807 := hz2
        have HELL := Lib.hid hel
        have HL4 := Lib.hid hl4
        replace hG := hG.trans hG4
        clear S' S5 hel hl4 hy1 hy3 hy4 hxs
        have hwr := rm_waiting S6
        have hwq := rm_waiting S6.swap
        go_wp2_with fail
        (with_reducible refine hwr.mono ?_)
        rintro e w6 ⟨rfl, rfl⟩
        go_wp2_with fail
        (with_reducible refine hwq.mono ?_)
        rintro e w6 ⟨rfl, rfl⟩
        clear hwr hwq
        go_wp2_with fail
        go_loopw [127] (fun i wr => ∃ j : Nat, j ≤ N + M2 ∧ i = .int .i64 j ∧ Sat G4 wr [rmA r 16384 E false, rmA q 16384 E false]) (fun i _ => N + M2 - (intOf i).toNat)
        case atStart => exact ⟨0, Nat.zero_le _, rfl, S6⟩
        case round =>
          obtain ⟨j, hj, rfl, S8⟩ := hrel
          clear S6
          by_cases hjl : j < N + M2
          · obtain ⟨g2, e1, u2, p0, p1, p2, p3, hu2⟩ := HQE.out j hjl
            subst e1
            obtain ⟨u, f0, f1, f2, f3, hu⟩ := HGJ.out j hjl
            obtain ⟨g, e1, f0⟩ := HELL.out _ _ f0
            subst e1
            obtain ⟨g', e1, f1⟩ := HELL.out _ _ f1
            cases e1
            obtain ⟨g', e1, f2⟩ := HELL.out _ _ f2
            cases e1
            obtain ⟨g', e1, f3⟩ := HELL.out _ _ f3
            cases e1
            have hGG := hGq.trans (hG2.trans hG4)
            replace p0 : cellR G4.ro ⟨g2, j * 4, none⟩ = _ := cellR_mono hGG.ro p0
            replace p1 : cellR G4.ro ⟨g2, j * 4 + 1, none⟩ = _ := cellR_mono hGG.ro p1
            replace p2 : cellR G4.ro ⟨g2, j * 4 + 2, none⟩ = _ := cellR_mono hGG.ro p2
            replace p3 : cellR G4.ro ⟨g2, j * 4 + 3, none⟩ = _ := cellR_mono hGG.ro p3
            replace f0 : cellR G4.ro ⟨g, j * 4, none⟩ = _ := f0
            replace hu := hu.mono hG4
            replace hu2 := hu2.mono hGG
            generalize ((eat b j).drop 9).take (hdN (eat b j)) = pl at *
            generalize (hdT (eat b j) : Int) = dt at *
            generalize (hdF (eat b j) : Int) = df at *
            generalize (hdS (eat b j) : Int) = ds at *
            obtain ⟨X, cx, rfl, -, -, -⟩ := hu.form
            obtain ⟨Y, cy, rfl, -, -, -⟩ := hu2.form
            go_upto_region 32 with fail
            refine wp_act fun a0 ha0 => ?_
            have HSZ : a0.tmps.size = 142 := by rw [ha0]; rfl
            have E9 : a0.eval (.tmp 9) = .slice (some ⟨g2, 0, none⟩) (N + M2) cq := by rw [ha0]; rfl
            have E11 : a0.eval (.tmp 11) = .slice (some ⟨g, 0, none⟩) (N + M2) c9 := by rw [ha0]; rfl
            have E21 : a0.eval (.tmp 21) = .int .i64 j := by rw [ha0]; rfl
            refine wp_region_sat (by kernel_rfl) 10 (by kernel_rfl) [[], [], [0, 1], [2], [], [], [4, 5], [6], [3, 7], [8]] (by kernel_rfl) (by kernel_rfl) [(0, 130, .slice (some ⟨g, 0, none⟩) (N + M2) c9), (1, 131, .int .i64 j), (2, 132, .pointer (some ⟨g, j * 4, none⟩)), (3, 133, .agg #[.int .i64 dt, .int .i64 df, .int .i64 ds, .slice X pl.length cx]), (4, 134, .slice (some ⟨g2, 0, none⟩) (N + M2) cq), (5, 135, .int .i64 j), (6, 136, .pointer (some ⟨g2, j * 4, none⟩)), (7, 137, .agg #[.int .i64 dt, .int .i64 df, .int .i64 ds, .slice Y pl.length cy]), (8, 138, .bool true), (9, 139, .bool false)] (fun _ => [rmA r 16384 E false, rmA q 16384 E false]) (by kernel_rfl) S8 ?_ ?_
            · refine ⟨?_, ?_, ?_, ?_, ?_, ?_, ?_, ?_, ?_, ?_, trivial⟩
              · intro f W h0 hd S
                refine wpOp_run (v := .slice (some ⟨g, 0, none⟩) (N + M2) c9) rfl rfl (fun ρ hρ => ?_) ⟨(acts_some 0 rfl (by kernel_rfl) (by kernel_rfl)).symm, S⟩
                have e0 : ρ (.tmp 11) = .slice (some ⟨g, 0, none⟩) (N + M2) c9 := by rw [hρ]; exact (acts_eval_tmp 11 (by kernel_rfl)).trans E11
                clear hρ
                go_simp
              · intro f W h1 hd S
                refine wpOp_run (v := .int .i64 j) rfl rfl (fun ρ hρ => ?_) ⟨(acts_some 1 rfl (by kernel_rfl) (by kernel_rfl)).symm, S⟩
                have e0 : ρ (.tmp 21) = .int .i64 j := by rw [hρ]; exact (acts_eval_tmp 21 (by kernel_rfl)).trans E21
                clear hρ
                go_simp
              · intro f W h2 hd S
                refine wpOp_run (v := .pointer (some ⟨g, j * 4, none⟩)) rfl rfl (fun ρ hρ => ?_) ⟨(acts_some 2 rfl (by kernel_rfl) (by kernel_rfl)).symm, S⟩
                have e0 : ρ (.tmp 130) = .slice (some ⟨g, 0, none⟩) (N + M2) c9 := by rw [hρ]; exact acts_eval_hit 0 rfl hd.1 (by rw [HSZ]; rfl) (by kernel_rfl)
                have e1 : ρ (.tmp 131) = .int .i64 j := by rw [hρ]; exact acts_eval_hit 1 rfl hd.2.1 (by rw [HSZ]; rfl) (by kernel_rfl)
                clear hρ
                go_simp
              · intro f W h3 hd S
                refine wpOp_run (v := .agg #[.int .i64 dt, .int .i64 df, .int .i64 ds, .slice X pl.length cx]) rfl rfl (fun ρ hρ => ?_) ⟨(acts_some 3 rfl (by kernel_rfl) (by kernel_rfl)).symm, S⟩
                have e0 : ρ (.tmp 132) = .pointer (some ⟨g, j * 4, none⟩) := by rw [hρ]; exact acts_eval_hit 2 rfl hd.1 (by rw [HSZ]; rfl) (by kernel_rfl)
                clear hρ
                (have d0 := S.cellR f0; have d1 := S.cellR f1; have d2 := S.cellR f2; have d3 := S.cellR f3)
                go_simp
              · intro f W h4 hd S
                refine wpOp_run (v := .slice (some ⟨g2, 0, none⟩) (N + M2) cq) rfl rfl (fun ρ hρ => ?_) ⟨(acts_some 4 rfl (by kernel_rfl) (by kernel_rfl)).symm, S⟩
                have e0 : ρ (.tmp 9) = .slice (some ⟨g2, 0, none⟩) (N + M2) cq := by rw [hρ]; exact (acts_eval_tmp 9 (by kernel_rfl)).trans E9
                clear hρ
                go_simp
              · intro f W h5 hd S
                refine wpOp_run (v := .int .i64 j) rfl rfl (fun ρ hρ => ?_) ⟨(acts_some 5 rfl (by kernel_rfl) (by kernel_rfl)).symm, S⟩
                have e0 : ρ (.tmp 21) = .int .i64 j := by rw [hρ]; exact (acts_eval_tmp 21 (by kernel_rfl)).trans E21
                clear hρ
                go_simp
              · intro f W h6 hd S
                refine wpOp_run (v := .pointer (some ⟨g2, j * 4, none⟩)) rfl rfl (fun ρ hρ => ?_) ⟨(acts_some 6 rfl (by kernel_rfl) (by kernel_rfl)).symm, S⟩
                have e0 : ρ (.tmp 134) = .slice (some ⟨g2, 0, none⟩) (N + M2) cq := by rw [hρ]; exact acts_eval_hit 4 rfl hd.1 (by rw [HSZ]; rfl) (by kernel_rfl)
                have e1 : ρ (.tmp 135) = .int .i64 j := by rw [hρ]; exact acts_eval_hit 5 rfl hd.2.1 (by rw [HSZ]; rfl) (by kernel_rfl)
                clear hρ
                go_simp
              · intro f W h7 hd S
                refine wpOp_run (v := .agg #[.int .i64 dt, .int .i64 df, .int .i64 ds, .slice Y pl.length cy]) rfl rfl (fun ρ hρ => ?_) ⟨(acts_some 7 rfl (by kernel_rfl) (by kernel_rfl)).symm, S⟩
                have e0 : ρ (.tmp 136) = .pointer (some ⟨g2, j * 4, none⟩) := by rw [hρ]; exact acts_eval_hit 6 rfl hd.1 (by rw [HSZ]; rfl) (by kernel_rfl)
                clear hρ
                (have d0 := S.cellR p0; have d1 := S.cellR p1; have d2 := S.cellR p2; have d3 := S.cellR p3)
                go_simp
              · intro f W h8 hd S
                refine wpOp_call rfl rfl (fun ρ hρ => ?_) (frame_equal S dt df ds dt df ds _ _ pl pl (fun W SW ↦ (hu.sat SW).1) (fun W SW ↦ (hu2.sat SW).1)) ?_
                · skip
                  have e0 : ρ (.tmp 133) = .agg #[.int .i64 dt, .int .i64 df, .int .i64 ds, .slice X pl.length cx] := by rw [hρ]; exact acts_eval_hit 3 rfl hd.1 (by rw [HSZ]; rfl) (by kernel_rfl)
                  have e1 : ρ (.tmp 137) = .agg #[.int .i64 dt, .int .i64 df, .int .i64 ds, .slice Y pl.length cy] := by rw [hρ]; exact acts_eval_hit 7 rfl hd.2.1 (by rw [HSZ]; rfl) (by kernel_rfl)
                  have ef : ρ (.func 16) = .func (.func 16) #[] #[] := by rw [hρ]; rfl
                  clear hρ
                  go_simp
                · (rintro e W' ⟨rfl, S'⟩; rw [decide_eq_true ⟨rfl, rfl, rfl, rfl⟩]; exact ⟨_, rfl, (acts_some 8 rfl (by kernel_rfl) (by kernel_rfl)).symm, S'⟩)
              · intro f W h9 hd S
                refine wpOp_run (v := .bool false) rfl rfl (fun ρ hρ => ?_) ⟨(acts_some 9 rfl (by kernel_rfl) (by kernel_rfl)).symm, S⟩
                have e0 : ρ (.tmp 138) = .bool true := by rw [hρ]; exact acts_eval_hit 8 rfl hd.1 (by rw [HSZ]; rfl) (by kernel_rfl)
                clear hρ
                go_simp
            intro W8 S9
            subst ha0
            simp only [acts, if_true, Act.put, List.setIfInBounds_toArray, List.set_cons_succ, List.set_cons_zero]
            clear S8 HSZ E9 E11 E21
            go_wp2_with fail
            go_roundw
            case rel => exact ⟨j + 1, by omega, by go_num, S9⟩
            case measure => simp [intOf]; omega
          · go_wp2_with fail
            (with_reducible refine (law_awake _).mono ?_); rintro e w9 ⟨rfl, hb9⟩; go_wp2_with fail; exact hK.out _ _ ⟨rfl, ((S8.drop.drop).below hb9).above hG⟩
      ·
        rw [if_pos h106] at S5
        simp only at S5
        rcases hq with ⟨h, -⟩ | ⟨-, rfl, rfl⟩
        · rw [hP2, h106] at h; exact absurd h (by decide)
        have hbn0 : N + 0 ≤ 1000000000 := by omega
        clear hP1 hP2 hPe hgt hgt2 hM2 hne hlen2 h106 S4 hqM hqne hN hN16 hb1 hrv
        go_wp2_with (at_builtin; refine st_appF S5 rfl _ _ rfl rfl rfl (ys := []) (N := 0) rfl rfl (fun j u hj => by simp at hj) hbn0 ?_; intro v' w' S')
        (with_reducible refine (law_awake _).mono ?_); rintro e w9 ⟨rfl, hb9⟩; go_wp2_with fail; exact hK.out _ _ ⟨rfl, ((S'.drop.drop.drop).below hb9).above hG⟩
end Go.Proofs.Ytjaikmkfpkooiaa
