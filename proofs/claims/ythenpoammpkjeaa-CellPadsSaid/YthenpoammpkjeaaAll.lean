/- The walk over frame.All, whose frames lie in memory of their own; and the same, where nobody turns them. -/
import Derived.Test.YthenpoammpkjeaaParse
import Derived.Test.YthenpoammpkjeaaApp2
set_option linter.unusedSimpArgs false
set_option linter.unusedVariables false
namespace Go.Proofs.Ythenpoammpkjeaa
open Go.RowKit

theorem head_bounds (bs : List UInt8) : hdN bs < 16777216 ∧ hdT bs < 256 ∧ hdF bs < 256 ∧ hdS bs < 2147483648 := by
  have key : ∀ (cs : List UInt8) (k : Nat), cs.length ≤ k → numOf cs < 256 ^ k := fun cs k h => Nat.lt_of_lt_of_le (numOf_lt _) (Nat.pow_le_pow_right (by omega) h)
  exact ⟨key _ 3 (by rw [List.length_take]; omega), key _ 1 (by rw [List.length_take]; omega), key _ 1 (by rw [List.length_take]; omega), Nat.mod_lt _ (by omega)⟩
/-- Bytes, of any frame. -/
theorem frame_bytes_any {G : Gnd} {w : World} {l : List Asrt} (H : Sat G w l) (t fl s : Int) (v : Value) (bs : List UInt8) (hb : SlB (cellR G.ro) v bs) :
    Calls Try.prog 26 #[.agg #[.int .i64 t, .int .i64 fl, .int .i64 s, v]] w fun e w' => ∃ G' u er, G.le G' ∧ Sat G' w' l ∧ e = .returned (.tuple #[u, .int .i64 er]) ∧
      ((frRight t fl s bs.length = false ∧ u = .slice none 0 0 ∧ er = 10) ∨ (frRight t fl s bs.length = true ∧ er = 0 ∧ SlB (Go.Proofs.Ythenpoammpkjeaa.cellR G'.ro) u (frBytes t.toNat fl.toNat s.toNat bs))) := by
  obtain ⟨A, c, rfl, -, -, -⟩ := hb.form
  cases hr : frRight t fl s bs.length with
  | false => exact (frame_bytes_not H t fl s A bs.length c hr).mono fun e w' h => ⟨G, _, 10, Gnd.le.rfl', h.2, h.1, .inl ⟨rfl, rfl, rfl⟩⟩
  | true =>
    have h := of_decide_eq_true hr
    have := frame_bytes H t.toNat fl.toNat s.toNat _ bs (fun W SW => hb.sat SW) (by omega) (by omega) (by omega) (by omega)
    rw [show ((t.toNat : Nat) : Int) = t by omega, show ((fl.toNat : Nat) : Int) = fl by omega, show ((s.toNat : Nat) : Int) = s by omega] at this
    refine this.mono ?_
    rintro e w' ⟨u, rfl, S⟩
    obtain ⟨G', hG, S', hu⟩ := S.ownFrz
    exact ⟨G', u, 0, hG, S', rfl, .inr ⟨rfl, rfl, hu⟩⟩
/-- What a frame's bytes say. -/
theorem fr_head (t f s : Nat) (bs : List UInt8) (ht : t ≤ 255) (hf : f ≤ 255) (hs : s ≤ 2147483647) (hn : bs.length ≤ 16777215) (r : List UInt8) :
    hdN (frBytes t f s bs ++ r) = bs.length ∧ hdT (frBytes t f s bs ++ r) = t ∧ hdF (frBytes t f s bs ++ r) = f ∧ hdS (frBytes t f s bs ++ r) = s ∧ (((frBytes t f s bs ++ r).drop 9).take bs.length) = bs ∧ (frBytes t f s bs ++ r).drop (9 + bs.length) = r := by
  have l3 : (bigOf bs.length 3).length = 3 := bigOf_length _ _
  have l4 : (bigOf s 4).length = 4 := bigOf_length _ _
  have e : frBytes t f s bs ++ r = bigOf bs.length 3 ++ (UInt8.ofNat t :: UInt8.ofNat f :: (bigOf s 4 ++ (bs ++ r))) := by simp [frBytes]
  have d3 : (frBytes t f s bs ++ r).drop 3 = UInt8.ofNat t :: UInt8.ofNat f :: (bigOf s 4 ++ (bs ++ r)) := by rw [e, List.drop_left' l3]
  have d4 : (frBytes t f s bs ++ r).drop 4 = UInt8.ofNat f :: (bigOf s 4 ++ (bs ++ r)) := by rw [show 4 = 3 + 1 from rfl, ← List.drop_drop, d3]; rfl
  have d5 : (frBytes t f s bs ++ r).drop 5 = bigOf s 4 ++ (bs ++ r) := by rw [show 5 = 3 + 2 from rfl, ← List.drop_drop, d3]; rfl
  have d9 : (frBytes t f s bs ++ r).drop 9 = bs ++ r := by rw [show 9 = 5 + 4 from rfl, ← List.drop_drop, d5, List.drop_left' l4]
  refine ⟨?_, ?_, ?_, ?_, ?_, ?_⟩
  · unfold hdN; rw [e, List.take_left' l3, numOf_bigOf]; omega
  · unfold hdT; rw [d3]; simp [numOf]; omega
  · unfold hdF; rw [d4]; simp [numOf]; omega
  · unfold hdS; rw [d5, List.take_left' l4, numOf_bigOf]; omega
  · rw [d9, List.take_left' rfl]
  · rw [← List.drop_drop, d9, List.drop_left' rfl]
/-- What is left behind k frames. -/
def eat (bs : List UInt8) : Nat → List UInt8
  | 0 => bs
  | k + 1 => (eat bs k).drop (9 + hdN (eat bs k))
theorem head_three (c : List UInt8) (most : Int) : headE c most = 0 ∨ headE c most = 16 ∨ headE c most = 106 := by
  unfold headE
  split
  · exact .inr (.inl rfl)
  · split
    · exact .inr (.inr rfl)
    · split
      · exact .inr (.inl rfl)
      · exact .inl rfl
theorem head_fits {c : List UInt8} {most : Int} (h : headE c most = 0) : 9 + hdN c ≤ c.length := by
  unfold headE at h
  split at h
  · cases h
  · split at h
    · cases h
    · split at h
      · cases h
      · omega
/-- All of the first k are frames. -/
def Eats (bs : List UInt8) (most : Int) (k : Nat) : Prop := ∀ i, i < k → headE (eat bs i) most = 0
theorem eat_len {bs : List UInt8} {most : Int} : ∀ {k : Nat}, Eats bs most k → (eat bs k).length + 9 * k ≤ bs.length
  | 0, _ => by simp [eat]
  | k + 1, h => by
    have h1 := eat_len (k := k) fun i hi => h i (by omega)
    have h2 := head_fits (h k (by omega))
    simp only [eat, List.length_drop]
    omega
theorem Eats.succ {bs : List UInt8} {most : Int} {k : Nat} (h : Eats bs most k) (h' : headE (eat bs k) most = 0) : Eats bs most (k + 1) := fun i hi => by
  by_cases e : i = k
  · subst e; exact h'
  · exact h i (by omega)
theorem Eats.le {bs : List UInt8} {most : Int} {k K : Nat} (h : Eats bs most k) (h' : headE (eat bs K) most ≠ 0) : k ≤ K := by
  by_cases e : k ≤ K
  · exact e
  · exact absurd (h K (by omega)) h'
/-- Four cells are a frame: the first one of the bytes c. -/
def FrAt (R : Hp) (get : Nat → Option Value) (c : List UInt8) : Prop :=
  ∃ u, get 0 = some (.int .i64 (hdT c)) ∧ get 1 = some (.int .i64 (hdF c)) ∧ get 2 = some (.int .i64 (hdS c)) ∧ get 3 = some u ∧ SlB (cellR R) u ((c.drop 9).take (hdN c))
theorem FrAt.up {G G' : Gnd} {get get' : Nat → Option Value} {c : List UInt8} (h : FrAt G.ro get c) (hG : G.le G') (hg : ∀ j v, j < 4 → get j = some v → get' j = some v) : FrAt G'.ro get' c := by
  obtain ⟨u, h0, h1, h2, h3, h4⟩ := h
  exact ⟨u, hg _ _ (by omega) h0, hg _ _ (by omega) h1, hg _ _ (by omega) h2, hg _ _ (by omega) h3, h4.mono hG⟩
/-- A slice of the first k frames, that nobody turns. -/
def RFr (R : Hp) (v : Value) (k : Nat) (bs : List UInt8) : Prop :=
  ∃ A c, v = .slice A k c ∧ k ≤ c ∧ c ≤ maxLen ∧ ∀ i, i < k → ∃ g, A = some ⟨g, 0, none⟩ ∧ FrAt R (fun j => cellR R ⟨g, i * 4 + j, none⟩) (eat bs i)
def lenV : Value → Nat
  | .slice _ n _ => n
  | _ => 0
theorem info_fr : (Try.prog.info? 40).map (fun i => (i.zero, i.size, i.bytes)) = some (some (.agg #[.int .i64 0, .int .i64 0, .int .i64 0, .slice none 0 0]), 4, 48) := by kernel_rfl
theorem results_ttt {P : Program} {fn : Func} {p1 p2 p3 : Tmp} (h : fn.results = #[.tmp p1, .tmp p2, .tmp p3]) (tmps : Array Value) (w : World) : (results fn tmps).run P w = .ok (.tuple #[tmps.getD p1 undef, tmps.getD p2 undef, tmps.getD p3 undef]) w := by
  simp [results, h]
theorem fr_snoc {G1 G2 : Gnd} {bs : List UInt8} {most : Int} {k : Nat} {xs : List Value} {X : Option Addr} {cx : Nat} {pl : List UInt8} (hl : xs.length = k * 4) (hE : Eats bs most k) (hG : G1.le G2) (hfr : ∀ i, i < k → FrAt G1.ro (fun j => xs[i * 4 + j]?) (eat bs i)) (hpl : ((eat bs k).drop 9).take (hdN (eat bs k)) = pl) (hu : SlB (cellR G2.ro) (.slice X pl.length cx) pl) (i : Nat) (hi : i < k + 1) :
    FrAt G2.ro (fun j => (xs ++ [.int .i64 (hdT (eat bs k)), .int .i64 (hdF (eat bs k)), .int .i64 (hdS (eat bs k)), .slice X pl.length cx])[i * 4 + j]?) (eat bs i) := by
  by_cases e : i = k
  · subst e
    have hx : ∀ j, (xs ++ [.int .i64 (hdT (eat bs i)), .int .i64 (hdF (eat bs i)), .int .i64 (hdS (eat bs i)), .slice X pl.length cx])[i * 4 + j]? = [Value.int .i64 (hdT (eat bs i)), .int .i64 (hdF (eat bs i)), .int .i64 (hdS (eat bs i)), .slice X pl.length cx][j]? := fun j => by
      rw [List.getElem?_append_right (by omega)]
      congr 1; omega
    exact ⟨_, (hx 0).trans rfl, (hx 1).trans rfl, (hx 2).trans rfl, (hx 3).trans rfl, by rw [hpl]; exact hu⟩
  · exact (hfr i (by omega)).up hG fun j v hj hv => by
      have := (List.getElem?_eq_some_iff.1 hv).1
      rw [List.getElem?_append_left this]; exact hv
set_option maxHeartbeats 4000000 in
set_option maxRecDepth 100000 in
theorem frame_all_own {G : Gnd} {w : World} {l : List Asrt} (H : Sat G w l) (v : Value) (bs : List UInt8) (most : Int) (hv : SlB (cellR G.ro) v bs) (hn : bs.length ≤ 1000000000) :
    Calls Try.prog 29 #[v, .int .i64 most] w fun e w' => ∃ G' K, G.le G' ∧ Eats bs most K ∧
      ((headE (eat bs K) most = 16 ∧ ∃ v1 v2 xs, e = .returned (.tuple #[v1, v2, .int .i64 0]) ∧ (∀ i, i < K → FrAt G'.ro (fun j => xs[i * 4 + j]?) (eat bs i)) ∧ SlB (Go.Proofs.Ythenpoammpkjeaa.cellR G'.ro) v2 (eat bs K) ∧ Sat G' w' (ownS 40 4 v1 K xs :: l)) ∨
       (headE (eat bs K) most = 106 ∧ e = .returned (.tuple #[.slice none 0 0, .slice none 0 0, .int .i64 106]) ∧ Sat G' w' l)) := by
  refine calls_any fun K hK => ?_
  have S0 := H.ownNil 40 4
  clear H
  go_enter Try.func29, Try.ntmps29
  go_wp2_with fail
  go_loopw [0, 7] (fun b o wr => ∃ (k : Nat) (G1 : Gnd) (xs : List Value), G.le G1 ∧ Eats bs most k ∧ SlB (Go.Proofs.Ythenpoammpkjeaa.cellR G1.ro) b (eat bs k) ∧ Sat G1 wr (ownS 40 4 o k xs :: l) ∧ ∀ i, i < k → FrAt G1.ro (fun j => xs[i * 4 + j]?) (eat bs i)) (fun b _ _ => lenV b)
  case atStart => exact ⟨0, G, [], Gnd.le.rfl', fun i hi => absurd hi (by omega), hv, S0, fun i hi => absurd hi (by omega)⟩
  case round =>
    obtain ⟨k, G1, xs, hG1, hE, hb, S1, hfr⟩ := hrel
    clear S0
    have hln := eat_len hE
    obtain ⟨A, c, rfl, hc1, hc2, hA⟩ := hb.form
    obtain ⟨O, co, rfl, -, -, -⟩ := S1.ownForm
    have hc3 : c ≤ 9223372036854775807 := hc2
    have hp := frame_parse S1 _ (eat bs k) most (fun W SW => hb.sat SW) (by omega)
    go_wp2_with fail
    (with_reducible refine hp.mono ?_)
    clear hp S1
    rintro e w2 ⟨G2, u, hG2, S2, ⟨hh, rfl⟩ | ⟨hh, rfl, hu⟩⟩
    · have S3 := S2.alloc (.cells #[.int .i64 0, .int .i64 0, .int .i64 0, .slice none 0 0] 40)
      clear S2
      unfold zeroFr
      rcases head_three (eat bs k) most with h0 | h0 | h0
      · exact absurd h0 hh
      · rw [h0]
        have hcl := bytes_clone S3 _ (eat bs k) ((hb.mono hG2).sat S3).1 (by omega)
        clear S3
        go_wp2_with fail
        (with_reducible refine hcl.mono ?_)
        clear hcl
        rintro e w3 ⟨u2, rfl, S4⟩
        obtain ⟨G3, hG3, S5, hu2⟩ := S4.ownFrz
        go_wp2_with fail
        refine bodyPost_ret (results_ttt (p1 := 4) (p2 := 5) (p3 := 6) rfl _ _) rfl ?_
        exact hK.out _ _ ⟨G3, k, (hG1.trans hG2).trans hG3, hE, .inl ⟨h0, _, _, _, rfl, fun i hi => (hfr i hi).up (hG2.trans hG3) (fun _ _ _ h => h), hu2, S5⟩⟩
      · rw [h0]
        go_wp2_with fail
        refine bodyPost_ret (results_ttt (p1 := 4) (p2 := 5) (p3 := 6) rfl _ _) rfl ?_
        exact hK.out _ _ ⟨G2, k, hG1.trans hG2, hE, .inr ⟨h0, rfl, S3.drop⟩⟩
    · obtain ⟨X, cx, rfl, -, -, -⟩ := hu.form
      have hft := head_fits hh
      generalize hpl : ((eat bs k).drop 9).take (hdN (eat bs k)) = pl at *
      have S3 := S2.alloc (.cells #[.int .i64 (hdT (eat bs k)), .int .i64 (hdF (eat bs k)), .int .i64 (hdS (eat bs k)), .slice X pl.length cx] 40)
      have S4 := S3.alloc (.cells #[.int .i64 (hdT (eat bs k)), .int .i64 (hdF (eat bs k)), .int .i64 (hdS (eat bs k)), .slice X pl.length cx] 40)
      clear S3 S2
      have hA' : ∃ b0 o0, A = some ⟨b0, o0, none⟩ := by
        cases A with
        | none => have := hA rfl; omega
        | some ad =>
          obtain ⟨b0, o0, e⟩ := ((hb.mono hG2).sat S4).addr (by omega)
          exact ⟨b0, o0, by rw [e]⟩
      obtain ⟨b0, o0, rfl⟩ := hA'
      have hb2 := (hb.mono hG2).from (9 + hdN (eat bs k)) (by omega)
      have hl4 := (own_iff.1 S4).1
      rw [show (eat bs k).drop (9 + hdN (eat bs k)) = eat bs (k + 1) from rfl] at hb2
      by_cases h9c : c = 9 + hdN (eat bs k)
      · rw [show fromA (some (⟨b0, o0, none⟩ : Addr)) c (9 + hdN (eat bs k)) = some ⟨b0, o0, none⟩ from if_pos h9c] at hb2
        go_wp2_with (at_builtin; refine st_append rfl _ _ 33 rfl 40 (.agg #[.int .i64 0, .int .i64 0, .int .i64 0, .slice none 0 0]) 4 48 Try.underlying33 info_fr rfl (by omega) _ k xs rfl S4 ⟨w2.heap.size + 1, 0, none⟩ 1 1 [.int .i64 (hdT (eat bs k)), .int .i64 (hdF (eat bs k)), .int .i64 (hdS (eat bs k)), .slice X pl.length cx] rfl rfl (alloc_cells _ _ #[.int .i64 (hdT (eat bs k)), .int .i64 (hdF (eat bs k)), .int .i64 (hdS (eat bs k)), .slice X pl.length cx] _ (by simp)) rfl (Nat.le_trans (show k + 1 ≤ 140737488351233 by omega) (by decide)) (by omega) ?_; intro v' w' S')
        go_roundw
        case rel => exact ⟨k + 1, G2, _, hG1.trans hG2, hE.succ hh, (by have h := hb2; rw [h9c] at h; exact h), S', fun i hi => fr_snoc hl4 hE hG2 hfr hpl hu i hi⟩
        case measure => simp [lenV]; omega
      · rw [show fromA (some (⟨b0, o0, none⟩ : Addr)) c (9 + hdN (eat bs k)) = some ((⟨b0, o0, none⟩ : Addr).add (9 + hdN (eat bs k))) from if_neg h9c] at hb2
        go_wp2_with (at_builtin; refine st_append rfl _ _ 33 rfl 40 (.agg #[.int .i64 0, .int .i64 0, .int .i64 0, .slice none 0 0]) 4 48 Try.underlying33 info_fr rfl (by omega) _ k xs rfl S4 ⟨w2.heap.size + 1, 0, none⟩ 1 1 [.int .i64 (hdT (eat bs k)), .int .i64 (hdF (eat bs k)), .int .i64 (hdS (eat bs k)), .slice X pl.length cx] rfl rfl (alloc_cells _ _ #[.int .i64 (hdT (eat bs k)), .int .i64 (hdF (eat bs k)), .int .i64 (hdS (eat bs k)), .slice X pl.length cx] _ (by simp)) rfl (Nat.le_trans (show k + 1 ≤ 140737488351233 by omega) (by decide)) (by omega) ?_; intro v' w' S')
        go_roundw
        case rel => exact ⟨k + 1, G2, _, hG1.trans hG2, hE.succ hh, (by have h := hb2; rw [show (⟨b0, o0, none⟩ : Addr).add (9 + hdN (eat bs k)) = ⟨b0, o0 + (9 + hdN (eat bs k)), none⟩ by unfold Addr.add; split <;> simp_all] at h; exact h), S', fun i hi => fr_snoc hl4 hE hG2 hfr hpl hu i hi⟩
        case measure => simp [lenV]; omega

theorem frame_all {G : Gnd} {w : World} {l : List Asrt} (H : Sat G w l) (v : Value) (bs : List UInt8) (most : Int) (hv : SlB (cellR G.ro) v bs) (hn : bs.length ≤ 1000000000) :
    Calls Try.prog 29 #[v, .int .i64 most] w fun e w' => ∃ G' K, G.le G' ∧ Sat G' w' l ∧ Eats bs most K ∧
      ((headE (eat bs K) most = 16 ∧ ∃ v1 v2, e = .returned (.tuple #[v1, v2, .int .i64 0]) ∧ RFr G'.ro v1 K bs ∧ SlB (Go.Proofs.Ythenpoammpkjeaa.cellR G'.ro) v2 (eat bs K)) ∨
       (headE (eat bs K) most = 106 ∧ e = .returned (.tuple #[.slice none 0 0, .slice none 0 0, .int .i64 106]))) :=
  (frame_all_own H v bs most hv hn).mono fun e w' h => by
    obtain ⟨G3, k, hG, hE, ⟨h0, v1, v2, xs, rfl, hfr, hu2, S5⟩ | ⟨h0, rfl, S⟩⟩ := h
    · obtain ⟨G4, hG4, S6, A4, c4, e4, hk4, hl4, hel⟩ := S5.ownFreeze
      obtain ⟨A5, c5, e5, hk5, hc5, -⟩ := S5.ownForm
      rw [e4] at e5; cases e5
      exact ⟨G4, k, hG.trans hG4, S6, hE, .inl ⟨h0, _, _, rfl, ⟨_, _, e4, hk5, hc5, fun i hi => by
        have hf := hfr i hi
        obtain ⟨g, hg, -⟩ := hel (i * 4) _ hf.choose_spec.1
        refine ⟨g, hg, hf.up hG4 fun j x hj hx => ?_⟩
        obtain ⟨g', hg', hc⟩ := hel _ _ hx
        rw [hg] at hg'
        cases hg'
        exact hc⟩, hu2.mono hG4⟩⟩
    · exact ⟨G3, k, hG, S, hE, .inr ⟨h0, rfl⟩⟩
end Go.Proofs.Ythenpoammpkjeaa
