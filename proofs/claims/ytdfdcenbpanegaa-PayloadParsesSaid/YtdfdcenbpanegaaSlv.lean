/- Bytes that stand somewhere: in blocks, in slices of one's own, in arguments. -/
import Derived.Test.YtdfdcenbpanegaaIn
import Derived.Test.YtdfdcenbpanegaaOpt
import Derived.Deep.Cut
import Derived.Lib.SlBytesConst
import Derived.Laws.AppendOwnNone
set_option linter.unusedSimpArgs false
set_option linter.unusedVariables false
namespace Go.Proofs.Ytdfdcenbpanegaa
open Go.RowKit

/-- Bytes in a block that was just made. -/
theorem slv_new (W : World) (bs : List UInt8) (h : bs.length ≤ maxLen) (n : Nat) (hn : n = W.heap.size) (t : TypeId) : SlV (W.alloc (.cells (bs.map byteV).toArray t)).cell? (.slice (some ⟨n, 0, none⟩) bs.length bs.length) bs.length (bs.map byteV) :=
  ⟨_, _, rfl, Nat.le_refl _, h, fun j u hj => ⟨_, rfl, alloc_cells W n _ t hn j u (by simpa using hj)⟩⟩
/-- Bytes in a block of one's own. -/
theorem slv_blk {G : Gnd} {w : World} {l : List Asrt} {g : Nat} {bs : List UInt8} {t : TypeId} (H : Sat G w (blk g (bs.map byteV).toArray t :: l)) (h : bs.length ≤ maxLen) : SlV w.cell? (.slice (some ⟨g, 0, none⟩) bs.length bs.length) bs.length (bs.map byteV) :=
  ⟨_, _, rfl, Nat.le_refl _, h, fun j u hj => ⟨_, rfl, by
    have e : (⟨g, 0, none⟩ : Addr).add j = ⟨g, j, none⟩ := by unfold Addr.add; split <;> simp_all
    rw [e, H.cell j]; simpa using hj⟩⟩
theorem slv_own {G : Gnd} {w : World} {l : List Asrt} {v : Value} {bs : List UInt8} {t : TypeId} (H : Sat G w (ownS t 1 v bs.length (bs.map byteV) :: l)) : SlV w.cell? v bs.length (bs.map byteV) := by
  obtain ⟨hl, ⟨rfl, h0, _⟩ | ⟨g, cap, cur, rfl, h1, h2, h3, h4, H⟩⟩ := own_iff.1 H
  · rw [h0]; exact ⟨none, 0, rfl, Nat.le_refl _, Nat.zero_le _, fun j u hj => by have : bs = [] := List.eq_nil_of_length_eq_zero h0; subst this; simp at hj⟩
  · refine ⟨_, cap, rfl, h1, h2, fun j u hj => ⟨_, rfl, ?_⟩⟩
    have e : (⟨g, 0, none⟩ : Addr).add j = ⟨g, j, none⟩ := by unfold Addr.add; split <;> simp_all
    rw [e, H.cell j]
    rw [← h4, List.getElem?_take] at hj
    split at hj
    · simpa using hj
    · cases hj
/-- Bytes of a constant: in a block with the mark of one. -/
theorem slv_const (W : World) (bs : List UInt8) (h : bs.length ≤ maxLen) (n : Nat) (hn : n = W.heap.size) (t : TypeId) (fr : Nat × Nat) : SlV (W.alloc (.cells (bs.map byteV).toArray t fr)).cell? (.slice (some ⟨n, 0, none⟩) bs.length bs.length) bs.length (bs.map byteV) :=
  ⟨_, _, rfl, Nat.le_refl _, h, fun j u hj => ⟨_, rfl, by
    subst hn
    have e : (⟨W.heap.size, 0, none⟩ : Addr).add j = ⟨W.heap.size, j, none⟩ := by unfold Addr.add; split <;> simp_all
    rw [e, cell_of_block (heap_alloc_new W _)]
    simpa using hj⟩⟩
theorem fromA_none {A : Option Addr} {c k : Nat} (hA : A = none → c = 0) (h : fromA A c k = none) : c - k = 0 := by
  unfold fromA at h
  split at h
  · omega
  · cases A with
    | none => have := hA rfl; omega
    | some a => cases h
theorem numOf_cons (c : UInt8) (bs : List UInt8) : numOf (c :: bs) = c.toNat * 256 ^ bs.length + numOf bs := by
  have key : ∀ (bs : List UInt8) (a : Nat), bs.foldl (fun x c => x * 256 + c.toNat) a = a * 256 ^ bs.length + numOf bs := by
    intro bs
    induction bs with
    | nil => intro a; simp [numOf]
    | cons c bs ih =>
      intro a
      simp only [List.foldl_cons, numOf, List.length_cons]
      rw [ih, ih (0 * 256 + c.toNat), Nat.pow_succ]
      rw [Nat.add_mul, Nat.mul_assoc, Nat.mul_comm 256]
      simp only [Nat.zero_mul, Nat.zero_add]
      omega
  unfold numOf
  rw [List.foldl_cons, key]
  simp [numOf]
theorem SlV.sat {G : Gnd} {w : World} {l : List Asrt} {v : Value} {n : Nat} {cs : List Value} (H : Sat G w l) (h : SlV (cellR G.ro) v n cs) : SlV w.cell? v n cs := by
  obtain ⟨A, c, hv, h1, h2, h3⟩ := h
  exact ⟨A, c, hv, h1, h2, fun j u hj => by obtain ⟨a, hA, hc⟩ := h3 j u hj; exact ⟨a, hA, H.cellR hc⟩⟩
theorem byte_cell {R : Hp} {d : D} {es : List Value} (h : Rd R (.int .u8) d es) : ∃ c : UInt8, es = [byteV c] := by
  cases d <;> simp only [Rd] at h
  rename_i n
  obtain ⟨rfl, h⟩ := h
  have h1 : 0 ≤ n ∧ n ≤ 255 := by
    simp [Lit.wf] at h
    exact h
  refine ⟨UInt8.ofNat n.toNat, ?_⟩
  have : (UInt8.ofNat n.toNat).toNat = n.toNat := by simp; omega
  simp only [byteV, this]
  congr 2
  omega
theorem bytes_of {R : Hp} {v : Value} {l : List D} (h : RdSl R 1 (.int .u8) v l) : ∃ bs : List UInt8, bs.length = l.length ∧ bs.length ≤ 140737488351232 ∧ SlV (cellR R) v bs.length (bs.map byteV) := by
  obtain ⟨A, c, hv, hlc, hc, hb, _, hel⟩ := h.form
  have key : ∀ i, i < l.length → ∃ b : UInt8, ∃ a, A = some a ∧ cellR R (a.add i) = some (byteV b) := fun i hi => by
    obtain ⟨a, hA, es, he, hc, hr⟩ := hel i l[i] (List.getElem?_eq_getElem hi)
    obtain ⟨b, rfl⟩ := byte_cell hr
    have := hc 0 (by simp [Ty.size])
    simp only [Ty.size, Nat.mul_one, Nat.add_zero] at this
    exact ⟨b, a, hA, this⟩
  obtain ⟨bs, hbl, hbs⟩ := list_of_each (Q := fun i (b : UInt8) => ∃ a, A = some a ∧ cellR R (a.add i) = some (byteV b)) l.length key
  refine ⟨bs, hbl, by omega, A, c, by rw [hbl]; exact hv, by omega, Nat.le_trans hc (by decide), fun j u hj => ?_⟩
  rw [List.getElem?_map] at hj
  cases hb : bs[j]? with
  | none => rw [hb] at hj; cases hj
  | some b => rw [hb] at hj; cases hj; exact hbs j b hb
theorem bigOf_numOf (bs : List UInt8) : bigOf (numOf bs) bs.length = bs := by
  have key : ∀ (bs : List UInt8) (a : Nat), bigOf (a * 256 ^ bs.length + numOf bs) bs.length = bs := by
    intro bs
    induction bs with
    | nil => intro a; simp [bigOf]
    | cons c bs ih =>
      intro a
      have h2 := numOf_lt bs
      have hc := c.toNat_lt
      rw [List.length_cons, bigOf_succ, numOf_cons]
      have e : a * 256 ^ (bs.length + 1) + (c.toNat * 256 ^ bs.length + numOf bs) = (a * 256 + c.toNat) * 256 ^ bs.length + numOf bs := by
        rw [Nat.pow_succ, Nat.add_mul, Nat.mul_assoc, Nat.mul_comm 256]; omega
      rw [e, ih (a * 256 + c.toNat)]
      congr 1
      have h3 : ((a * 256 + c.toNat) * 256 ^ bs.length + numOf bs) / 256 ^ bs.length = a * 256 + c.toNat := by
        rw [Nat.mul_comm, Nat.mul_add_div (Nat.pos_of_ne_zero (by simp)), Nat.div_eq_of_lt h2, Nat.add_zero]
      rw [h3, show (a * 256 + c.toNat) % 256 = c.toNat by omega]
      simp
  have := key bs 0
  simpa using this
theorem numOf_bigOf (x : Nat) : ∀ n, numOf (bigOf x n) = x % 256 ^ n := by
  have key : ∀ (bs : List UInt8) (a : Nat), bs.foldl (fun x c => x * 256 + c.toNat) a = a * 256 ^ bs.length + numOf bs := by
    intro bs
    induction bs with
    | nil => intro a; simp [numOf]
    | cons c bs ih =>
      intro a
      simp only [List.foldl_cons, numOf, List.length_cons]
      rw [ih, ih (0 * 256 + c.toNat), Nat.pow_succ]
      rw [Nat.add_mul, Nat.mul_assoc, Nat.mul_comm 256]
      simp only [Nat.zero_mul, Nat.zero_add]
      omega
  intro n
  induction n with
  | zero => simp [bigOf, numOf, Nat.mod_one]
  | succ n ih =>
    rw [bigOf_succ]
    unfold numOf
    rw [List.foldl_cons, key, bigOf_length, ih]
    have e1 : (UInt8.ofNat (x / 256 ^ n % 256)).toNat = x / 256 ^ n % 256 := by simp
    rw [e1, Nat.pow_succ, Nat.mod_mul]
    rw [Nat.zero_mul, Nat.zero_add, Nat.mul_comm]
    omega
/-- An element of a slice of one's own, and how it is turned. -/
theorem Sat.ownCell {G : Gnd} {w : World} {l : List Asrt} {e : TypeId} {v : Value} {n : Nat} {xs : List Value} (H : Sat G w (ownS e 1 v n xs :: l)) (k : Nat) (hk : k < n) :
    ∃ g cap, v = .slice (some ⟨g, 0, none⟩) n cap ∧ n ≤ cap ∧ cap ≤ maxLen ∧ w.cell? ⟨g, k, none⟩ = xs[k]? ∧ w.frozen? ⟨g, k, none⟩ = false ∧ ∀ u, Sat G (w.setCell ⟨g, k, none⟩ u) (ownS e 1 v n (xs.set k u) :: l) := by
  obtain ⟨hl, ⟨_, h0, _⟩ | ⟨g, cap, cur, rfl, h1, h2, h3, h4, S⟩⟩ := own_iff.1 H
  · omega
  · refine ⟨g, cap, rfl, h1, h2, ?_, S.frozen k, fun u => ?_⟩
    · rw [S.cell k, ← h4, List.getElem?_take, if_pos (by omega)]; simp
    · refine own_iff.2 ⟨by simpa using hl, .inr ⟨g, cap, _, rfl, h1, h2, ?_, ?_, S.setCell k u⟩⟩
      · simpa using h3
      · rw [Array.toList_setIfInBounds, List.take_set, h4]
theorem bstr_drop (cs : List UInt8) (a e : Nat) (h : cs.length = e) : (bstr cs).extract a e = bstr (cs.drop a) := by
  unfold bstr
  rw [Go.ByteArray.extract_mk, List.take_of_length_le (by rw [List.length_drop]; omega)]
theorem bstr_take (cs : List UInt8) (a : Nat) : (bstr cs).extract 0 a = bstr (cs.take a) := by
  unfold bstr
  rw [Go.ByteArray.extract_mk]; simp
theorem RdSl.none0 {R : Hp} {b : Nat} {t : Ty} {A : Option Addr} {n c : Nat} {l : List D} (h : RdSl R b t (.slice A n c) l) (hA : A = none) : c = 0 := by
  subst hA
  simp only [RdSl, Rd] at h
  obtain ⟨h0, ⟨h1, rfl⟩ | ⟨a, c, h1, h2, h3, h4, h5⟩⟩ := h
  · simp at h1; exact h1.2
  · simp at h1
/-- append of bytes to bytes of one's own. -/
theorem st_app {G : Gnd} {w : World} {l : List Asrt} {ops : Array Oper} {rest : List Oper} {o : Oper} {a : Act} {Q : Exit → Act → World → Prop} {v : Value} {n : Nat} {xs : List Value} (S : Sat G w (ownS 5 1 v n xs :: l)) (hgd : o.guard = none) (s x : Operand)
    (ho : o.op = .call { callee := .builtin .append, args := #[s, x], argTypes := #[22, 22] }) (hs : a.eval s = v)
    {A : Option Addr} {c : Nat} {bs : List UInt8} (hx : a.eval x = .slice A bs.length c) (hb : SlV w.cell? (.slice A bs.length c) bs.length (bs.map byteV)) (hA : A = none → c = 0) (hm : n + bs.length ≤ 140737488355328)
    (h : ∀ v' w', Sat G w' (ownS 5 1 v' (n + bs.length) (xs ++ bs.map byteV) :: l) → wpList Try.prog ops Q rest (a.put o.dst v') w') : wpList Try.prog ops Q (o :: rest) a w := by
  obtain ⟨A', c', e, h1, h2, hel⟩ := hb
  cases e
  cases A with
  | none =>
    obtain rfl := hA rfl
    have e0 : bs = [] := List.eq_nil_of_length_eq_zero (by omega)
    subst e0
    obtain ⟨i, hi⟩ : ∃ i, Try.prog.info? 5 = some i := by
      have := info_u8
      cases hi : Try.prog.info? 5 with
      | none => rw [hi] at this; cases this
      | some i => exact ⟨i, rfl⟩
    refine wpList_append_own_none hgd s x 22 ho 0 5 i 1 Try.underlying22 hi v n xs hs S.owns hx (h v w ?_)
    simpa using S
  | some ad =>
    have hn : n + bs.length ≤ maxLen := Nat.le_trans hm (by decide)
    refine st_append hgd s x 22 ho 5 (.int .u8 0) 1 1 Try.underlying22 info_u8 rfl (by omega) v n xs hs S ad bs.length c (bs.map byteV) hx (by simp) (fun j u hj => ?_) (by simp [byteV, Value.oneCell']) hn (by omega) h
    obtain ⟨a', e, h⟩ := hel j u hj
    cases e; exact h
/-- v is a slice of the bytes bs. -/
def SlB (get : Addr → Option Value) (v : Value) (bs : List UInt8) : Prop := SlV get v bs.length (bs.map byteV) ∧ ∀ n c, v = .slice none n c → c = 0
theorem SlB.v {get : Addr → Option Value} {v : Value} {bs : List UInt8} (h : SlB get v bs) : SlV get v bs.length (bs.map byteV) := h.1
theorem SlB.form {get : Addr → Option Value} {v : Value} {bs : List UInt8} (h : SlB get v bs) : ∃ A c, v = .slice A bs.length c ∧ bs.length ≤ c ∧ c ≤ maxLen ∧ (A = none → c = 0) := by
  obtain ⟨⟨A, c, rfl, h1, h2, _⟩, h3⟩ := h
  exact ⟨A, c, rfl, h1, h2, fun e => h3 _ _ (by rw [e])⟩
theorem SlB.sat {G : Gnd} {w : World} {l : List Asrt} {v : Value} {bs : List UInt8} (h : SlB (cellR G.ro) v bs) (H : Sat G w l) : SlB w.cell? v bs := ⟨h.1.sat H, h.2⟩
theorem SlB.mono {G G' : Gnd} {v : Value} {bs : List UInt8} (h : SlB (cellR G.ro) v bs) (hG : G.le G') : SlB (cellR G'.ro) v bs := by
  obtain ⟨⟨A, c, e, h1, h2, h3⟩, h4⟩ := h
  exact ⟨⟨A, c, e, h1, h2, fun j u hj => by obtain ⟨a, ha, hc⟩ := h3 j u hj; exact ⟨a, ha, cellR_mono hG.ro hc⟩⟩, h4⟩
theorem SlB.nil (get : Addr → Option Value) : SlB get (.slice none 0 0) [] := ⟨⟨none, 0, rfl, Nat.le_refl _, Nat.zero_le _, fun j u hj => by simp at hj⟩, fun n c e => by cases e; rfl⟩
theorem own_slb {G : Gnd} {w : World} {l : List Asrt} {v : Value} {bs : List UInt8} {t : TypeId} (H : Sat G w (ownS t 1 v bs.length (bs.map byteV) :: l)) : SlB w.cell? v bs := by
  refine ⟨slv_own H, fun n c e => ?_⟩
  obtain ⟨A, c', e', _, _, h⟩ := H.ownForm
  rw [e] at e'; cases e'; exact h rfl
/-- What is one's own is turned no more. -/
theorem Sat.ownFrz {G : Gnd} {w : World} {l : List Asrt} {v : Value} {bs : List UInt8} {t : TypeId} (H : Sat G w (ownS t 1 v bs.length (bs.map byteV) :: l)) : ∃ G', G.le G' ∧ Sat G' w l ∧ SlB (Go.Proofs.Ytdfdcenbpanegaa.cellR G'.ro) v bs := by
  have h0 := own_slb H
  obtain ⟨A, c, e, h1, h2, h3⟩ := h0.form
  obtain ⟨G', hG, S, A', c', e', _, _, hel⟩ := H.ownFreeze
  rw [e] at e'; cases e'
  refine ⟨G', hG, S, ⟨A, c, e, h1, h2, fun j u hj => ?_⟩, h0.2⟩
  obtain ⟨g, rfl, hc⟩ := hel j u hj
  have ea : (⟨g, 0, none⟩ : Addr).add j = ⟨g, j, none⟩ := by unfold Addr.add; split <;> simp_all
  exact ⟨_, rfl, by rw [ea]; exact hc⟩
/-- A part of bytes. -/
theorem SlB.to {get : Addr → Option Value} {A : Option Addr} {n c : Nat} {bs : List UInt8} (h : SlB get (.slice A n c) bs) (k : Nat) (hk : k ≤ n) (c' : Nat) (h1 : k ≤ c') (h2 : c' ≤ c) : SlB get (.slice A k c') (bs.take k) := by
  obtain ⟨⟨A', c1, e, h3, h4, h5⟩, h6⟩ := h
  cases e
  have hl : (bs.take k).length = k := by rw [List.length_take]; omega
  refine ⟨⟨A, c', by rw [hl], by omega, by omega, fun j u hj => h5 j u ?_⟩, fun n c e => ?_⟩
  · rw [List.map_take, List.getElem?_take] at hj
    split at hj
    · exact hj
    · cases hj
  · cases e; have := h6 _ _ rfl; omega
theorem SlB.from {get : Addr → Option Value} {A : Option Addr} {n c : Nat} {bs : List UInt8} (h : SlB get (.slice A n c) bs) (k : Nat) (hk : k ≤ n) : SlB get (.slice (fromA A c k) (n - k) (c - k)) (bs.drop k) := by
  have hn : n = bs.length := by obtain ⟨⟨A', c1, e, _⟩, _⟩ := h; cases e; rfl
  subst hn
  have := SlV.from h.1 (by simp) k hk
  refine ⟨by rw [List.length_drop, List.map_drop]; exact this, fun n' c' e => ?_⟩
  injection e with e1 e2 e3
  have := fromA_none (A := A) (c := c) (k := k) (fun hA => h.2 _ _ (by rw [hA])) e1
  omega
theorem slb_of {R : Hp} {v : Value} {l : List D} (h : RdSl R 1 (.int .u8) v l) : ∃ bs : List UInt8, bs.length = l.length ∧ bs.length ≤ 140737488351232 ∧ SlB (cellR R) v bs := by
  obtain ⟨bs, h1, h2, h3⟩ := bytes_of h
  exact ⟨bs, h1, h2, h3, fun n c e => by subst e; exact RdSl.none0 h rfl⟩
end Go.Proofs.Ytdfdcenbpanegaa
