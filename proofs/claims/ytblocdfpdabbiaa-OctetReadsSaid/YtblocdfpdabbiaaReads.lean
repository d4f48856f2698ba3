/- The walk of the law OctetReads. -/
import Derived.Test.YtblocdfpdabbiaaRdr2
import Derived.Test.YtblocdfpdabbiaaPair2
import Derived.Laws.AppendOwnNone
import Derived.Deep.Cut
set_option linter.unusedSimpArgs false
set_option linter.unusedVariables false
namespace Go.Proofs.Ytblocdfpdabbiaa
open Go.RowKit

/-- An element of a slice of one's own, and how it is turned. -/
theorem Sat.ownCell {G : Gnd} {w : World} {l : List Asrt} {e : TypeId} {v : Value} {n : Nat} {xs : List Value} (H : Sat G w (ownS e 1 v n xs :: l)) (k : Nat) (hk : k < n) :
    ∃ g cap, v = .slice (some ⟨g, 0, none⟩) n cap ∧ n ≤ cap ∧ cap ≤ maxLen ∧ w.cell? ⟨g, k, none⟩ = xs[k]? ∧ w.frozen? ⟨g, k, none⟩ = false ∧ ∀ u, Sat G (w.setCell ⟨g, k, none⟩ u) (ownS e 1 v n (xs.set k u) :: l) := by
  obtain ⟨hl, ⟨_, h0, _⟩ | ⟨g, cap, cur, rfl, h1, h2, h3, h4, S⟩⟩ := own_iff.1 H
  · omega
  · refine ⟨g, cap, rfl, h1, h2, ?_, S.frozen k, fun u => ?_⟩
    · rw [S.cell k, ← h4, List.getElem?_take, if_pos (by omega)]; simp
    · refine own_iff.2 ⟨by simpa using hl, .inr ⟨g, cap, _, rfl, h1, h2, ?_, ?_, S.setCell k u⟩⟩
      · simpa using h3
      · rw [Array.toList_setIfInBounds, List.take_set, h4]
theorem bstr_drop (cs : List UInt8) (a e : Nat) (h : cs.length = e) : (bstr cs).extract a e = bstr (cs.drop a) := by
  unfold bstr
  rw [Go.ByteArray.extract_mk, List.take_of_length_le (by rw [List.length_drop]; omega)]
theorem bstr_take (cs : List UInt8) (a : Nat) : (bstr cs).extract 0 a = bstr (cs.take a) := by
  unfold bstr
  rw [Go.ByteArray.extract_mk]; simp
theorem RdSl.none0 {R : Hp} {b : Nat} {t : Ty} {A : Option Addr} {n c : Nat} {l : List D} (h : RdSl R b t (.slice A n c) l) (hA : A = none) : c = 0 := by
  subst hA
  simp only [RdSl, Rd] at h
  obtain ⟨h0, ⟨h1, rfl⟩ | ⟨a, c, h1, h2, h3, h4, h5⟩⟩ := h
  · simp at h1; exact h1.2
  · simp at h1
/-- append of bytes to bytes of one's own. -/
theorem st_app {G : Gnd} {w : World} {l : List Asrt} {ops : Array Oper} {rest : List Oper} {o : Oper} {a : Act} {Q : Exit → Act → World → Prop} {v : Value} {n : Nat} {xs : List Value} (S : Sat G w (ownS 5 1 v n xs :: l)) (hgd : o.guard = none) (s x : Operand)
    (ho : o.op = .call { callee := .builtin .append, args := #[s, x], argTypes := #[23, 23] }) (hs : a.eval s = v)
    {A : Option Addr} {c : Nat} {bs : List UInt8} (hx : a.eval x = .slice A bs.length c) (hb : SlV w.cell? (.slice A bs.length c) bs.length (bs.map byteV)) (hA : A = none → c = 0) (hm : n + bs.length ≤ 140737488355328)
    (h : ∀ v' w', Sat G w' (ownS 5 1 v' (n + bs.length) (xs ++ bs.map byteV) :: l) → wpList Try.prog ops Q rest (a.put o.dst v') w') : wpList Try.prog ops Q (o :: rest) a w := by
  obtain ⟨A', c', e, h1, h2, hel⟩ := hb
  cases e
  cases A with
  | none =>
    obtain rfl := hA rfl
    have e0 : bs = [] := List.eq_nil_of_length_eq_zero (by omega)
    subst e0
    obtain ⟨i, hi⟩ : ∃ i, Try.prog.info? 5 = some i := by
      have := info_u8
      cases hi : Try.prog.info? 5 with
      | none => rw [hi] at this; cases this
      | some i => exact ⟨i, rfl⟩
    refine wpList_append_own_none hgd s x 23 ho 0 5 i 1 Try.underlying23 hi v n xs hs S.owns hx (h v w ?_)
    simpa using S
  | some ad =>
    have hn : n + bs.length ≤ maxLen := Nat.le_trans hm (by decide)
    refine st_append hgd s x 23 ho 5 (.int .u8 0) 1 1 Try.underlying23 info_u8 rfl (by omega) v n xs hs S ad bs.length c (bs.map byteV) hx (by simp) (fun j u hj => ?_) (by simp [byteV, Value.oneCell']) hn (by omega) h
    obtain ⟨a', e, h⟩ := hel j u hj
    cases e; exact h
section
variable {G : Gnd} {w : World} {l : List Asrt} {A : Option Addr} {c r : Nat} {bs : List UInt8}
theorem RdrS.cell {q : Nat} {cs : Array Value} {t : TypeId} (H : RdrS G w r bs (blk q cs t :: l)) (j : Nat) : w.cell? ⟨q, j, none⟩ = cs[j]? := by obtain ⟨A, c, H⟩ := H; exact H.pull2.cell j
theorem RdrS.newBlk (H : RdrS G w r bs l) (cs : Array Value) (t : TypeId) : RdrS G (w.alloc (.cells cs t)) r bs (blk w.heap.size cs t :: l) := by obtain ⟨A, c, H⟩ := H; exact ⟨A, c, (H.newBlk cs t).push2⟩
theorem RdrS.dropl {B : Asrt} (H : RdrS G w r bs (B :: l)) : RdrS G w r bs l := by obtain ⟨A, c, H⟩ := H; exact ⟨A, c, H.pull2.drop⟩
theorem wp_rdr {P : Program} {cd : Code} {Q : Exit → Act → World → Prop} {a : Act} {W : World} (S : RdrS G W r bs l) (h : ∀ w, RdrS G w r bs l → cd.wp P Q a w) : cd.wp P Q a W := h _ S
theorem RdrS.cellR {ad : Addr} {v : Value} (H : RdrS G w r bs l) (hc : Go.Proofs.Ytblocdfpdabbiaa.cellR G.ro ad = some v) : w.cell? ad = some v := H.gone.cellR hc
end
/-- What Take told (the first n bytes, whatever they are now), and what is left behind it. -/
def tkn (A : Option Addr) (c n : Nat) (bs : List UInt8) : Asrt :=
  ⟨fun _ h => n ≤ bs.length ∧ bs.length ≤ c ∧ c ≤ maxLen ∧ ((A = none ∧ c = 0) ∨ ∃ g off cur, A = some ⟨g, off, none⟩ ∧ h g = some (.cells cur 5 (0, 0)) ∧ (∀ j, j < n → ∃ x, cur[off + j]? = some (.int .u8 x)) ∧ ∀ j b, n ≤ j → bs[j]? = some b → cur[off + j]? = some (byteV b)), fun _ h => h⟩
theorem tkn_iff {G : Gnd} {w : World} {l : List Asrt} {A : Option Addr} {c n : Nat} {bs : List UInt8} : Sat G w (tkn A c n bs :: l) ↔ n ≤ bs.length ∧ bs.length ≤ c ∧ c ≤ maxLen ∧ ((A = none ∧ c = 0 ∧ Sat G w l) ∨ ∃ g off cur, A = some ⟨g, off, none⟩ ∧ (∀ j, j < n → ∃ x, cur[off + j]? = some (.int .u8 x)) ∧ (∀ j b, n ≤ j → bs[j]? = some b → cur[off + j]? = some (byteV b)) ∧ Sat G w (blk g cur 5 :: l)) := by
  constructor
  · intro H
    obtain ⟨a, b', cc, lo, d, h, f, k, h1, h2, x1, x2, x3, p, q⟩ := id H
    obtain ⟨p0, p1, p2, p3⟩ := p
    refine ⟨p0, p1, p2, ?_⟩
    rcases p3 with ⟨p3, p4⟩ | ⟨g, off, cur, p3, p4, p5, p6⟩
    · exact .inl ⟨p3, p4, H.drop⟩
    · exact .inr ⟨g, off, cur, p3, p5, p6, a, b', cc, lo, d, h, f, k, h1, h2, x1, x2, x3, p4, q⟩
  · rintro ⟨p0, p1, p2, ⟨p3, p4, H⟩ | ⟨g, off, cur, p3, p4, p5, H⟩⟩
    · exact H.free fun _ _ => ⟨p0, p1, p2, .inl ⟨p3, p4⟩⟩
    · exact H.conv fun h hb => ⟨p0, p1, p2, .inr ⟨g, off, cur, p3, hb, p4, p5⟩⟩
theorem Sat.tknOf {G : Gnd} {w : World} {l : List Asrt} {A : Option Addr} {c : Nat} {bs : List UInt8} (H : Sat G w (hold A c bs :: l)) (n : Nat) (hn : n ≤ bs.length) : Sat G w (tkn A c n bs :: l) := by
  obtain ⟨p1, p2, ⟨p3, p4, S⟩ | ⟨g, off, cur, p3, p4, S⟩⟩ := hold_iff.1 H
  · exact tkn_iff.2 ⟨hn, p1, p2, .inl ⟨p3, p4, S⟩⟩
  · exact tkn_iff.2 ⟨hn, p1, p2, .inr ⟨g, off, cur, p3, fun j hj => ⟨_, p4 j (bs[j]'(by omega)) (List.getElem?_eq_getElem _)⟩, fun j b _ hb => p4 j b hb, S⟩⟩
theorem Sat.tknEnd {G : Gnd} {w : World} {l : List Asrt} {A : Option Addr} {c n : Nat} {bs : List UInt8} (H : Sat G w (tkn A c n bs :: l)) : Sat G w (hold (fromA A c n) (c - n) (bs.drop n) :: l) := by
  obtain ⟨p0, p1, p2, ⟨rfl, rfl, H1⟩ | ⟨g, off, cur, rfl, p4, p5, H1⟩⟩ := tkn_iff.1 H
  · refine hold_iff.2 ⟨by rw [List.length_drop]; omega, by omega, .inl ⟨by unfold fromA; split <;> rfl, by omega, H1⟩⟩
  · by_cases e : c = n
    · refine hold_iff.2 ⟨by rw [List.length_drop]; omega, by omega, .inr ⟨g, off, cur, by unfold fromA; rw [if_pos e], fun j b hj => ?_, H1⟩⟩
      have hlt := (List.getElem?_eq_some_iff.1 hj).1
      rw [List.length_drop] at hlt
      omega
    · refine hold_iff.2 ⟨by rw [List.length_drop]; omega, by omega, .inr ⟨g, off + n, cur, ?_, fun j b hj => ?_, H1⟩⟩
      · unfold fromA; rw [if_neg e]
        simp only [Option.map_some]
        congr 1
        unfold Addr.add
        split <;> simp_all
      · rw [List.getElem?_drop] at hj
        have := p5 _ _ (by omega) hj
        rw [Nat.add_assoc]; exact this
/-- A byte of what Take told. -/
theorem Sat.tknCell {G : Gnd} {w : World} {l : List Asrt} {A : Option Addr} {c n : Nat} {bs : List UInt8} (H : Sat G w (tkn A c n bs :: l)) (k : Nat) (hk : k < n) :
    ∃ g off x, A = some ⟨g, off, none⟩ ∧ c ≤ maxLen ∧ w.cell? ⟨g, off + k, none⟩ = some (.int .u8 x) ∧ w.frozen? ⟨g, off + k, none⟩ = false ∧ ∀ y, Sat G (w.setCell ⟨g, off + k, none⟩ (.int .u8 y)) (tkn A c n bs :: l) := by
  obtain ⟨p0, p1, p2, ⟨rfl, rfl, H1⟩ | ⟨g, off, cur, rfl, p4, p5, H1⟩⟩ := tkn_iff.1 H
  · omega
  · obtain ⟨x, hx⟩ := p4 k hk
    refine ⟨g, off, x, rfl, p2, by rw [H1.cell, hx], H1.frozen _, fun y => tkn_iff.2 ⟨p0, p1, p2, .inr ⟨g, off, _, rfl, fun j hj => ?_, fun j b hj hb => ?_, H1.setCell _ _⟩⟩⟩
    · by_cases e : j = k
      · subst e
        exact ⟨y, by rw [Array.getElem?_setIfInBounds_self_of_lt]; exact (Array.getElem?_eq_some_iff.1 hx).1⟩
      · obtain ⟨z, hz⟩ := p4 j hj
        exact ⟨z, by rw [Array.getElem?_setIfInBounds_ne (by omega)]; exact hz⟩
    · rw [Array.getElem?_setIfInBounds_ne (by omega)]; exact p5 j b hj hb
set_option maxHeartbeats 4000000 in
set_option maxRecDepth 100000 in
theorem octetReads_walk (w : World) (v0 v1 : Value) (h0 : ∃ d, ArgV w (.sl 1 (.int .u8)) v0 d) (h1 : ∃ d, ArgV w (.sl 16 (.agg [.int .i64, .int .i64])) v1 d) :
    Calls Try.prog 5 #[v0, v1] w fun e w' => e = .returned (.bool true) ∧ Below w.heap.size w w' := by
  refine calls_any fun K hK => ?_
  obtain ⟨_, h0⟩ := h0
  obtain ⟨l, h0⟩ := arg_sl h0
  obtain ⟨bs, -, hlen, hb⟩ := bytes_of h0
  have hnl : ∀ {A c}, v0 = .slice A bs.length c → A = none → c = 0 := fun hv => RdSl.none0 (hv ▸ h0)
  obtain ⟨_, h1⟩ := h1
  obtain ⟨l1, h1⟩ := arg_sl h1
  obtain ⟨hps, -, -⟩ := pairs_of h1
  generalize l1.map dpair = ps at *
  clear h0 h1 l l1
  have S0 := Sat.start w
  have hbw : SlV w.cell? v0 bs.length (bs.map byteV) := hb.sat S0
  obtain ⟨B, d, rfl, hpm, hpe⟩ := hps
  have HPE := Lib.hid hpe
  clear hpe
  have hb' := hb
  obtain ⟨A0, c0, rfl, hc0, hm0, hel⟩ := hb'
  have hnil := hnl rfl
  by_cases h500 : 500 < (bs.length : Int)
  · clear hbw hel hb
    go_enter Try.func5, Try.ntmps5
    go_wp2_with fail
    (with_reducible refine (law_awake S0).mono ?_); rintro e w9 ⟨rfl, S9⟩; go_wp2_with fail; exact hK.out _ _ ⟨rfl, S9.above Gnd.le.rfl'⟩
  by_cases h100 : 100 < (ps.length : Int)
  · clear hbw hel hb
    go_enter Try.func5, Try.ntmps5
    go_wp2_with fail
    (with_reducible refine (law_awake S0).mono ?_); rintro e w9 ⟨rfl, S9⟩; go_wp2_with fail; exact hK.out _ _ ⟨rfl, S9.above Gnd.le.rfl'⟩
  -- the copy
  have S1 := (S0.newBlk #[] 5).ownBlk (size := 1) 0 rfl (Nat.zero_le _)
  have hbn : SlV (w.alloc (.cells #[] 5)).cell? (.slice A0 bs.length c0) bs.length (bs.map byteV) := hb.sat (S0.alloc (.cells #[] 5))
  clear hbw hel S0
  go_enter Try.func5, Try.ntmps5
  go_upto_region 4 with (at_builtin; refine st_app S1 rfl _ _ rfl rfl rfl hbn hnil (by omega) ?_; intro v' w' S')
  simp only [List.nil_append, Nat.zero_add] at S'
  clear S1 hbn
  refine wp_world S' fun W1 S1 => ?_
  clear S' w'
  obtain ⟨A1, c1, rfl, -, -, -⟩ := S1.ownForm
  have hnew := rd_new S1 _ bs (slv_own S1) (by omega)
  clear S1
  go_wp2_with fail
  (with_reducible refine hnew.mono ?_)
  clear hnew
  rintro e w2 ⟨r, rfl, S2⟩
  go_wp2_with fail
  go_loopw [36] (fun i wr => ∃ (k : Nat) (xs : List Value), k ≤ bs.length ∧ i = .int .i64 k ∧ (∀ v ∈ xs, ∃ x, v = .int .u8 x) ∧ RdrS (Gnd.of w) wr r bs [ownS 5 1 (.slice A1 bs.length c1) bs.length xs]) (fun i _ => bs.length - (intOf i).toNat)
  case atStart => exact ⟨0, _, Nat.zero_le _, rfl, (by simp [byteV]), S2⟩
  case round =>
    obtain ⟨k, xs, hk, rfl, hxs, hS⟩ := hrel
    clear S2
    by_cases hlt : k < bs.length
    · obtain ⟨A2, c2, hS⟩ := hS
      have hl := (own_iff.1 hS.pull2).1
      obtain ⟨g, cap, e, h1, h2, hc, hf, hset⟩ := hS.pull2.ownCell k hlt
      cases e
      have hlx : k < xs.length := by omega
      obtain ⟨x, hx⟩ := hxs _ (List.getElem_mem hlx)
      rw [List.getElem?_eq_getElem hlx, hx] at hc
      have hmx : c1 ≤ 9223372036854775807 := Nat.le_trans h2 (by decide)
      have HH := Lib.hid hset
      have HX := Lib.hid hxs
      clear hset hS hxs hl
      go_wp2_with fail
      go_roundw
      case rel => exact ⟨k + 1, _, by omega, by go_num, fun v hv => by rcases List.mem_or_eq_of_mem_set hv with h | h; exact HX.out v h; exact ⟨_, h⟩, _, _, (HH.out _).push2⟩
      case measure => simp [intOf]; omega
    · have S3 := hS.dropl
      have hbw := hb.sat S3.gone
      have hcv := conv_bytes _ bs wr hbw
      clear hS hxs
      go_wp2_with fail
      clear hcv hbw
      go_loopw [8, 50] (fun s i wr => ∃ (k : Nat) (cs : List UInt8), k ≤ ps.length ∧ i = .int .i64 k ∧ s = .string (bstr cs) ∧ cs.length ≤ 500 ∧ RdrS (Gnd.of w) wr r cs []) (fun _ i _ => ps.length - (intOf i).toNat)
      case atStart => exact ⟨0, bs, Nat.zero_le _, rfl, rfl, by omega, S3⟩
      case round =>
        obtain ⟨k, cs, hk, rfl, rfl, hcs, hS⟩ := hrel
        clear S3 hb h500
        have hs := bstr_size cs
        by_cases hlt : k < ps.length
        · obtain ⟨a, b, off, rfl, ha, p0, p1⟩ := HPE.out k ps[k] (List.getElem?_eq_getElem hlt)
          have q0 := hS.cellR p0
          have q1 := hS.cellR p1
          generalize (ps[k]).1 = o at *
          generalize (ps[k]).2 = x at *
          have hS2 := hS.newBlk #[.int .i64 o, .int .i64 x] 36
          clear p0 p1
          go_upto_region 16 with fail
          generalize wr.heap.size = q at *
          refine wp_rdr hS2 fun W S => ?_
          clear hS2 hS q0 q1
          have d0 : W.cell? ⟨q, 0, none⟩ = some (.int .i64 o) := S.cell 0
          have d1 : W.cell? ⟨q, 1, none⟩ = some (.int .i64 x) := S.cell 1
          by_cases o1 : o = 1
          · subst o1
            cases cs with
            | nil =>
              have hrd := rd_byte_not S
              go_wp2_with fail
              (with_reducible refine hrd.mono ?_)
              clear hrd
              rintro e w3 ⟨rfl, rfl⟩
              go_wp2_with fail
              (go_wp2_with fail; (with_reducible refine (rd_left S).mono ?_); rintro e w5 ⟨rfl, rfl⟩; go_wp2_with fail; go_roundw; (case rel => exact ⟨k + 1, [], by omega, by go_num, rfl, by first | omega | (simp at hcs ⊢; done) | (simp at hcs ⊢; omega), (S).dropl⟩); (case measure => simp [intOf]; omega))
            | cons ch cs =>
              have hrd := rd_byte S
              have hdr := bstr_drop (ch :: cs) 1 (cs.length + 1) rfl
              have hgt : ∀ h, (bstr (ch :: cs))[0]'h = ch := fun h => bstr_get (ch :: cs) 0 (by simp) h
              have hc8 := ch.toNat_lt
              have hs2 := bstr_size cs
              rw [List.drop_one, List.tail_cons] at hdr
              go_wp2_with fail
              (with_reducible refine hrd.mono ?_)
              clear hrd d0 d1
              rintro e w3 ⟨rfl, S3⟩
              go_wp2_with fail
              (go_wp2_with fail; (with_reducible refine (rd_left S3).mono ?_); rintro e w5 ⟨rfl, rfl⟩; go_wp2_with fail; go_roundw; (case rel => exact ⟨k + 1, cs, by omega, by go_num, rfl, by first | omega | (simp at hcs ⊢; done) | (simp at hcs ⊢; omega), (S3).dropl⟩); (case measure => simp [intOf]; omega))
          by_cases o2 : o = 2
          · subst o2
            by_cases hx0 : x < 0
            ·
              have z0 : (decide (x ≥ 0)) = false := decide_eq_false (by omega)
              have y0 : (decide (0 ≤ x)) = false := decide_eq_false (by omega)
              have hrd := rd_num_not S x (.inl hx0)
              go_wp2_with fail
              (with_reducible refine hrd.mono ?_)
              clear hrd
              rintro e w3 ⟨rfl, rfl⟩
              go_wp2_with fail
              (go_wp2_with fail; (with_reducible refine (rd_left S).mono ?_); rintro e w5 ⟨rfl, rfl⟩; go_wp2_with fail; go_roundw; (case rel => exact ⟨k + 1, cs, by omega, by go_num, rfl, by first | omega | (simp at hcs ⊢; done) | (simp at hcs ⊢; omega), (S).dropl⟩); (case measure => simp [intOf]; omega))
            by_cases hx8 : 8 < x
            ·
              have z0 : (decide (x ≥ 0)) = true := decide_eq_true (by omega)
              have y0 : (decide (0 ≤ x)) = true := decide_eq_true (by omega)
              have z8 : (decide (x ≤ 8)) = false := decide_eq_false (by omega)
              have hrd := rd_num_not S x (.inr (.inr hx8))
              go_wp2_with fail
              (with_reducible refine hrd.mono ?_)
              clear hrd
              rintro e w3 ⟨rfl, rfl⟩
              go_wp2_with fail
              (go_wp2_with fail; (with_reducible refine (rd_left S).mono ?_); rintro e w5 ⟨rfl, rfl⟩; go_wp2_with fail; go_roundw; (case rel => exact ⟨k + 1, cs, by omega, by go_num, rfl, by first | omega | (simp at hcs ⊢; done) | (simp at hcs ⊢; omega), (S).dropl⟩); (case measure => simp [intOf]; omega))
            by_cases hxn : (cs.length : Int) < x
            ·
              have z0 : (decide (x ≥ 0)) = true := decide_eq_true (by omega)
              have y0 : (decide (0 ≤ x)) = true := decide_eq_true (by omega)
              have z8 : (decide (x ≤ 8)) = true := decide_eq_true (by omega)
              have zn : (decide (x ≤ (cs.length : Int))) = false := decide_eq_false (by omega)
              have hrd := rd_num_not S x (.inr (.inl hxn))
              go_wp2_with fail
              (with_reducible refine hrd.mono ?_)
              clear hrd
              rintro e w3 ⟨rfl, rfl⟩
              go_wp2_with fail
              (go_wp2_with fail; (with_reducible refine (rd_left S).mono ?_); rintro e w5 ⟨rfl, rfl⟩; go_wp2_with fail; go_roundw; (case rel => exact ⟨k + 1, cs, by omega, by go_num, rfl, by first | omega | (simp at hcs ⊢; done) | (simp at hcs ⊢; omega), (S).dropl⟩); (case measure => simp [intOf]; omega))
            obtain ⟨n, rfl⟩ : ∃ n : Nat, x = n := ⟨x.toNat, by omega⟩
            have hrd := rd_num S n (by omega) (by omega)
            have hrf := fun W => ref_num (cs.take n) (by rw [List.length_take]; omega) W
            have hbt := bstr_take cs n
            have hbd := bstr_drop cs n cs.length rfl
            have hs2 := bstr_size (cs.drop n)
            generalize numOf (cs.take n) = y at *
            go_wp2_with fail
            (with_reducible refine hrd.mono ?_)
            clear hrd d0 d1
            rintro e w3 ⟨rfl, S3⟩
            have d1 : w3.cell? ⟨q, 1, none⟩ = some (.int .i64 n) := S3.cell 1
            go_wp2_with fail
            (with_reducible refine (hrf _).mono ?_)
            clear hrf
            rintro e w4 ⟨rfl, rfl⟩
            go_wp2_with fail
            (go_wp2_with fail; (with_reducible refine (rd_left S3).mono ?_); rintro e w5 ⟨rfl, rfl⟩; go_wp2_with fail; go_roundw; (case rel => exact ⟨k + 1, (cs.drop n), by omega, by go_num, rfl, by first | omega | (simp at hcs ⊢; done) | (simp at hcs ⊢; omega), (S3).dropl⟩); (case measure => simp [intOf]; omega))
          by_cases o3 : o = 3
          · subst o3
            by_cases hx0 : x < 0
            ·
              have z0 : (decide (x ≥ 0)) = false := decide_eq_false (by omega)
              have y0 : (decide (0 ≤ x)) = false := decide_eq_false (by omega)
              have hrd := rd_take_not S x (.inl hx0)
              go_wp2_with fail
              (with_reducible refine hrd.mono ?_)
              clear hrd
              rintro e w3 ⟨rfl, rfl⟩
              go_wp2_with fail
              (go_wp2_with fail; (with_reducible refine (rd_left S).mono ?_); rintro e w5 ⟨rfl, rfl⟩; go_wp2_with fail; go_roundw; (case rel => exact ⟨k + 1, cs, by omega, by go_num, rfl, by first | omega | (simp at hcs ⊢; done) | (simp at hcs ⊢; omega), (S).dropl⟩); (case measure => simp [intOf]; omega))
            by_cases hxn : (cs.length : Int) < x
            ·
              have z0 : (decide (x ≥ 0)) = true := decide_eq_true (by omega)
              have y0 : (decide (0 ≤ x)) = true := decide_eq_true (by omega)
              have zn : (decide (x ≤ (cs.length : Int))) = false := decide_eq_false (by omega)
              have hrd := rd_take_not S x (.inr hxn)
              go_wp2_with fail
              (with_reducible refine hrd.mono ?_)
              clear hrd
              rintro e w3 ⟨rfl, rfl⟩
              go_wp2_with fail
              (go_wp2_with fail; (with_reducible refine (rd_left S).mono ?_); rintro e w5 ⟨rfl, rfl⟩; go_wp2_with fail; go_roundw; (case rel => exact ⟨k + 1, cs, by omega, by go_num, rfl, by first | omega | (simp at hcs ⊢; done) | (simp at hcs ⊢; omega), (S).dropl⟩); (case measure => simp [intOf]; omega))
            obtain ⟨n, rfl⟩ : ∃ n : Nat, x = n := ⟨x.toNat, by omega⟩
            have hn : n ≤ cs.length := by omega
            obtain ⟨A, c, S⟩ := S
            have hrd := rd_take S n hn
            have hbt := bstr_take cs n
            have hbd := bstr_drop cs n cs.length rfl
            have hs2 := bstr_size (cs.drop n)
            clear S
            go_wp2_with fail
            (with_reducible refine hrd.mono ?_)
            clear hrd d0 d1
            rintro e w3 ⟨rfl, S3⟩
            have d1 : w3.cell? ⟨q, 1, none⟩ = some (.int .i64 n) := S3.pull2.cell 1
            have hln : (cs.take n).length = n := by rw [List.length_take]; omega
            go_upto_region 36 with fail
            refine wp_act fun a0 ha0 => ?_
            have HSZ : a0.tmps.size = 210 := by rw [ha0]; rfl
            have E15 : a0.eval (.tmp 15) = .slice A n n := by rw [ha0]; rfl
            have E8 : a0.eval (.tmp 8) = .string (bstr cs) := by rw [ha0]; rfl
            have E10 : a0.eval (.tmp 10) = .pointer (some ⟨q, 0, none⟩) := by rw [ha0]; rfl
            refine wp_region_sat (by kernel_rfl) 7 (by kernel_rfl) [[], [0], [], [], [3], [2, 4], [1, 5]] (by kernel_rfl) (by kernel_rfl) [(0, 166, .slice A n n), (1, 167, .string (bstr (cs.take n))), (2, 168, .string (bstr cs)), (3, 169, .pointer (some ⟨q, 1, none⟩)), (4, 170, .int .i64 n), (5, 171, .string (bstr (cs.take n))), (6, 172, .bool false)] (fun _ => [blk r #[.slice (fromA A c n) (cs.drop n).length (c - n)] 49, hold A c cs, blk q #[.int .i64 3, .int .i64 n] 36]) (by kernel_rfl) S3 ?_ ?_
            · refine ⟨?_, ?_, ?_, ?_, ?_, ?_, ?_, trivial⟩
              · intro f W h0 hd S
                refine wpOp_run (v := .slice A n n) rfl rfl (fun ρ hρ => ?_) ⟨(acts_some 0 rfl (by kernel_rfl) (by kernel_rfl)).symm, S⟩
                have e0 : ρ (.tmp 15) = .slice A n n := by rw [hρ]; exact (acts_eval_tmp 15 (by kernel_rfl)).trans E15
                clear hρ
                go_simp
              · intro f W h1 hd S
                refine wpOp_run (v := .string (bstr (cs.take n))) rfl rfl (fun ρ hρ => ?_) ⟨(acts_some 1 rfl (by kernel_rfl) (by kernel_rfl)).symm, S⟩
                have e0 : ρ (.tmp 166) = .slice A n n := by rw [hρ]; exact acts_eval_hit 0 rfl hd.1 (by rw [HSZ]; rfl) (by kernel_rfl)
                clear hρ
                (have hcv := conv_bytes (.slice A n n) (cs.take n) W (by rw [hln, List.map_take]; exact S.swap.holdSlv.to n hn))
                go_simp
              · intro f W h2 hd S
                refine wpOp_run (v := .string (bstr cs)) rfl rfl (fun ρ hρ => ?_) ⟨(acts_some 2 rfl (by kernel_rfl) (by kernel_rfl)).symm, S⟩
                have e0 : ρ (.tmp 8) = .string (bstr cs) := by rw [hρ]; exact (acts_eval_tmp 8 (by kernel_rfl)).trans E8
                clear hρ
                go_simp
              · intro f W h3 hd S
                refine wpOp_run (v := .pointer (some ⟨q, 1, none⟩)) rfl rfl (fun ρ hρ => ?_) ⟨(acts_some 3 rfl (by kernel_rfl) (by kernel_rfl)).symm, S⟩
                have e0 : ρ (.tmp 10) = .pointer (some ⟨q, 0, none⟩) := by rw [hρ]; exact (acts_eval_tmp 10 (by kernel_rfl)).trans E10
                clear hρ
                go_simp
              · intro f W h4 hd S
                refine wpOp_run (v := .int .i64 n) rfl rfl (fun ρ hρ => ?_) ⟨(acts_some 4 rfl (by kernel_rfl) (by kernel_rfl)).symm, S⟩
                have e0 : ρ (.tmp 169) = .pointer (some ⟨q, 1, none⟩) := by rw [hρ]; exact acts_eval_hit 3 rfl hd.1 (by rw [HSZ]; rfl) (by kernel_rfl)
                clear hρ
                (have hdd : W.cell? ⟨q, 1, none⟩ = some (.int .i64 n) := S.pull2.cell 1)
                go_simp
              · intro f W h5 hd S
                refine wpOp_run (v := .string (bstr (cs.take n))) rfl rfl (fun ρ hρ => ?_) ⟨(acts_some 5 rfl (by kernel_rfl) (by kernel_rfl)).symm, S⟩
                have e0 : ρ (.tmp 168) = .string (bstr cs) := by rw [hρ]; exact acts_eval_hit 2 rfl hd.1 (by rw [HSZ]; rfl) (by kernel_rfl)
                have e1 : ρ (.tmp 170) = .int .i64 n := by rw [hρ]; exact acts_eval_hit 4 rfl hd.2.1 (by rw [HSZ]; rfl) (by kernel_rfl)
                clear hρ
                go_simp
              · intro f W h6 hd S
                refine wpOp_run (v := .bool false) rfl rfl (fun ρ hρ => ?_) ⟨(acts_some 6 rfl (by kernel_rfl) (by kernel_rfl)).symm, S⟩
                have e0 : ρ (.tmp 167) = .string (bstr (cs.take n)) := by rw [hρ]; exact acts_eval_hit 1 rfl hd.1 (by rw [HSZ]; rfl) (by kernel_rfl)
                have e1 : ρ (.tmp 171) = .string (bstr (cs.take n)) := by rw [hρ]; exact acts_eval_hit 5 rfl hd.2.1 (by rw [HSZ]; rfl) (by kernel_rfl)
                clear hρ
                go_simp
            · rintro W4 S4
              subst ha0
              simp only [acts, if_true, Act.put, List.setIfInBounds_toArray, List.set_cons_succ, List.set_cons_zero]
              clear S3 HSZ E15 E8 E10 hln d1
              have d1 : W4.cell? ⟨q, 1, none⟩ = some (.int .i64 n) := S4.pull2.cell 1
              have S5 := (Sat.tknOf S4.swap n hn).swap
              clear S4
              go_wp2_with fail
              go_loopw [179] (fun i wr => ∃ j : Nat, j ≤ n ∧ i = .int .i64 j ∧ Sat (Gnd.of w) wr [blk r #[.slice (fromA A c n) (cs.drop n).length (c - n)] 49, tkn A c n cs, blk q #[.int .i64 3, .int .i64 n] 36]) (fun i _ => n - (intOf i).toNat)
              case atStart => exact ⟨0, Nat.zero_le _, rfl, S5⟩
              case round =>
                obtain ⟨j, hj, rfl, S6⟩ := hrel
                clear S5 d1
                by_cases hjn : j < n
                · obtain ⟨g, off, z, rfl, hcm, hc, hf, hset⟩ := S6.swap.tknCell j hjn
                  have HH := Lib.hid hset
                  have hmx : n ≤ 9223372036854775807 := by have : maxLen = 9223372036854775807 := by decide
                                                           omega
                  have haj : (⟨g, off, none⟩ : Addr).add j = ⟨g, off + j, none⟩ := by unfold Addr.add; split <;> simp_all
                  clear hset S6
                  go_wp2_with fail
                  go_roundw
                  case rel => exact ⟨j + 1, by omega, by go_num, (HH.out _).swap⟩
                  case measure => simp [intOf]; omega
                · have S7 : RdrS (Gnd.of w) wr r (cs.drop n) [blk q #[.int .i64 3, .int .i64 n] 36] := ⟨_, _, S6.swap.tknEnd.swap⟩
                  clear S6
                  go_wp2_with fail
                  (go_wp2_with fail; (with_reducible refine (rd_left S7).mono ?_); rintro e w5 ⟨rfl, rfl⟩; go_wp2_with fail; go_roundw; (case rel => exact ⟨k + 1, (cs.drop n), by omega, by go_num, rfl, by first | omega | (simp at hcs ⊢; done) | (simp at hcs ⊢; omega), (S7).dropl⟩); (case measure => simp [intOf]; omega))
          by_cases o4 : o = 4
          · subst o4
            have hrd := rd_rest S
            go_wp2_with fail
            (with_reducible refine hrd.mono ?_)
            clear hrd d0 d1
            rintro e w3 ⟨A, rfl, c, S3⟩
            have hcv := conv_bytes _ cs w3 (rest_slv S3)
            have S4 := rest_rdr S3
            clear S3
            go_wp2_with fail
            (go_wp2_with fail; (with_reducible refine (rd_left S4).mono ?_); rintro e w5 ⟨rfl, rfl⟩; go_wp2_with fail; go_roundw; (case rel => exact ⟨k + 1, [], by omega, by go_num, rfl, by first | omega | (simp at hcs ⊢; done) | (simp at hcs ⊢; omega), (S4).dropl⟩); (case measure => simp [intOf]; omega))
          · have b1 : (o == 1) = false := by simpa using o1
            have b2 : (o == 2) = false := by simpa using o2
            have b3 : (o == 3) = false := by simpa using o3
            have b4 : (o == 4) = false := by simpa using o4
            clear o1 o2 o3 o4
            go_wp2_with fail
            (go_wp2_with fail; (with_reducible refine (rd_left S).mono ?_); rintro e w5 ⟨rfl, rfl⟩; go_wp2_with fail; go_roundw; (case rel => exact ⟨k + 1, cs, by omega, by go_num, rfl, by first | omega | (simp at hcs ⊢; done) | (simp at hcs ⊢; omega), (S).dropl⟩); (case measure => simp [intOf]; omega))
        · have hrd := rd_rest hS
          go_wp2_with fail
          (with_reducible refine hrd.mono ?_)
          clear hrd
          rintro e w3 ⟨A, rfl, c, S3⟩
          have hcv := conv_bytes _ cs w3 (rest_slv S3)
          have S4 := (rest_rdr S3).gone
          have haw := law_awake S4
          clear S3
          go_wp2_with fail
          (with_reducible refine haw.mono ?_)
          rintro e w4 ⟨rfl, S5⟩
          go_wp2_with fail
          exact hK.out _ _ ⟨rfl, S5.above Gnd.le.rfl'⟩
end Go.Proofs.Ytblocdfpdabbiaa
