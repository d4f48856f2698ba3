/- A slice of one's own, that grows by append. -/
import Derived.Test.YtdfdcenbpanegaaArgs
import Derived.Maps.AppendAt
import Derived.OwnWalk
set_option linter.unusedSimpArgs false
set_option linter.unusedVariables false
namespace Go.Proofs.Ytdfdcenbpanegaa
open Go.RowKit

/-- v is a slice of n elements, of size cells each: xs; its block begins with it, and nobody else has it. -/
def ownS (e : TypeId) (size : Nat) (v : Value) (n : Nat) (xs : List Value) : Asrt :=
  ⟨fun _ h => xs.length = n * size ∧ ((v = .slice none 0 0 ∧ n = 0) ∨
    ∃ g cap cur, v = .slice (some ⟨g, 0, none⟩) n cap ∧ h g = some (.cells cur e (0, 0)) ∧ n ≤ cap ∧ cap ≤ maxLen ∧ cur.size = cap * size ∧ cur.toList.take (n * size) = xs), fun _ h => h⟩
section
variable {G : Gnd} {w w' : World} {l : List Asrt} {e : TypeId} {size : Nat} {v : Value} {n : Nat} {xs : List Value}
/-- An assertion that asks nothing of memory. -/
theorem Sat.free {A : Asrt} (H : Sat G w l) (hA : ∀ R h, A.p R h) : Sat G w (A :: l) := by
  obtain ⟨a, b', c, lo, d, h, f, g, q⟩ := H
  exact ⟨a, b', c, lo, d, h, f, g, fun _ => none, h, fun k => .inl rfl, fun k o ek => (by cases ek), fun k o ek => ek, hA _ _, q⟩
theorem own_iff : Sat G w (ownS e size v n xs :: l) ↔ xs.length = n * size ∧ ((v = .slice none 0 0 ∧ n = 0 ∧ Sat G w l) ∨
    ∃ g cap cur, v = .slice (some ⟨g, 0, none⟩) n cap ∧ n ≤ cap ∧ cap ≤ maxLen ∧ cur.size = cap * size ∧ cur.toList.take (n * size) = xs ∧ Sat G w (blk g cur e :: l)) := by
  constructor
  · intro H
    have hp : ∃ h, (ownS e size v n xs).p G.ro h := by obtain ⟨_, _, _, _, _, _, _, _, h1, h2, _, _, _, p, _⟩ := H; exact ⟨h1, p⟩
    obtain ⟨_, hl, hp⟩ := hp
    refine ⟨hl, ?_⟩
    rcases hp with ⟨rfl, rfl⟩ | ⟨g, cap, cur, rfl, _, hc, hm, hs, ht⟩
    · exact .inl ⟨rfl, rfl, H.drop⟩
    · refine .inr ⟨g, cap, ?_⟩
      obtain ⟨a, b', c, lo, d, h, f, k, h1, h2, x1, x2, x3, p, q⟩ := H
      obtain ⟨_, hp⟩ := p
      rcases hp with ⟨hv, _⟩ | ⟨g', cap', cur', hv, hh, hc', hm', hs', ht'⟩
      · cases hv
      · cases hv
        exact ⟨cur', rfl, hc', hm', hs', ht', a, b', c, lo, d, h, f, k, h1, h2, x1, x2, x3, hh, q⟩
  · rintro ⟨hl, ⟨rfl, rfl, H⟩ | ⟨g, cap, cur, rfl, hc, hm, hs, ht, H⟩⟩
    · exact H.free fun _ _ => ⟨hl, .inl ⟨rfl, rfl⟩⟩
    · exact H.conv fun h hb => ⟨hl, .inr ⟨g, cap, cur, rfl, hb, hc, hm, hs, ht⟩⟩
theorem Sat.ownNil (H : Sat G w l) (e : TypeId) (size : Nat) : Sat G w (ownS e size (.slice none 0 0) 0 [] :: l) := own_iff.2 ⟨by simp, .inl ⟨rfl, rfl, H⟩⟩
theorem Sat.ownBlk {g : Nat} {cs : Array Value} (H : Sat G w (blk g cs e :: l)) (n : Nat) (hs : cs.size = n * size) (hn : n ≤ maxLen) : Sat G w (ownS e size (.slice (some ⟨g, 0, none⟩) n n) n cs.toList :: l) :=
  own_iff.2 ⟨by simpa using hs, .inr ⟨g, n, cs, rfl, Nat.le_refl _, hn, hs, by rw [← hs]; exact List.take_of_length_le (by simp), H⟩⟩
theorem Sat.owns (H : Sat G w (ownS e size v n xs :: l)) : w.ownsRow 0 e size v n xs := by
  obtain ⟨hl, ⟨rfl, rfl, _⟩ | ⟨g, cap, cur, rfl, hc, hm, hs, ht, H⟩⟩ := own_iff.1 H
  · exact ⟨hl, .inl ⟨rfl, rfl⟩⟩
  · exact ⟨hl, .inr ⟨g, cap, cur, rfl, Nat.zero_le _, H.blk_at, hc, hm, hs, ht⟩⟩
/-- Where the slice has grown. -/
theorem Sat.grown {v' : Value} {n' : Nat} {xs' : List Value} (H : Sat G w (ownS e size v n xs :: l)) (ho : w'.ownsRow 0 e size v' n' xs') (hg : w.grownBy w' v.ownBlock) (hw : v'.ownBlock = v.ownBlock ∨ v'.ownBlock = some w.heap.size) :
    Sat G w' (ownS e size v' n' xs' :: l) := by
  obtain ⟨hos, ht, hout, hsz, hbl⟩ := hg
  obtain ⟨hl', hv'⟩ := ho
  -- the rest, where the old slice is left
  have hrest : Sat G w' l ∧ (∀ b o, w.heap.size ≤ b → w'.heap[b]? = some o → Sat G w' (obj b o :: l)) := by
    obtain ⟨_, ⟨rfl, rfl, H0⟩ | ⟨g, cap, cur, rfl, hc, hm, hs, htk, H⟩⟩ := own_iff.1 H
    · have hb : Below w.heap.size w w' := ⟨hos, ht, hout, hsz, fun k hk => hbl k hk (by simp [Value.ownBlock])⟩
      exact ⟨H0.below hb, fun b o h1 h2 => H0.claim hb h1 h2⟩
    · have hlt := H.blk_lt
      obtain ⟨o', ho'⟩ : ∃ o', w'.heap[g]? = some o' := ⟨_, Array.getElem?_eq_getElem (by omega)⟩
      have H1 : Sat G { w with heap := w.heap.setIfInBounds g o' } (obj g o' :: l) := Sat.turn (o := .cells cur e (0, 0)) H rfl rfl rfl (by simp) (fun k _ hk => by simp [Array.getElem?_setIfInBounds_ne (Ne.symm hk)]) (by simp [hlt])
      have hb : Below ({ w with heap := w.heap.setIfInBounds g o' } : World).heap.size { w with heap := w.heap.setIfInBounds g o' } w' := ⟨hos, ht, hout, by simpa using hsz, fun k hk => by
        simp only [Array.size_setIfInBounds] at hk
        by_cases e1 : k = g
        · subst e1; simp [hlt, ho']
        · rw [hbl k hk (by simp [Value.ownBlock, e1])]; simp [Array.getElem?_setIfInBounds_ne (Ne.symm e1)]⟩
      exact ⟨H1.drop.below hb, fun b o h1 h2 => H1.drop.claim hb (by simpa using h1) h2⟩
  rcases hv' with ⟨rfl, rfl⟩ | ⟨g', cap', cur', rfl, _, hat, hc', hm', hs', ht'⟩
  · exact own_iff.2 ⟨hl', .inl ⟨rfl, rfl, hrest.1⟩⟩
  · refine own_iff.2 ⟨hl', .inr ⟨g', cap', cur', rfl, hc', hm', hs', ht', ?_⟩⟩
    rcases hw with hw | hw
    · obtain ⟨_, ⟨rfl, rfl, H⟩ | ⟨g, cap, cur, rfl, hc, hm, hs, htk, H⟩⟩ := own_iff.1 H
      · simp [Value.ownBlock] at hw
      · simp only [Value.ownBlock, Option.some.injEq] at hw
        subst hw
        exact Sat.turn (o := .cells cur e (0, 0)) H hos ht hout hsz (fun k hk hne => hbl k hk (by simp [Value.ownBlock, hne])) hat
    · simp only [Value.ownBlock, Option.some.injEq] at hw
      subst hw
      exact hrest.2 _ _ (Nat.le_refl _) hat
/-- The slice is turned no more. -/
theorem Sat.ownFreeze (H : Sat G w (ownS e size v n xs :: l)) : ∃ G', G.le G' ∧ Sat G' w l ∧ ∃ A c, v = .slice A n c ∧ n ≤ maxLen ∧ xs.length = n * size ∧ ∀ j u, xs[j]? = some u → ∃ g, A = some ⟨g, 0, none⟩ ∧ Go.Proofs.Ytdfdcenbpanegaa.cellR G'.ro ⟨g, j, none⟩ = some u := by
  obtain ⟨hl, ⟨rfl, rfl, H0⟩ | ⟨g, cap, cur, rfl, hc, hm, hs, ht, H⟩⟩ := own_iff.1 H
  · exact ⟨G, Gnd.le.rfl', H0, none, 0, rfl, Nat.zero_le _, hl, fun j u hu => by have := List.eq_nil_of_length_eq_zero (l := xs) (by simpa using hl); subst this; simp at hu⟩
  · obtain ⟨G', hG, hr, H'⟩ := Sat.freeze (o := .cells cur e (0, 0)) H
    refine ⟨G', hG, H', some ⟨g, 0, none⟩, cap, rfl, Nat.le_trans hc hm, hl, fun j u hu => ⟨g, rfl, ?_⟩⟩
    simp only [Go.Proofs.Ytdfdcenbpanegaa.cellR, hr]
    have hj : j < n * size := by rw [← hl]; exact (List.getElem?_eq_some_iff.1 hu).1
    rw [← ht, List.getElem?_take] at hu
    simpa [hj] using hu
end
/-- The elements that are handed to append lie in a block that was just made. -/
theorem alloc_cells (W : World) (n : Nat) (cs : Array Value) (t : TypeId) (hn : n = W.heap.size) (j : Nat) (u : Value) (hj : cs.toList[j]? = some u) : (W.alloc (.cells cs t)).cell? ((⟨n, 0, none⟩ : Addr).add j) = some u := by
  subst hn
  have e : (⟨W.heap.size, 0, none⟩ : Addr).add j = ⟨W.heap.size, j, none⟩ := by unfold Addr.add; split <;> simp_all
  rw [e, cell_of_block (heap_alloc_new W _)]
  simpa using hj
/-- The world is a letter from here on. -/
theorem wp_world {P : Program} {c : Code} {Q : Exit → Act → World → Prop} {a : Act} {W : World} {G : Gnd} {l : List Asrt} (S : Sat G W l) (h : ∀ w, Sat G w l → c.wp P Q a w) : c.wp P Q a W := h _ S
theorem list_world {P : Program} {ops : Array Oper} {r : List Oper} {Q : Exit → Act → World → Prop} {a : Act} {W : World} {G : Gnd} {l : List Asrt} (S : Sat G W l) (h : ∀ w, Sat G w l → wpList P ops Q r a w) : wpList P ops Q r a W := h _ S
theorem calls_world {P : Program} {f : FuncId} {args : Array Value} {K : Ending → World → Prop} {W : World} {G : Gnd} {l : List Asrt} (S : Sat G W l) (h : ∀ w, Sat G w l → Calls P f args w K) : Calls P f args W K := h _ S
section
variable {P : Program} {ops : Array Oper} {rest : List Oper} {o : Oper} {a : Act} {w : World} {Q : Exit → Act → World → Prop} {G : Gnd} {l : List Asrt}
/-- append of a slice that is not nil. -/
theorem st_append (hgd : o.guard = none) (s x : Operand) (t : TypeId)
    (ho : o.op = .call { callee := .builtin .append, args := #[s, x], argTypes := #[t, t] })
    (e : TypeId) (z : Value) (size bytes : Nat) (ht : P.underlying t = some (.slice e)) (hi : (P.info? e).map (fun i => (i.zero, i.size, i.bytes)) = some (some z, size, bytes)) (hzs : z.cells.size = size) (hsz : 0 < size)
    (v : Value) (n : Nat) (xs : List Value) (hs : a.eval s = v) (S : Sat G w (ownS e size v n xs :: l))
    (ad : Addr) (m c : Nat) (news : List Value) (hx : a.eval x = .slice (some ad) m c) (hl : news.length = m * size) (hc : ∀ j u, news[j]? = some u → w.cell? (ad.add j) = some u) (h1 : news.all (·.oneCell') = true)
    (h63 : n + m ≤ maxLen) (hbytes : (n + m) * bytes ≤ 140737488355328)
    (h : ∀ v' w', Sat G w' (ownS e size v' (n + m) (xs ++ news) :: l) → wpList P ops Q rest (a.put o.dst v') w') : wpList P ops Q (o :: rest) a w := by
  obtain ⟨i, hi0, hz, hsize, hby⟩ : ∃ i, P.info? e = some i ∧ i.zero = some z ∧ i.size = size ∧ i.bytes = bytes := by
    cases hi' : P.info? e with
    | none => rw [hi'] at hi; simp at hi
    | some i => rw [hi'] at hi; simp at hi; exact ⟨i, rfl, hi.1, hi.2.1, hi.2.2⟩
  refine wpList_plain hgd fun K hK => ?_
  obtain ⟨v', w', hrun, h2, h3, _, h5⟩ := run_append_own_at (P := P) w 0 t o.type e i z size bytes ht hi0 hz hsize hby hzs hsz v n xs S.owns ad m c news hl hc (List.all_eq_true.1 h1) h63 hbytes (Nat.zero_le _)
  unfold Oper.wp execOp
  simp only [ho, resolve, invoke, builtin, Sem.run_bind, Sem.run_pure, Result.andThen_ok, List.map_toArray, List.map_cons, List.map_nil, hs, hx, hrun]
  exact hK _ _ (h v' w' (S.grown h2 h3 h5))
end
end Go.Proofs.Ytdfdcenbpanegaa
