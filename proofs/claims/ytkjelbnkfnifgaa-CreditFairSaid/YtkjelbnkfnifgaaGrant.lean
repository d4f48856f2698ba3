/- The walks over Spend and Grant. -/
import Derived.Test.YtkjelbnkfnifgaaCr
import Derived.StillTailTactics
import Derived.IntWalk
set_option linter.unusedSimpArgs false
set_option linter.unusedVariables false
namespace Go.Proofs.Ytkjelbnkfnifgaa
open Go.RowKit

theorem set_same {cur : Array Value} {k : Nat} {v : Value} (h : cur[k]? = some v) : cur.setIfInBounds k v = cur := by
  apply Array.ext_getElem?
  intro i
  rw [Array.getElem?_setIfInBounds]
  split
  · rename_i e; subst e
    have := (Array.getElem?_eq_some_iff.1 h).1
    simp only [this, if_true]
    exact h.symm
  · rfl
theorem winSpend_eq (m n : Int) (h0 : 0 ≤ m) (h1 : m ≤ 2147483647) : winSpend m n = if 0 ≤ n ∧ n ≤ 2147483647 then (if n ≤ m then (m - n, 0) else (m, 15)) else (m, 11) := by
  unfold winSpend winRight winCan winSet
  by_cases a : 0 ≤ n ∧ n ≤ 2147483647
  · rw [if_pos a, if_pos (by simp; omega)]
    by_cases b : n ≤ m
    · rw [if_pos b, if_pos (by simp; omega), if_neg (by omega), if_neg (by omega)]
    · rw [if_neg b, if_neg (by simp; omega)]
  · rw [if_neg a, if_neg (by simp; omega)]
theorem winGrow_eq (m n : Int) (h0 : 0 ≤ m) : winGrow m n = if n < 1 ∨ 2147483647 < n then (m, 11) else (if 2147483647 < m + n then (m, 103) else (m + n, 0)) := by
  unfold winGrow winRight winSet
  by_cases a : n < 1 ∨ 2147483647 < n
  · rw [if_pos a]
    by_cases b : n = 0
    · rw [if_pos (by simp; omega), if_pos b]
    · rw [if_neg (by simp; omega)]
  · rw [if_neg a, if_pos (by simp; omega), if_neg (by omega)]
    by_cases b : 2147483647 < m + n
    · rw [if_pos b, if_pos b]
    · rw [if_neg b, if_neg b, if_neg (by omega)]
def crSpend (L : List Int) (k n : Int) : List Int × Int :=
  if crHas L.length k then (if 0 ≤ n ∧ n ≤ 2147483647 then (if n ≤ L.getD k.toNat 0 then (L.set k.toNat (L.getD k.toNat 0 - n), 0) else (L, 15)) else (L, 11)) else (L, 11)
section
variable {G : Gnd} {w w' : World} {l : List Asrt} {p : Nat} {L : List Int} {T : Nat}
set_option maxHeartbeats 1000000 in
set_option maxRecDepth 100000 in
theorem cr_spend (H : Sat G w (crA p L T :: l)) (gd : Good L) (k n : Int) : Calls Try.prog 10 #[.pointer (some ⟨p, 0, none⟩), .int .i64 k, .int .i64 n] w fun e w' => e = .returned (.int .i64 (crSpend L k n).2) ∧ Sat G w' (crA p (crSpend L k n).1 T :: l) := by
  refine calls_any fun K hK => ?_
  have hh := cr_has H gd.pos k
  unfold crSpend at hK
  cases h : crHas L.length k with
  | false =>
    rw [h] at hh hK
    rw [if_neg (by decide)] at hK
    go_enter Try.func10, Try.ntmps10
    go_wp2_with fail
    (with_reducible refine hh.mono ?_)
    rintro e w1 ⟨rfl, rfl⟩
    go_wp2_with fail
    exact hK.out _ _ ⟨rfl, H⟩
  | true =>
    rw [h] at hh hK
    rw [if_pos rfl] at hK
    obtain ⟨k0, k1⟩ := of_decide_eq_true h
    obtain ⟨k, rfl⟩ : ∃ j : Nat, k = j := ⟨k.toNat, by omega⟩
    rw [Int.toNat_natCast] at hK
    have hk : k < L.length := by omega
    obtain ⟨g, cap, cur, S, h1, h2, h3, h4⟩ := cr_open H gd.pos
    have c1 : w.cell? ⟨p, 1, none⟩ = some (.slice (some ⟨g, 0, none⟩) L.length cap) := S.cell 1
    obtain ⟨x0, x1⟩ := gd.at_ hk
    have gs := gd.sum
    have g0 := gd.s0
    have hca := cur_at h4 rfl hk
    have hsp := spend_at S.swap (n := n) hca (by omega) (by omega)
    rw [winSpend_eq _ _ x0 (by omega)] at hsp
    by_cases a1 : 0 ≤ n ∧ n ≤ 2147483647
    · by_cases a2 : n ≤ L.getD k 0
      · rw [if_pos a1, if_pos a2] at hsp hK
        have hl : (L.set k (L.getD k 0 - n)).length = L.length := List.length_set ..
        have hs : isum (L.set k (L.getD k 0 - n)) = isum L - n := by rw [isum_set L k _ hk]; omega
        have HC : ∀ {W : World}, Sat G W (blk p #[.int .i64 (isum L - n), .slice (some ⟨g, 0, none⟩) L.length cap, .int .i64 ((T % L.length : Nat) : Int)] 52 :: blk g (cur.setIfInBounds k (.int .i64 (L.getD k 0 - n))) 49 :: l) → Sat G W (crA p (L.set k (L.getD k 0 - n)) T :: l) := fun S =>
          cr_close S hs.symm (by rw [hl]) hl.symm (by rw [hl]; exact h1) h2 (by simpa using h3) (by rw [hl]; exact cur_set h4 _)
        have HH := Lib.hid a2
        generalize L.set k (L.getD k 0 - n) = L' at *
        generalize L.getD k 0 = x at *
        clear hl hs hca h4 c1 H
        have c1 : w.cell? ⟨p, 1, none⟩ = some (.slice (some ⟨g, 0, none⟩) L.length cap) := S.cell 1
        clear S
        go_enter Try.func10, Try.ntmps10
        go_wp2_with fail
        (with_reducible refine hh.mono ?_)
        rintro e w1 ⟨rfl, rfl⟩
        go_wp2_with fail
        (with_reducible refine hsp.mono ?_)
        clear hsp
        rintro e w1 ⟨rfl, S1⟩
        have hsp := spend_at S1.swap (off := 0) (n := n) rfl (by omega) (by omega)
        rw [winSpend_eq _ _ (by omega) (by omega), if_pos a1, if_pos (by omega)] at hsp
        clear S1
        go_wp2_with fail
        (with_reducible refine hsp.mono ?_)
        clear hsp
        rintro e w2 ⟨rfl, S2⟩
        go_wp2_with fail
        exact hK.out _ _ ⟨rfl, HC S2⟩
      · rw [if_pos a1, if_neg a2] at hsp hK
        rw [set_same hca] at hsp
        have HC : ∀ {W : World}, Sat G W (blk p #[.int .i64 (isum L), .slice (some ⟨g, 0, none⟩) L.length cap, .int .i64 ((T % L.length : Nat) : Int)] 52 :: blk g cur 49 :: l) → Sat G W (crA p L T :: l) := fun S =>
          cr_close S rfl rfl rfl h1 h2 h3 h4
        generalize L.getD k 0 = x at *
        clear hca h4 H S
        go_enter Try.func10, Try.ntmps10
        go_wp2_with fail
        (with_reducible refine hh.mono ?_)
        rintro e w1 ⟨rfl, rfl⟩
        go_wp2_with fail
        (with_reducible refine hsp.mono ?_)
        clear hsp
        rintro e w1 ⟨rfl, S1⟩
        go_wp2_with fail
        exact hK.out _ _ ⟨rfl, HC S1.swap⟩
    · rw [if_neg a1] at hsp hK
      rw [set_same hca] at hsp
      have HC : ∀ {W : World}, Sat G W (blk p #[.int .i64 (isum L), .slice (some ⟨g, 0, none⟩) L.length cap, .int .i64 ((T % L.length : Nat) : Int)] 52 :: blk g cur 49 :: l) → Sat G W (crA p L T :: l) := fun S =>
        cr_close S rfl rfl rfl h1 h2 h3 h4
      generalize L.getD k 0 = x at *
      clear hca h4 H S
      go_enter Try.func10, Try.ntmps10
      go_wp2_with fail
      (with_reducible refine hh.mono ?_)
      rintro e w1 ⟨rfl, rfl⟩
      go_wp2_with fail
      (with_reducible refine hsp.mono ?_)
      clear hsp
      rintro e w1 ⟨rfl, S1⟩
      go_wp2_with fail
      exact hK.out _ _ ⟨rfl, HC S1.swap⟩
/-- How far a place is behind the turn. -/
def kOf (m T j : Nat) : Nat := (j + m - T % m) % m
/-- The parts after i rounds of a grant. -/
def gl (L : List Int) (T : Nat) (n : Int) (i : Nat) : List Int := (List.range L.length).map fun j => L.getD j 0 + if kOf L.length T j < i then part n L.length (kOf L.length T j) else 0
def crGrant (L : List Int) (T : Nat) (n : Int) : List Int × Nat × Int :=
  if n < 1 ∨ 2147483647 < n then (L, T, 11) else if 2147483647 < isum L + n then (L, T, 103) else (gl L T n L.length, T + 1, 0)
theorem gl_length (L : List Int) (T : Nat) (n : Int) (i : Nat) : (gl L T n i).length = L.length := by simp [gl]
theorem gl_getD (L : List Int) (T : Nat) (n : Int) (i j : Nat) (h : j < L.length) : (gl L T n i).getD j 0 = L.getD j 0 + if kOf L.length T j < i then part n L.length (kOf L.length T j) else 0 := by
  unfold gl
  rw [List.getD_eq_getElem?_getD, List.getElem?_map, List.getElem?_range h]
  rfl
theorem list_ext {a b : List Int} (hl : a.length = b.length) (h : ∀ i, i < a.length → a.getD i 0 = b.getD i 0) : a = b := by
  apply List.ext_getElem hl
  intro i h1 h2
  have := h i h1
  simpa [List.getD_eq_getElem?_getD, h1, h2] using this
theorem gl_zero (L : List Int) (T : Nat) (n : Int) : gl L T n 0 = L := by
  apply list_ext (gl_length ..)
  intro i hi
  rw [gl_length] at hi
  rw [gl_getD _ _ _ _ _ hi]
  simp
theorem kOf_at (m T i : Nat) (hm : 0 < m) (hi : i < m) : kOf m T ((T % m + i) % m) = i := by
  unfold kOf
  have h := Nat.mod_lt T hm
  generalize T % m = s at *
  by_cases h2 : s + i < m
  · rw [Nat.mod_eq_of_lt h2, show s + i + m - s = i + m by omega, Nat.add_mod_right, Nat.mod_eq_of_lt hi]
  · rw [show s + i = (s + i - m) + m by omega, Nat.add_mod_right, Nat.mod_eq_of_lt (by omega : s + i - m < m), show s + i - m + m - s = i by omega, Nat.mod_eq_of_lt hi]
theorem kOf_inj (m T i j : Nat) (hm : 0 < m) (hj : j < m) (h : kOf m T j = i) : j = (T % m + i) % m := by
  unfold kOf at h
  have h1 := Nat.mod_lt T hm
  generalize T % m = s at *
  subst h
  by_cases h2 : j + m - s < m
  · rw [Nat.mod_eq_of_lt h2, show s + (j + m - s) = j + m by omega, Nat.add_mod_right, Nat.mod_eq_of_lt hj]
  · rw [show j + m - s = (j - s) + m by omega, Nat.add_mod_right, Nat.mod_eq_of_lt (by omega : j - s < m), show s + (j - s) = j by omega, Nat.mod_eq_of_lt hj]
theorem gl_succ (L : List Int) (T : Nat) (n : Int) (i : Nat) (hi : i < L.length) : gl L T n (i + 1) = (gl L T n i).set ((T % L.length + i) % L.length) (L.getD ((T % L.length + i) % L.length) 0 + part n L.length i) := by
  have hm : 0 < L.length := by omega
  apply list_ext
  · rw [List.length_set, gl_length, gl_length]
  intro j hj
  rw [gl_length] at hj
  rw [gl_getD _ _ _ _ _ hj]
  by_cases e : (T % L.length + i) % L.length = j
  · subst e
    rw [kOf_at _ _ _ hm hi, if_pos (by omega)]
    rw [List.getD_eq_getElem?_getD (l := List.set _ _ _), List.getElem?_set_self (by rw [gl_length]; exact hj)]
    rfl
  · have hk : kOf L.length T j ≠ i := fun h => e (kOf_inj _ _ _ _ hm hj h).symm
    rw [List.getD_eq_getElem?_getD (l := List.set _ _ _), List.getElem?_set_ne e, ← List.getD_eq_getElem?_getD, gl_getD _ _ _ _ _ hj]
    by_cases h2 : kOf L.length T j < i
    · rw [if_pos h2, if_pos (by omega)]
    · rw [if_neg h2, if_neg (by omega)]
theorem gl_here (L : List Int) (T : Nat) (n : Int) (i : Nat) (hi : i < L.length) : (gl L T n i).getD ((T % L.length + i) % L.length) 0 = L.getD ((T % L.length + i) % L.length) 0 := by
  rw [gl_getD _ _ _ _ _ (Nat.mod_lt _ (by omega)), kOf_at _ _ _ (by omega) hi, if_neg (by omega)]; omega
theorem gl_sum (L : List Int) (T : Nat) (n : Int) (i : Nat) (hi : i ≤ L.length) : isum (gl L T n i) = isum L + psum n L.length i := by
  induction i with
  | zero => rw [gl_zero]; simp [psum]
  | succ i ih =>
    rw [gl_succ _ _ _ _ (by omega), isum_set _ _ _ (by rw [gl_length]; exact Nat.mod_lt _ (by omega)), ih (by omega), gl_here _ _ _ _ (by omega)]
    simp [psum]; omega
theorem gl_good {L : List Int} (gd : Good L) (T : Nat) {n : Int} (h0 : 1 ≤ n) (h1 : isum L + n ≤ 2147483647) (i : Nat) (hi : i ≤ L.length) : Good (gl L T n i) := by
  have hp := gd.pos
  refine ⟨by rw [gl_length]; exact gd.pos, by rw [gl_length]; exact gd.len, fun x hx => ?_, ?_⟩
  · obtain ⟨j, hj, rfl⟩ := List.mem_iff_getElem.1 hx
    rw [gl_length] at hj
    have e := gl_getD L T n i j hj
    rw [List.getD_eq_getElem?_getD, List.getElem?_eq_getElem (by rw [gl_length]; exact hj)] at e
    simp only [Option.getD_some] at e
    rw [e]
    have := (gd.at_ hj).1
    have := part_nonneg n L.length (kOf L.length T j) (by omega)
    split <;> omega
  · rw [gl_sum _ _ _ _ hi]
    have := (psum_range n L.length i (by omega) (by omega) hi).2
    omega
theorem grant_good {L : List Int} (gd : Good L) (T : Nat) (n : Int) : Good (crGrant L T n).1 := by
  unfold crGrant
  split
  · exact gd
  · split
    · exact gd
    · exact gl_good gd T (by omega) (by omega) _ (Nat.le_refl _)
theorem spend_good {L : List Int} (gd : Good L) (k n : Int) : Good (crSpend L k n).1 := by
  unfold crSpend
  split
  · rename_i h
    obtain ⟨k0, k1⟩ := of_decide_eq_true h
    have hk : k.toNat < L.length := by omega
    split
    · rename_i hn
      split
      · rename_i hle
        refine ⟨by rw [List.length_set]; exact gd.pos, by rw [List.length_set]; exact gd.len, fun x hx => ?_, ?_⟩
        · rcases List.mem_or_eq_of_mem_set hx with h | h
          · exact gd.nonneg _ h
          · omega
        · rw [isum_set _ _ _ hk]
          have := gd.sum
          show isum L - _ + (_ - n) ≤ _
          omega
      · exact gd
    · exact gd
  · exact gd
theorem gl_skip (L : List Int) (T : Nat) (n : Int) (i : Nat) (h0 : part n L.length i = 0) : gl L T n (i + 1) = gl L T n i := by
  apply list_ext (by rw [gl_length, gl_length])
  intro j hj
  rw [gl_length] at hj
  rw [gl_getD _ _ _ _ _ hj, gl_getD _ _ _ _ _ hj]
  by_cases h1 : kOf L.length T j < i
  · rw [if_pos h1, if_pos (by omega)]
  · rw [if_neg h1]
    by_cases h2 : kOf L.length T j = i
    · rw [h2, if_pos (by omega), h0]
    · rw [if_neg (by omega)]
set_option maxHeartbeats 4000000 in
set_option maxRecDepth 100000 in
theorem cr_grant (H : Sat G w (crA p L T :: l)) (gd : Good L) (n : Int) : Calls Try.prog 9 #[.pointer (some ⟨p, 0, none⟩), .int .i64 n] w fun e w' => e = .returned (.int .i64 (crGrant L T n).2.2) ∧ Sat G w' (crA p (crGrant L T n).1 (crGrant L T n).2.1 :: l) := by
  refine calls_any fun K hK => ?_
  obtain ⟨g, cap, cur, S, h1, h2, h3, h4⟩ := cr_open H gd.pos
  have gs := gd.sum
  have g0 := gd.s0
  have hgw := grow_at S (off := 0) (n := n) rfl (by omega) (by omega)
  rw [winGrow_eq _ _ g0] at hgw
  unfold crGrant at hK
  by_cases a1 : n < 1 ∨ 2147483647 < n
  · rw [if_pos a1] at hgw hK
    clear S H
    go_enter Try.func9, Try.ntmps9
    go_wp2_with fail
    (with_reducible refine hgw.mono ?_)
    clear hgw
    rintro e w1 ⟨rfl, S1⟩
    go_wp2_with fail
    exact hK.out _ _ ⟨rfl, cr_close S1 rfl rfl rfl h1 h2 h3 h4⟩
  rw [if_neg a1] at hgw hK
  by_cases a2 : 2147483647 < isum L + n
  · rw [if_pos a2] at hgw hK
    clear S H
    go_enter Try.func9, Try.ntmps9
    go_wp2_with fail
    (with_reducible refine hgw.mono ?_)
    clear hgw
    rintro e w1 ⟨rfl, S1⟩
    go_wp2_with fail
    exact hK.out _ _ ⟨rfl, cr_close S1 rfl rfl rfl h1 h2 h3 h4⟩
  rw [if_neg a2] at hgw hK
  have n0 : 1 ≤ n := by omega
  have n1 : n ≤ 2147483647 := by omega
  have n2 : isum L + n ≤ 2147483647 := by omega
  clear S H a1 a2
  have hpn := part_nonneg n L.length
  have hpl := part_lt n L.length
  have hm0 := gd.pos
  have hm1 := gd.len
  go_enter Try.func9, Try.ntmps9
  go_wp2_with fail
  (with_reducible refine hgw.mono ?_)
  clear hgw
  rintro e w1 ⟨rfl, S1⟩
  change Sat _ _ (blk p #[.int .i64 (isum L + n), .slice (some ⟨g, 0, none⟩) L.length cap, .int .i64 ((T % L.length : Nat) : Int)] _ :: _) at S1
  have c1 : w1.cell? ⟨p, 1, none⟩ = some (.slice (some ⟨g, 0, none⟩) L.length cap) := S1.cell 1
  go_wp2_with fail
  (with_reducible refine (win_parts n L.length w1 (by omega) (by omega) hm0 hm1).mono ?_)
  rintro e w2 ⟨rfl, hb2, hrow⟩
  have S2 : Sat G w2 (blk w1.heap.size ((parts n L.length).map (Value.int .i64)).toArray 3 :: _) := S1.claim hb2 (Nat.le_refl _) hrow
  clear hb2 hrow S1 c1
  generalize w1.heap.size = r at *
  obtain ⟨row, hrow⟩ : ∃ row, row = ((parts n L.length).map (Value.int .i64)).toArray := ⟨_, rfl⟩
  rw [← hrow] at S2
  have hro : ∀ k, k < L.length → row[k]? = some (.int .i64 (part n L.length k)) := fun k hk => by subst hrow; simp [parts, hk]
  have HRO := Lib.hid hro
  clear hrow hro
  go_wp2_with fail
  go_loopw [24] (fun i wr => ∃ (k : Nat) (cur : Array Value), k ≤ L.length ∧ i = .int .i64 k ∧ cur.size = cap ∧ cur.toList.take L.length = ints (gl L T n k) ∧ Sat G wr (blk r row 3 :: blk p #[.int .i64 (isum L + n), .slice (some ⟨g, 0, none⟩) L.length cap, .int .i64 ((T % L.length : Nat) : Int)] 52 :: blk g cur 49 :: l)) (fun i _ => L.length - (intOf i).toNat)
  case atStart => exact ⟨0, cur, Nat.zero_le _, rfl, h3, by rw [gl_zero]; exact h4, S2⟩
  case round =>
    obtain ⟨k, cur, hk, rfl, h3, h4, S⟩ := hrel
    clear S2
    by_cases hlt : k < L.length
    · have cr : wr.cell? ⟨r, k, none⟩ = some (.int .i64 (part n L.length k)) := (S.cell k).trans (HRO.out k hlt)
      have p0 := hpn k (by omega)
      have p1 := hpl k (by omega) (by omega) hm0 hlt
      by_cases hx : part n L.length k > 0
      · have hq : (T % L.length + k) % L.length < L.length := Nat.mod_lt _ (by omega)
        have HG := Lib.hid (gl_succ L T n k hlt)
        have hca : cur[(T % L.length + k) % L.length]? = some (.int .i64 (L.getD ((T % L.length + k) % L.length) 0)) := by
          rw [cur_at h4 (gl_length ..).symm (by rw [gl_length]; exact hq), gl_here _ _ _ _ hlt]
        obtain ⟨x0, x1⟩ := gd.at_ hq
        have c1 : wr.cell? ⟨p, 1, none⟩ = some (.slice (some ⟨g, 0, none⟩) L.length cap) := S.swap.cell 1
        have c2 : wr.cell? ⟨p, 2, none⟩ = some (.int .i64 ((T % L.length : Nat) : Int)) := S.swap.cell 2
        have S3 := S.pull2.drew
        have HC := Lib.hid (fun (W : World) (cur' : Array Value) (S : Sat G W (blk g cur' 49 :: blk r row 3 :: blk p #[.int .i64 (isum L + n), .slice (some ⟨g, 0, none⟩) L.length cap, .int .i64 ((T % L.length : Nat) : Int)] 52 :: l)) => S.push2)
        have h4' := Lib.hid h4
        have hsl : T % L.length < L.length := Nat.mod_lt _ (by omega)
        have htm : Int.tmod (((T % L.length : Nat) : Int) + k) (L.length : Int) = (((T % L.length + k) % L.length : Nat) : Int) := by
          rw [Int.tmod_eq_emod_of_nonneg (by omega)]; norm_cast
        have hwr : IntKind.i64.wrap (((T % L.length : Nat) : Int) + k) = ((T % L.length : Nat) : Int) + k := IntWalk.i64_in _ (by omega)
        clear S h4
        generalize T % L.length = t at *
        generalize (t + k) % L.length = q at *
        generalize L.getD q 0 = x at *
        generalize part n L.length k = y at *
        have hgr := fun W (S : Sat G W (blk g cur 49 :: blk r row 3 :: blk p #[.int .i64 (isum L + n), .slice (some ⟨g, 0, none⟩) L.length cap, .int .i64 (t : Int)] 52 :: l)) => grow_at S (n := y) hca (by omega) (by omega)
        have e1 : winGrow x y = (x + y, 0) := by rw [winGrow_eq _ _ x0, if_neg (by omega), if_neg (by omega)]
        rw [e1] at hgr
        have hgr' := hgr _ S3
        clear e1
        clear hgr
        generalize L.length = m at *
        have hmz : ((m : Int) == 0) = false := by simp; omega
        have hmz2 : ¬ ((m : Int) = 0) := by omega
        have hmz3 : ¬ (m = 0) := by omega
        go_wp2_with fail
        go_still_tail 18, (by kernel_rfl)
        change wpList _ _ _ _ _ wr.drew
        generalize wr.drew = w3 at *
        clear c1 c2 htm hwr hmz S3 hca
        go_wp2_with fail
        (with_reducible refine hgr'.mono ?_)
        clear hgr'
        rintro e w4 ⟨rfl, S4⟩
        go_wp2_with fail
        go_roundw
        case rel => exact ⟨k + 1, _, by omega, by go_num, by rw [Array.size_setIfInBounds]; exact h3, by rw [HG.out]; exact cur_set h4'.out _, HC.out _ _ S4⟩
        case measure => simp [intOf]; omega
      · have h0 : part n L.length k = 0 := by omega
        have HG := Lib.hid (gl_skip L T n k h0)
        have h4' := Lib.hid h4
        rw [h0] at cr
        clear h4 hx p0 p1 h0
        have hz : ¬ ((0 : Int) > 0) := by omega
        have HS := Lib.hid S
        clear S
        go_wp2_with fail
        go_roundw
        case rel => exact ⟨k + 1, cur, by omega, by go_num, h3, by rw [HG.out]; exact h4'.out, HS.out⟩
        case measure => simp [intOf]; omega
    · obtain rfl : k = L.length := by omega
      have c1 : wr.cell? ⟨p, 1, none⟩ = some (.slice (some ⟨g, 0, none⟩) L.length cap) := S.swap.cell 1
      have c2 : wr.cell? ⟨p, 2, none⟩ = some (.int .i64 ((T % L.length : Nat) : Int)) := S.swap.cell 2
      have hs : isum L + n = isum (gl L T n L.length) := by rw [gl_sum _ _ _ _ (Nat.le_refl _), psum_all _ _ (by omega) hm0]
      have HC : ∀ {W : World}, Sat G W (blk p #[.int .i64 (isum L + n), .slice (some ⟨g, 0, none⟩) L.length cap, .int .i64 (((T + 1) % L.length : Nat) : Int)] 52 :: blk r row 3 :: blk g cur 49 :: l) → Sat G W (crA p (gl L T n L.length) (T + 1) :: l) := fun S =>
        cr_close S.drop2 hs (by rw [gl_length]) (gl_length ..).symm (by rw [gl_length]; exact h1) h2 h3 (by rw [gl_length]; exact h4)
      have S3 := S.swap.drew
      have htm : Int.tmod (((T % L.length : Nat) : Int) + 1) (L.length : Int) = (((T + 1) % L.length : Nat) : Int) := by
        rw [Int.tmod_eq_emod_of_nonneg (by omega)]; norm_cast; rw [Nat.mod_add_mod]
      have hwr : IntKind.i64.wrap (((T % L.length : Nat) : Int) + 1) = ((T % L.length : Nat) : Int) + 1 := by
        have := Nat.mod_lt T hm0
        exact IntWalk.i64_in _ (by omega)
      generalize gl L T n L.length = L' at *
      clear S HRO hpn hpl h4 hs h1 hk hlt
      generalize (T + 1) % L.length = t1 at *
      generalize T % L.length = t0 at *
      generalize L.length = m at *
      have hmz : ((m : Int) == 0) = false := by simp; omega
      have hmz2 : ¬ ((m : Int) = 0) := by omega
      have hmz3 : ¬ (m = 0) := by omega
      go_wp2_with fail
      go_still_tail 14, (by kernel_rfl)
      change wpList _ _ _ _ _ wr.drew
      generalize wr.drew = w3 at *
      have c2 : w3.cell? ⟨p, 2, none⟩ = some (.int .i64 (t0 : Int)) := S3.cell 2
      have f2 := S3.frozen 2
      have S4 := S3.setCell 2 (.int .i64 (t1 : Int))
      clear S3
      go_wp2_with fail
      exact hK.out _ _ ⟨rfl, HC S4⟩
end
end Go.Proofs.Ytkjelbnkfnifgaa
