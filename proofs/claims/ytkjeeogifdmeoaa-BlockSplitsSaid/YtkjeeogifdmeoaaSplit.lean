/- The walk over block.Split. -/
import Derived.Test.YtkjeeogifdmeoaaItems
import Derived.Test.YtkjeeogifdmeoaaElt
set_option linter.unusedSimpArgs false
set_option linter.unusedVariables false
namespace Go.Proofs.Ytkjeeogifdmeoaa
open Go.RowKit

abbrev Fr4 := Int × Int × Int × Value
def fc (f : Fr4) : List Value := [.int .i64 f.1, .int .i64 f.2.1, .int .i64 f.2.2.1, f.2.2.2]
theorem fc_len (f : Fr4) : (fc f).length = 4 := rfl
theorem info_fr : (Try.prog.info? 57).map (fun i => (i.zero, i.size, i.bytes)) = some (some (.agg #[.int .i64 0, .int .i64 0, .int .i64 0, .slice none 0 0]), 4, 48) := by kernel_rfl
/-- A slice of frames that nobody turns. -/
def RFs (R : Hp) (v : Value) (F : List Fr4) : Prop :=
  ∃ A c, v = .slice A F.length c ∧ F.length ≤ c ∧ c ≤ maxLen ∧ ∀ (i : Nat) (f : Fr4), F[i]? = some f → ∃ g, A = some ⟨g, 0, none⟩ ∧ ∀ j, j < 4 → cellR R ⟨g, i * 4 + j, none⟩ = (fc f)[j]?
theorem rfs_of {G : Gnd} {w : World} {l : List Asrt} {v : Value} {F : List Fr4} (S : Sat G w (ownS 57 4 v F.length (encs fc F) :: l)) : ∃ G', G.le G' ∧ Sat G' w l ∧ RFs G'.ro v F := by
  obtain ⟨A, c, rfl, h1, h2, -⟩ := S.ownSlice
  obtain ⟨G', hG, S', A', c', e, hm, hl, hr⟩ := S.ownFreeze
  cases e
  refine ⟨G', hG, S', A, c, rfl, h1, h2, fun i f hf => ?_⟩
  have hg := fun j (hj : j < 4) => encs_get fc_len F i f hf j hj
  obtain ⟨g, rfl, -⟩ := hr (i * 4 + 0) _ ((hg 0 (by omega)).trans rfl)
  refine ⟨g, rfl, fun j hj => ?_⟩
  obtain ⟨u, hu⟩ : ∃ u, (fc f)[j]? = some u := ⟨_, List.getElem?_eq_getElem (by rw [fc_len]; exact hj)⟩
  obtain ⟨g', e, hc⟩ := hr (i * 4 + j) u ((hg j hj).trans hu)
  cases e
  rw [hc, hu]
theorem Lay.put {α : Type} {enc : α → List Value} {size cap : Nat} {cur : Array Value} {F : List α} (L : Lay enc size cap cur F) {i : Nat} {x x' : α} (hx : F[i]? = some x) {j : Nat} (hj : j < size) (v : Value) (he : enc x' = (enc x).set j v) : Lay enc size cap (cur.setIfInBounds (i * size + j) v) (F.set i x') := by
  have hi := (List.getElem?_eq_some_iff.1 hx).1
  have hs := L.set hi x'
  have hr := L.room hi
  have e : setMid cur (i * size) (enc x') = cur.setIfInBounds (i * size + j) v := by
    apply Array.toList_inj.1
    rw [setMid_list _ _ _ (by rw [L.h]; exact hr), Array.toList_setIfInBounds]
    apply List.ext_getElem?
    intro n
    have hg := fun q (hq : q < size) => L.get hx hq
    have hl1 := L.h x
    have hl2 := L.h x'
    rw [hl2, List.getElem?_set]
    simp only [List.getElem?_append, List.length_append, List.length_take, Array.length_toList, List.getElem?_take, List.getElem?_drop, Array.getElem?_toList]
    rw [Nat.min_eq_left (by omega : i * size ≤ cur.size)]
    by_cases k1 : n < i * size
    · rw [if_pos (by omega), if_pos k1, if_pos k1, if_neg (by omega)]
    · by_cases k2 : n < i * size + size
      · have := hg (n - i * size) (by omega)
        rw [show i * size + (n - i * size) = n by omega] at this
        rw [if_pos (by omega), if_neg k1, he, List.getElem?_set, this]
        by_cases k3 : i * size + j = n
        · rw [if_pos (by omega : j = n - i * size), if_pos (by omega : j < (enc x).length), if_pos k3, if_pos (by omega)]
        · rw [if_neg (by omega), if_neg k3]
      · rw [if_neg (by omega), if_neg (by omega)]
        congr 1
        omega
  rw [← e]
  exact hs
theorem split_not (s m : Int) (v : Value) (e : Bool) (w : World) (h : s < 1 ∨ 2147483647 < s ∨ m < 1 ∨ 16384 < m) :
    Calls Try.prog 17 #[.int .i64 s, v, .bool e, .int .i64 m] w fun e w' => e = .returned (.tuple #[.slice none 0 0, .int .i64 11]) ∧ w = w' := by
  refine calls_any fun K hK => ?_
  by_cases h1 : s < 1
  · go_enter Try.func17, Try.ntmps17
    go_wp2_with fail
    exact hK.out _ _ ⟨rfl, rfl⟩
  by_cases h2 : 2147483647 < s
  · go_enter Try.func17, Try.ntmps17
    go_wp2_with fail
    exact hK.out _ _ ⟨rfl, rfl⟩
  by_cases h3 : m < 1
  · go_enter Try.func17, Try.ntmps17
    go_wp2_with fail
    exact hK.out _ _ ⟨rfl, rfl⟩
  have h4 : 16384 < m := by omega
  clear h
  go_enter Try.func17, Try.ntmps17
  go_wp2_with fail
  exact hK.out _ _ ⟨rfl, rfl⟩
/-- The first k frames: no mark of the end of the heads yet. -/
def Cut (R : Hp) (s : Int) (t : List UInt8) (e : Bool) (m : Nat) (F : List Fr4) : Prop :=
  ∀ (i : Nat) (f : Fr4), F[i]? = some f → f.1 = (if i = 0 then 1 else 9) ∧ f.2.1 = (if i = 0 ∧ e = true then 1 else 0) ∧ f.2.2.1 = s ∧ SlB (cellR R) f.2.2.2 ((t.drop (i * m)).take m)
theorem Cut.mono {G G' : Gnd} {s : Int} {t : List UInt8} {e : Bool} {m : Nat} {F : List Fr4} (h : Cut G.ro s t e m F) (hG : G.le G') : Cut G'.ro s t e m F := fun i f hf => by
  obtain ⟨h1, h2, h3, h4⟩ := h i f hf
  exact ⟨h1, h2, h3, h4.mono hG⟩
theorem Cut.snoc {G G' : Gnd} {s : Int} {t : List UInt8} {e : Bool} {m k : Nat} {F : List Fr4} (h : Cut G.ro s t e m F) (hG : G.le G') (hk : F.length = k) {ty fl : Int} {u : Value} (h1 : ty = if k = 0 then 1 else 9) (h2 : fl = if k = 0 ∧ e = true then 1 else 0) (h4 : SlB (cellR G'.ro) u ((t.drop (k * m)).take m)) : Cut G'.ro s t e m (F ++ [(ty, fl, s, u)]) := by
  intro i f hf
  by_cases hi : i < F.length
  · rw [List.getElem?_append_left hi] at hf
    exact (h.mono hG) i f hf
  · have hl := (List.getElem?_eq_some_iff.1 hf).1
    simp at hl
    obtain rfl : i = k := by omega
    rw [List.getElem?_append_right (by omega), hk] at hf
    simp at hf
    subst hf
    exact ⟨h1, h2, rfl, h4⟩
/-- All of the frames. -/
def Cuts (R : Hp) (s : Int) (t : List UInt8) (e : Bool) (m : Nat) (F : List Fr4) : Prop :=
  ∀ (i : Nat) (f : Fr4), F[i]? = some f → f.1 = (if i = 0 then 1 else 9) ∧ f.2.1 = (if i = 0 ∧ e = true then 1 else 0) + (if i + 1 = F.length then 4 else 0) ∧ f.2.2.1 = s ∧ SlB (cellR R) f.2.2.2 ((t.drop (i * m)).take m)
theorem Cuts.of {G : Gnd} {s : Int} {t : List UInt8} {e : Bool} {m k : Nat} {F : List Fr4} (h : Cut G.ro s t e m F) (hk : F.length = k + 1) {f : Fr4} (hf : F[k]? = some f) : Cuts G.ro s t e m (F.set k (f.1, (if k = 0 ∧ e = true then 1 else 0) + 4, f.2.2.1, f.2.2.2)) := by
  intro i x hx
  rw [List.length_set, hk]
  by_cases hi : i = k
  · subst hi
    rw [List.getElem?_set_self (by omega)] at hx
    cases hx
    obtain ⟨h1, h2, h3, h4⟩ := h i f hf
    exact ⟨h1, by simp, h3, h4⟩
  · rw [List.getElem?_set_ne (by omega)] at hx
    obtain ⟨h1, h2, h3, h4⟩ := h i x hx
    have hl := (List.getElem?_eq_some_iff.1 hx).1
    exact ⟨h1, by rw [h2, if_neg (by omega : ¬ i + 1 = k + 1)]; omega, h3, h4⟩
section
variable {G : Gnd} {w : World} {l : List Asrt}
set_option maxHeartbeats 8000000 in
set_option maxRecDepth 100000 in
theorem as_split (H : Sat G w l) (s : Int) (v : Value) (t : List UInt8) (e : Bool) (m : Nat) (hs0 : 1 ≤ s) (hs1 : s ≤ 2147483647) (hm0 : 1 ≤ m) (hm1 : m ≤ 16384) (hv : SlB (cellR G.ro) v t) (htl : t.length ≤ 1000000) :
    Calls Try.prog 17 #[.int .i64 s, v, .bool e, .int .i64 m] w fun e' w' => ∃ G' u F, G.le G' ∧ e' = .returned (.tuple #[u, .int .i64 0]) ∧ RFs G'.ro u F ∧ Cuts G'.ro s t e m F ∧ 1 ≤ F.length ∧ t.length ≤ F.length * m ∧ (F.length = 1 ∨ (F.length - 1) * m < t.length) ∧ Sat G' w' l := by
  refine calls_any fun K hK => ?_
  obtain ⟨A, c, rfl, -, -, -⟩ := hv.form
  have HV := Lib.hid hv
  obtain ⟨fl0, hfl0⟩ : ∃ fl0 : Int, fl0 = if e = true then 1 else 0 := ⟨_, rfl⟩
  have S0 : Sat G _ (blk w.heap.size #[.int .i64 1, .int .i64 fl0, .int .i64 s, .slice none 0 0] 57 :: l) := H.newBlk #[.int .i64 1, .int .i64 fl0, .int .i64 s, .slice none 0 0] 57
  have S1 := (S0.ownNil 57 4)
  clear H hv S0
  cases he : e with
  | true =>
    rw [he] at hfl0 hK
    obtain rfl : fl0 = 1 := hfl0
    clear he
    go_enter Try.func17, Try.ntmps17
    go_wp2_with fail
    generalize w.heap.size = q at *
    go_loopw [11, 12, 13] (fun o r nn wr => ∃ (k : Nat) (G1 : Gnd) (F : List Fr4) (ty fl : Int) (pv : Value), G.le G1 ∧ F.length = k ∧ Cut G1.ro s t true m F ∧ ty = (if k = 0 then 1 else 9) ∧ fl = (if k = 0 ∧ true = true then 1 else 0) ∧ SlB (Go.Proofs.Ytkjeeogifdmeoaa.cellR G1.ro) r (t.drop (k * m)) ∧ (∃ A n c, pv = .slice A n c) ∧ (k = 0 ∨ k * m < t.length) ∧ Sat G1 wr (ownS 57 4 o k (encs fc F) :: blk q #[.int .i64 ty, .int .i64 fl, .int .i64 s, pv] 57 :: l)) (fun _ r _ _ => match r with | .slice _ n _ => n | _ => 0)
    case atStart => exact ⟨0, G, [], 1, 1, .slice none 0 0, Gnd.le.rfl', rfl, fun i f hf => by simp at hf, rfl, rfl, by simpa using HV.out, ⟨_, _, _, rfl⟩, .inl rfl, S1⟩
    case round =>
      obtain ⟨k, G1, F, ty, fl, pv, hG1, hFk, hcut, hty, hfl, hr, ⟨PA, pn, pc, rfl⟩, hkm, S2⟩ := hrel
      clear S1
      have hkb : k ≤ 1000000 := by
        rcases hkm with h | h
        · omega
        · have := Nat.le_mul_of_pos_right k (show 0 < m by omega)
          omega
      obtain ⟨R, rc, rfl, hr1, hr2, hr3⟩ := hr.form
      have hr4 : rc ≤ 9223372036854775807 := hr2
      obtain ⟨L, hL⟩ : ∃ L, L = (t.drop (k * m)).length := ⟨_, rfl⟩
      have hLt : L = t.length - k * m := by rw [hL, List.length_drop]
      have HR := Lib.hid hr
      have HCUT := Lib.hid hcut
      have HTY := Lib.hid hty
      have HFL := Lib.hid hfl
      have HFK := Lib.hid hFk
      have HKM := Lib.hid hkm
      obtain ⟨RO, ro, rfl, -, -, -⟩ := S2.ownSlice
      rw [← hL] at hr1 ⊢
      have HL := Lib.hid hL
      have HLT := Lib.hid hLt
      have hLb : L ≤ 1000000 := by omega
      clear hr hcut hty hfl hFk hkm hL hLt hr2
      by_cases hml : m ≤ L
      · have hmin : min (m : Int) (L : Int) = (m : Int) := by omega
        have hto := HR.out.to m (by have := HL.out; omega) rc (by omega) (Nat.le_refl _)
        rw [show (t.drop (k * m)).take m = (t.drop (k * m)).take m from rfl] at hto
        obtain ⟨chunk, hch⟩ : ∃ chunk, chunk = (t.drop (k * m)).take m := ⟨_, rfl⟩
        have hcl : chunk.length = m := by rw [hch, List.length_take, ← HL.out]; omega
        rw [← hch, ] at hto
        have HCH := Lib.hid hch
        have hbc := bytes_clone S2 (.slice R m rc) chunk (hto.sat S2).1 (by omega)
        rw [hcl] at hbc
        clear hto hch
        have HCL := Lib.hid hcl
        clear hcl
        go_wp2_with fail
        (with_reducible refine hbc.mono ?_)
        clear hbc S2
        rintro e w4 ⟨u, rfl, S3⟩
        rw [← HCL.out] at S3
        obtain ⟨G2, hG2, S4, hu⟩ := S3.ownFrz
        obtain ⟨U, cu, hU, -, -, -⟩ := hu.form
        rw [HCL.out] at hU
        subst hU
        have HU := Lib.hid hu
        clear S3 hu
        have f3 := (S4.re [1, 0]).frozen 3
        have c3 := (S4.re [1, 0]).cell 3
        have S5 : Sat G2 (w4.setCell ⟨q, 3, none⟩ (.slice U m cu)) (blk q #[.int .i64 ty, .int .i64 fl, .int .i64 s, .slice U m cu] 57 :: ownS 57 4 (.slice RO k ro) k (encs fc F) :: l) := (S4.re [1, 0]).setCell 3 (.slice U m cu)
        go_upto_region 11 with fail
        refine wp_world S5 fun w5 S6 => ?_
        clear S4 S5 f3 c3
        have c0 := S6.cell 0
        have c1 := S6.cell 1
        have c2 := S6.cell 2
        have c3 := S6.cell 3
        have S9 : Sat G2 (w5.alloc (.cells #[.int .i64 ty, .int .i64 fl, .int .i64 s, .slice U m cu] 57)) (ownS 57 4 (.slice RO k ro) k (encs fc F) :: blk q #[.int .i64 ty, .int .i64 fl, .int .i64 s, .slice U m cu] 57 :: l) := (S6.alloc (.cells #[.int .i64 ty, .int .i64 fl, .int .i64 s, .slice U m cu] 57)).re [1, 0]
        by_cases hrc : rc = m
        · go_upto_region 14 with (at_builtin; refine st_append rfl _ _ 53 rfl 57 (.agg #[.int .i64 0, .int .i64 0, .int .i64 0, .slice none 0 0]) 4 48 Try.underlying53 info_fr rfl (by omega) _ k _ rfl S9 ⟨w5.heap.size, 0, none⟩ 1 1 [.int .i64 ty, .int .i64 fl, .int .i64 s, .slice U m cu] rfl rfl (alloc_cells _ _ #[.int .i64 ty, .int .i64 fl, .int .i64 s, .slice U m cu] _ (by simp)) rfl (Nat.le_trans (show k + 1 ≤ 140737488351233 by omega) (by decide)) (by omega) ?_; intro v' w' S')
          clear c0 c1 c2 c3 S6 S9
          obtain ⟨xs, hxs⟩ : ∃ xs, xs = F ++ [(ty, fl, s, .slice U m cu)] := ⟨_, rfl⟩
          have hxl : xs.length = k + 1 := by rw [hxs]; simp [HFK.out]
          have hxk : xs[k]? = some (ty, fl, s, .slice U m cu) := by rw [hxs, ← HFK.out]; simp
          have S10 : Sat G2 w' (ownS 57 4 v' xs.length (encs fc xs) :: blk q #[.int .i64 ty, .int .i64 fl, .int .i64 s, .slice U m cu] 57 :: l) := by
            rw [hxl, hxs, encs_append, encs_one]; exact S'
          clear S'
          obtain ⟨g, cap, cur, rfl, hcap, hlay, S11⟩ := S10.layOpen fc_len (by omega)
          rw [hxl]
          have HXS := Lib.hid hxs
          have HXL := Lib.hid hxl
          have HXK := Lib.hid hxk
          have HCAP := Lib.hid hcap
          have d1 := (S11.cell _).trans (hlay.get hxk (j := 1) (by decide))
          simp only [fc, List.getElem?_cons_zero, List.getElem?_cons_succ] at d1
          have f1 := S11.frozen (k * 4 + 1)
          have HLAY := Lib.hid hlay
          clear hxs hxl hxk hcap hlay S10
          go_wp2_with fail
          have hor : bits BinOp.or IntKind.i64 fl 4 = (if k = 0 ∧ true = true then 1 else 0) + 4 := by
            have h := HFL.out
            by_cases hk : k = 0
            · simp [hk] at h; subst h; simp [hk]; try rfl
            · simp [hk] at h; subst h; simp [hk]; try rfl
          rw [hor]
          have hput := HLAY.out.put (x' := (ty, (if k = 0 ∧ true = true then 1 else 0) + 4, s, .slice U m cu)) HXK.out (j := 1) (by decide) (.int .i64 ((if k = 0 ∧ true = true then 1 else 0) + 4)) rfl
          have S12 := S11.setCell (k * 4 + 1) (.int .i64 ((if k = 0 ∧ true = true then 1 else 0) + 4))
          have S13 := S12.layClose hput HCAP.out (k + 1) (by rw [List.length_set, HXL.out])
          rw [List.length_set, HXL.out] at S13
          rw [show k + 1 = (xs.set k (ty, (if k = 0 ∧ true = true then 1 else 0) + 4, s, .slice U m cu)).length by rw [List.length_set, HXL.out]] at S13
          obtain ⟨G3, hG3, S14, hrf⟩ := rfs_of S13
          rw [List.length_set, HXL.out] at hrf
          have hle : G1.le G3 := hG2.trans hG3
          have hcut : Cut G3.ro s t true m xs := by
            rw [HXS.out]
            have hu := (HU.out).mono hG3
            rw [HCH.out] at hu
            exact HCUT.out.snoc hle HFK.out HTY.out (by have h := HFL.out; simpa using h) hu
          have hL1 := HLT.out
          refine hK.out _ _ ⟨G3, _, _, hG1.trans hle, rfl, hrf, Cuts.of hcut HXL.out HXK.out, ?_, ?_, ?_, S14.drop⟩
          · rw [List.length_set, HXL.out]; omega
          · rw [List.length_set, HXL.out, Nat.add_mul]; omega
          · rw [List.length_set, HXL.out]
            rcases HKM.out with h | h
            · exact .inl (by omega)
            · exact .inr (by simpa using h)
        by_cases hbk : L = m
        · go_upto_region 14 with (at_builtin; refine st_append rfl _ _ 53 rfl 57 (.agg #[.int .i64 0, .int .i64 0, .int .i64 0, .slice none 0 0]) 4 48 Try.underlying53 info_fr rfl (by omega) _ k _ rfl S9 ⟨w5.heap.size, 0, none⟩ 1 1 [.int .i64 ty, .int .i64 fl, .int .i64 s, .slice U m cu] rfl rfl (alloc_cells _ _ #[.int .i64 ty, .int .i64 fl, .int .i64 s, .slice U m cu] _ (by simp)) rfl (Nat.le_trans (show k + 1 ≤ 140737488351233 by omega) (by decide)) (by omega) ?_; intro v' w' S')
          clear c0 c1 c2 c3 S6 S9
          obtain ⟨xs, hxs⟩ : ∃ xs, xs = F ++ [(ty, fl, s, .slice U m cu)] := ⟨_, rfl⟩
          have hxl : xs.length = k + 1 := by rw [hxs]; simp [HFK.out]
          have hxk : xs[k]? = some (ty, fl, s, .slice U m cu) := by rw [hxs, ← HFK.out]; simp
          have S10 : Sat G2 w' (ownS 57 4 v' xs.length (encs fc xs) :: blk q #[.int .i64 ty, .int .i64 fl, .int .i64 s, .slice U m cu] 57 :: l) := by
            rw [hxl, hxs, encs_append, encs_one]; exact S'
          clear S'
          obtain ⟨g, cap, cur, rfl, hcap, hlay, S11⟩ := S10.layOpen fc_len (by omega)
          rw [hxl]
          have HXS := Lib.hid hxs
          have HXL := Lib.hid hxl
          have HXK := Lib.hid hxk
          have HCAP := Lib.hid hcap
          have d1 := (S11.cell _).trans (hlay.get hxk (j := 1) (by decide))
          simp only [fc, List.getElem?_cons_zero, List.getElem?_cons_succ] at d1
          have f1 := S11.frozen (k * 4 + 1)
          have HLAY := Lib.hid hlay
          clear hxs hxl hxk hcap hlay S10
          go_wp2_with fail
          have hor : bits BinOp.or IntKind.i64 fl 4 = (if k = 0 ∧ true = true then 1 else 0) + 4 := by
            have h := HFL.out
            by_cases hk : k = 0
            · simp [hk] at h; subst h; simp [hk]; try rfl
            · simp [hk] at h; subst h; simp [hk]; try rfl
          rw [hor]
          have hput := HLAY.out.put (x' := (ty, (if k = 0 ∧ true = true then 1 else 0) + 4, s, .slice U m cu)) HXK.out (j := 1) (by decide) (.int .i64 ((if k = 0 ∧ true = true then 1 else 0) + 4)) rfl
          have S12 := S11.setCell (k * 4 + 1) (.int .i64 ((if k = 0 ∧ true = true then 1 else 0) + 4))
          have S13 := S12.layClose hput HCAP.out (k + 1) (by rw [List.length_set, HXL.out])
          rw [List.length_set, HXL.out] at S13
          rw [show k + 1 = (xs.set k (ty, (if k = 0 ∧ true = true then 1 else 0) + 4, s, .slice U m cu)).length by rw [List.length_set, HXL.out]] at S13
          obtain ⟨G3, hG3, S14, hrf⟩ := rfs_of S13
          rw [List.length_set, HXL.out] at hrf
          have hle : G1.le G3 := hG2.trans hG3
          have hcut : Cut G3.ro s t true m xs := by
            rw [HXS.out]
            have hu := (HU.out).mono hG3
            rw [HCH.out] at hu
            exact HCUT.out.snoc hle HFK.out HTY.out (by have h := HFL.out; simpa using h) hu
          have hL1 := HLT.out
          refine hK.out _ _ ⟨G3, _, _, hG1.trans hle, rfl, hrf, Cuts.of hcut HXL.out HXK.out, ?_, ?_, ?_, S14.drop⟩
          · rw [List.length_set, HXL.out]; omega
          · rw [List.length_set, HXL.out, Nat.add_mul]; omega
          · rw [List.length_set, HXL.out]
            rcases HKM.out with h | h
            · exact .inl (by omega)
            · exact .inr (by simpa using h)
        go_wp2_with ((at_builtin; refine st_append rfl _ _ 53 rfl 57 (.agg #[.int .i64 0, .int .i64 0, .int .i64 0, .slice none 0 0]) 4 48 Try.underlying53 info_fr rfl (by omega) _ k _ rfl S9 ⟨w5.heap.size, 0, none⟩ 1 1 [.int .i64 ty, .int .i64 fl, .int .i64 s, .slice U m cu] rfl rfl (alloc_cells _ _ #[.int .i64 ty, .int .i64 fl, .int .i64 s, .slice U m cu] _ (by simp)) rfl (Nat.le_trans (show k + 1 ≤ 140737488351233 by omega) (by decide)) (by omega) ?_; intro v' w' S'); have x0 := (S'.re [1, 0]).cell 0; have x1 := (S'.re [1, 0]).cell 1; have x2 := (S'.re [1, 0]).cell 2; have x3 := (S'.re [1, 0]).cell 3; have y0 := (S'.re [1, 0]).frozen 0; have y1 := (S'.re [1, 0]).frozen 1; have y2 := (S'.re [1, 0]).frozen 2; have y3 := (S'.re [1, 0]).frozen 3)
        have S7 := ((((S'.re [1, 0]).setCell 0 (.int .i64 9)).setCell 1 (.int .i64 0)).setCell 2 (.int .i64 s)).setCell 3 (.slice none 0 0)
        have S8 := S7.re [1, 0]
        clear S' S7 x0 x1 x2 x3 y0 y1 y2 y3 c0 c1 c2 c3 S6 S9
        have hrest := (HR.out.mono hG2).from m (by rw [← HL.out]; exact hml)
        rw [List.drop_drop, ← HL.out, show fromA R rc m = Option.map (fun x => x.add m) R from if_neg hrc, show k * m + m = (k + 1) * m by rw [Nat.add_mul]; omega] at hrest
        have hcut : Cut G2.ro s t true m (F ++ [(ty, fl, s, .slice U m cu)]) := by
          have hu := HU.out
          rw [HCH.out] at hu
          exact HCUT.out.snoc hG2 HFK.out HTY.out (by have h := HFL.out; simpa using h) hu
        go_roundw
        case rel => exact ⟨k + 1, G2, F ++ [(ty, fl, s, .slice U m cu)], 9, 0, .slice none 0 0, hG1.trans hG2, by simp [HFK.out], hcut, by simp, by simp, hrest, ⟨_, _, _, rfl⟩, .inr (by have := HLT.out; rw [Nat.add_mul]; omega), by rw [encs_append, encs_one]; exact S8⟩
        case measure => show L - m < L; omega
      · have hmin : min (m : Int) (L : Int) = (L : Int) := by omega
        have hto := HR.out.to L (by have := HL.out; omega) rc (by omega) (Nat.le_refl _)
        rw [show (t.drop (k * m)).take L = (t.drop (k * m)).take m from by rw [List.take_of_length_le (by rw [← HL.out]; exact Nat.le_refl _), List.take_of_length_le (by rw [← HL.out]; omega)]] at hto
        obtain ⟨chunk, hch⟩ : ∃ chunk, chunk = (t.drop (k * m)).take m := ⟨_, rfl⟩
        have hcl : chunk.length = L := by rw [hch, List.length_take, ← HL.out]; omega
        rw [← hch, ] at hto
        have HCH := Lib.hid hch
        have hbc := bytes_clone S2 (.slice R L rc) chunk (hto.sat S2).1 (by omega)
        rw [hcl] at hbc
        clear hto hch
        have HCL := Lib.hid hcl
        clear hcl
        go_wp2_with fail
        (with_reducible refine hbc.mono ?_)
        clear hbc S2
        rintro e w4 ⟨u, rfl, S3⟩
        rw [← HCL.out] at S3
        obtain ⟨G2, hG2, S4, hu⟩ := S3.ownFrz
        obtain ⟨U, cu, hU, -, -, -⟩ := hu.form
        rw [HCL.out] at hU
        subst hU
        have HU := Lib.hid hu
        clear S3 hu
        have f3 := (S4.re [1, 0]).frozen 3
        have c3 := (S4.re [1, 0]).cell 3
        have S5 : Sat G2 (w4.setCell ⟨q, 3, none⟩ (.slice U L cu)) (blk q #[.int .i64 ty, .int .i64 fl, .int .i64 s, .slice U L cu] 57 :: ownS 57 4 (.slice RO k ro) k (encs fc F) :: l) := (S4.re [1, 0]).setCell 3 (.slice U L cu)
        go_upto_region 11 with fail
        refine wp_world S5 fun w5 S6 => ?_
        clear S4 S5 f3 c3
        have c0 := S6.cell 0
        have c1 := S6.cell 1
        have c2 := S6.cell 2
        have c3 := S6.cell 3
        have S9 : Sat G2 (w5.alloc (.cells #[.int .i64 ty, .int .i64 fl, .int .i64 s, .slice U L cu] 57)) (ownS 57 4 (.slice RO k ro) k (encs fc F) :: blk q #[.int .i64 ty, .int .i64 fl, .int .i64 s, .slice U L cu] 57 :: l) := (S6.alloc (.cells #[.int .i64 ty, .int .i64 fl, .int .i64 s, .slice U L cu] 57)).re [1, 0]
        by_cases hrc : rc = L
        · go_upto_region 14 with (at_builtin; refine st_append rfl _ _ 53 rfl 57 (.agg #[.int .i64 0, .int .i64 0, .int .i64 0, .slice none 0 0]) 4 48 Try.underlying53 info_fr rfl (by omega) _ k _ rfl S9 ⟨w5.heap.size, 0, none⟩ 1 1 [.int .i64 ty, .int .i64 fl, .int .i64 s, .slice U L cu] rfl rfl (alloc_cells _ _ #[.int .i64 ty, .int .i64 fl, .int .i64 s, .slice U L cu] _ (by simp)) rfl (Nat.le_trans (show k + 1 ≤ 140737488351233 by omega) (by decide)) (by omega) ?_; intro v' w' S')
          clear c0 c1 c2 c3 S6 S9
          obtain ⟨xs, hxs⟩ : ∃ xs, xs = F ++ [(ty, fl, s, .slice U L cu)] := ⟨_, rfl⟩
          have hxl : xs.length = k + 1 := by rw [hxs]; simp [HFK.out]
          have hxk : xs[k]? = some (ty, fl, s, .slice U L cu) := by rw [hxs, ← HFK.out]; simp
          have S10 : Sat G2 w' (ownS 57 4 v' xs.length (encs fc xs) :: blk q #[.int .i64 ty, .int .i64 fl, .int .i64 s, .slice U L cu] 57 :: l) := by
            rw [hxl, hxs, encs_append, encs_one]; exact S'
          clear S'
          obtain ⟨g, cap, cur, rfl, hcap, hlay, S11⟩ := S10.layOpen fc_len (by omega)
          rw [hxl]
          have HXS := Lib.hid hxs
          have HXL := Lib.hid hxl
          have HXK := Lib.hid hxk
          have HCAP := Lib.hid hcap
          have d1 := (S11.cell _).trans (hlay.get hxk (j := 1) (by decide))
          simp only [fc, List.getElem?_cons_zero, List.getElem?_cons_succ] at d1
          have f1 := S11.frozen (k * 4 + 1)
          have HLAY := Lib.hid hlay
          clear hxs hxl hxk hcap hlay S10
          go_wp2_with fail
          have hor : bits BinOp.or IntKind.i64 fl 4 = (if k = 0 ∧ true = true then 1 else 0) + 4 := by
            have h := HFL.out
            by_cases hk : k = 0
            · simp [hk] at h; subst h; simp [hk]; try rfl
            · simp [hk] at h; subst h; simp [hk]; try rfl
          rw [hor]
          have hput := HLAY.out.put (x' := (ty, (if k = 0 ∧ true = true then 1 else 0) + 4, s, .slice U L cu)) HXK.out (j := 1) (by decide) (.int .i64 ((if k = 0 ∧ true = true then 1 else 0) + 4)) rfl
          have S12 := S11.setCell (k * 4 + 1) (.int .i64 ((if k = 0 ∧ true = true then 1 else 0) + 4))
          have S13 := S12.layClose hput HCAP.out (k + 1) (by rw [List.length_set, HXL.out])
          rw [List.length_set, HXL.out] at S13
          rw [show k + 1 = (xs.set k (ty, (if k = 0 ∧ true = true then 1 else 0) + 4, s, .slice U L cu)).length by rw [List.length_set, HXL.out]] at S13
          obtain ⟨G3, hG3, S14, hrf⟩ := rfs_of S13
          rw [List.length_set, HXL.out] at hrf
          have hle : G1.le G3 := hG2.trans hG3
          have hcut : Cut G3.ro s t true m xs := by
            rw [HXS.out]
            have hu := (HU.out).mono hG3
            rw [HCH.out] at hu
            exact HCUT.out.snoc hle HFK.out HTY.out (by have h := HFL.out; simpa using h) hu
          have hL1 := HLT.out
          refine hK.out _ _ ⟨G3, _, _, hG1.trans hle, rfl, hrf, Cuts.of hcut HXL.out HXK.out, ?_, ?_, ?_, S14.drop⟩
          · rw [List.length_set, HXL.out]; omega
          · rw [List.length_set, HXL.out, Nat.add_mul]; omega
          · rw [List.length_set, HXL.out]
            rcases HKM.out with h | h
            · exact .inl (by omega)
            · exact .inr (by simpa using h)
        by_cases hbk : L = L
        · go_upto_region 14 with (at_builtin; refine st_append rfl _ _ 53 rfl 57 (.agg #[.int .i64 0, .int .i64 0, .int .i64 0, .slice none 0 0]) 4 48 Try.underlying53 info_fr rfl (by omega) _ k _ rfl S9 ⟨w5.heap.size, 0, none⟩ 1 1 [.int .i64 ty, .int .i64 fl, .int .i64 s, .slice U L cu] rfl rfl (alloc_cells _ _ #[.int .i64 ty, .int .i64 fl, .int .i64 s, .slice U L cu] _ (by simp)) rfl (Nat.le_trans (show k + 1 ≤ 140737488351233 by omega) (by decide)) (by omega) ?_; intro v' w' S')
          clear c0 c1 c2 c3 S6 S9
          obtain ⟨xs, hxs⟩ : ∃ xs, xs = F ++ [(ty, fl, s, .slice U L cu)] := ⟨_, rfl⟩
          have hxl : xs.length = k + 1 := by rw [hxs]; simp [HFK.out]
          have hxk : xs[k]? = some (ty, fl, s, .slice U L cu) := by rw [hxs, ← HFK.out]; simp
          have S10 : Sat G2 w' (ownS 57 4 v' xs.length (encs fc xs) :: blk q #[.int .i64 ty, .int .i64 fl, .int .i64 s, .slice U L cu] 57 :: l) := by
            rw [hxl, hxs, encs_append, encs_one]; exact S'
          clear S'
          obtain ⟨g, cap, cur, rfl, hcap, hlay, S11⟩ := S10.layOpen fc_len (by omega)
          rw [hxl]
          have HXS := Lib.hid hxs
          have HXL := Lib.hid hxl
          have HXK := Lib.hid hxk
          have HCAP := Lib.hid hcap
          have d1 := (S11.cell _).trans (hlay.get hxk (j := 1) (by decide))
          simp only [fc, List.getElem?_cons_zero, List.getElem?_cons_succ] at d1
          have f1 := S11.frozen (k * 4 + 1)
          have HLAY := Lib.hid hlay
          clear hxs hxl hxk hcap hlay S10
          go_wp2_with fail
          have hor : bits BinOp.or IntKind.i64 fl 4 = (if k = 0 ∧ true = true then 1 else 0) + 4 := by
            have h := HFL.out
            by_cases hk : k = 0
            · simp [hk] at h; subst h; simp [hk]; try rfl
            · simp [hk] at h; subst h; simp [hk]; try rfl
          rw [hor]
          have hput := HLAY.out.put (x' := (ty, (if k = 0 ∧ true = true then 1 else 0) + 4, s, .slice U L cu)) HXK.out (j := 1) (by decide) (.int .i64 ((if k = 0 ∧ true = true then 1 else 0) + 4)) rfl
          have S12 := S11.setCell (k * 4 + 1) (.int .i64 ((if k = 0 ∧ true = true then 1 else 0) + 4))
          have S13 := S12.layClose hput HCAP.out (k + 1) (by rw [List.length_set, HXL.out])
          rw [List.length_set, HXL.out] at S13
          rw [show k + 1 = (xs.set k (ty, (if k = 0 ∧ true = true then 1 else 0) + 4, s, .slice U L cu)).length by rw [List.length_set, HXL.out]] at S13
          obtain ⟨G3, hG3, S14, hrf⟩ := rfs_of S13
          rw [List.length_set, HXL.out] at hrf
          have hle : G1.le G3 := hG2.trans hG3
          have hcut : Cut G3.ro s t true m xs := by
            rw [HXS.out]
            have hu := (HU.out).mono hG3
            rw [HCH.out] at hu
            exact HCUT.out.snoc hle HFK.out HTY.out (by have h := HFL.out; simpa using h) hu
          have hL1 := HLT.out
          refine hK.out _ _ ⟨G3, _, _, hG1.trans hle, rfl, hrf, Cuts.of hcut HXL.out HXK.out, ?_, ?_, ?_, S14.drop⟩
          · rw [List.length_set, HXL.out]; omega
          · rw [List.length_set, HXL.out, Nat.add_mul]; omega
          · rw [List.length_set, HXL.out]
            rcases HKM.out with h | h
            · exact .inl (by omega)
            · exact .inr (by simpa using h)
        omega
  | false =>
    rw [he] at hfl0 hK
    obtain rfl : fl0 = 0 := hfl0
    clear he
    go_enter Try.func17, Try.ntmps17
    go_wp2_with fail
    generalize w.heap.size = q at *
    go_loopw [11, 12, 13] (fun o r nn wr => ∃ (k : Nat) (G1 : Gnd) (F : List Fr4) (ty fl : Int) (pv : Value), G.le G1 ∧ F.length = k ∧ Cut G1.ro s t false m F ∧ ty = (if k = 0 then 1 else 9) ∧ fl = (if k = 0 ∧ false = true then 1 else 0) ∧ SlB (Go.Proofs.Ytkjeeogifdmeoaa.cellR G1.ro) r (t.drop (k * m)) ∧ (∃ A n c, pv = .slice A n c) ∧ (k = 0 ∨ k * m < t.length) ∧ Sat G1 wr (ownS 57 4 o k (encs fc F) :: blk q #[.int .i64 ty, .int .i64 fl, .int .i64 s, pv] 57 :: l)) (fun _ r _ _ => match r with | .slice _ n _ => n | _ => 0)
    case atStart => exact ⟨0, G, [], 1, 0, .slice none 0 0, Gnd.le.rfl', rfl, fun i f hf => by simp at hf, rfl, rfl, by simpa using HV.out, ⟨_, _, _, rfl⟩, .inl rfl, S1⟩
    case round =>
      obtain ⟨k, G1, F, ty, fl, pv, hG1, hFk, hcut, hty, hfl, hr, ⟨PA, pn, pc, rfl⟩, hkm, S2⟩ := hrel
      clear S1
      have hkb : k ≤ 1000000 := by
        rcases hkm with h | h
        · omega
        · have := Nat.le_mul_of_pos_right k (show 0 < m by omega)
          omega
      obtain ⟨R, rc, rfl, hr1, hr2, hr3⟩ := hr.form
      have hr4 : rc ≤ 9223372036854775807 := hr2
      obtain ⟨L, hL⟩ : ∃ L, L = (t.drop (k * m)).length := ⟨_, rfl⟩
      have hLt : L = t.length - k * m := by rw [hL, List.length_drop]
      have HR := Lib.hid hr
      have HCUT := Lib.hid hcut
      have HTY := Lib.hid hty
      have HFL := Lib.hid hfl
      have HFK := Lib.hid hFk
      have HKM := Lib.hid hkm
      obtain ⟨RO, ro, rfl, -, -, -⟩ := S2.ownSlice
      rw [← hL] at hr1 ⊢
      have HL := Lib.hid hL
      have HLT := Lib.hid hLt
      have hLb : L ≤ 1000000 := by omega
      clear hr hcut hty hfl hFk hkm hL hLt hr2
      by_cases hml : m ≤ L
      · have hmin : min (m : Int) (L : Int) = (m : Int) := by omega
        have hto := HR.out.to m (by have := HL.out; omega) rc (by omega) (Nat.le_refl _)
        rw [show (t.drop (k * m)).take m = (t.drop (k * m)).take m from rfl] at hto
        obtain ⟨chunk, hch⟩ : ∃ chunk, chunk = (t.drop (k * m)).take m := ⟨_, rfl⟩
        have hcl : chunk.length = m := by rw [hch, List.length_take, ← HL.out]; omega
        rw [← hch, ] at hto
        have HCH := Lib.hid hch
        have hbc := bytes_clone S2 (.slice R m rc) chunk (hto.sat S2).1 (by omega)
        rw [hcl] at hbc
        clear hto hch
        have HCL := Lib.hid hcl
        clear hcl
        go_wp2_with fail
        (with_reducible refine hbc.mono ?_)
        clear hbc S2
        rintro e w4 ⟨u, rfl, S3⟩
        rw [← HCL.out] at S3
        obtain ⟨G2, hG2, S4, hu⟩ := S3.ownFrz
        obtain ⟨U, cu, hU, -, -, -⟩ := hu.form
        rw [HCL.out] at hU
        subst hU
        have HU := Lib.hid hu
        clear S3 hu
        have f3 := (S4.re [1, 0]).frozen 3
        have c3 := (S4.re [1, 0]).cell 3
        have S5 : Sat G2 (w4.setCell ⟨q, 3, none⟩ (.slice U m cu)) (blk q #[.int .i64 ty, .int .i64 fl, .int .i64 s, .slice U m cu] 57 :: ownS 57 4 (.slice RO k ro) k (encs fc F) :: l) := (S4.re [1, 0]).setCell 3 (.slice U m cu)
        go_upto_region 11 with fail
        refine wp_world S5 fun w5 S6 => ?_
        clear S4 S5 f3 c3
        have c0 := S6.cell 0
        have c1 := S6.cell 1
        have c2 := S6.cell 2
        have c3 := S6.cell 3
        have S9 : Sat G2 (w5.alloc (.cells #[.int .i64 ty, .int .i64 fl, .int .i64 s, .slice U m cu] 57)) (ownS 57 4 (.slice RO k ro) k (encs fc F) :: blk q #[.int .i64 ty, .int .i64 fl, .int .i64 s, .slice U m cu] 57 :: l) := (S6.alloc (.cells #[.int .i64 ty, .int .i64 fl, .int .i64 s, .slice U m cu] 57)).re [1, 0]
        by_cases hrc : rc = m
        · go_upto_region 14 with (at_builtin; refine st_append rfl _ _ 53 rfl 57 (.agg #[.int .i64 0, .int .i64 0, .int .i64 0, .slice none 0 0]) 4 48 Try.underlying53 info_fr rfl (by omega) _ k _ rfl S9 ⟨w5.heap.size, 0, none⟩ 1 1 [.int .i64 ty, .int .i64 fl, .int .i64 s, .slice U m cu] rfl rfl (alloc_cells _ _ #[.int .i64 ty, .int .i64 fl, .int .i64 s, .slice U m cu] _ (by simp)) rfl (Nat.le_trans (show k + 1 ≤ 140737488351233 by omega) (by decide)) (by omega) ?_; intro v' w' S')
          clear c0 c1 c2 c3 S6 S9
          obtain ⟨xs, hxs⟩ : ∃ xs, xs = F ++ [(ty, fl, s, .slice U m cu)] := ⟨_, rfl⟩
          have hxl : xs.length = k + 1 := by rw [hxs]; simp [HFK.out]
          have hxk : xs[k]? = some (ty, fl, s, .slice U m cu) := by rw [hxs, ← HFK.out]; simp
          have S10 : Sat G2 w' (ownS 57 4 v' xs.length (encs fc xs) :: blk q #[.int .i64 ty, .int .i64 fl, .int .i64 s, .slice U m cu] 57 :: l) := by
            rw [hxl, hxs, encs_append, encs_one]; exact S'
          clear S'
          obtain ⟨g, cap, cur, rfl, hcap, hlay, S11⟩ := S10.layOpen fc_len (by omega)
          rw [hxl]
          have HXS := Lib.hid hxs
          have HXL := Lib.hid hxl
          have HXK := Lib.hid hxk
          have HCAP := Lib.hid hcap
          have d1 := (S11.cell _).trans (hlay.get hxk (j := 1) (by decide))
          simp only [fc, List.getElem?_cons_zero, List.getElem?_cons_succ] at d1
          have f1 := S11.frozen (k * 4 + 1)
          have HLAY := Lib.hid hlay
          clear hxs hxl hxk hcap hlay S10
          go_wp2_with fail
          have hor : bits BinOp.or IntKind.i64 fl 4 = (if k = 0 ∧ false = true then 1 else 0) + 4 := by
            have h := HFL.out
            by_cases hk : k = 0
            · simp [hk] at h; subst h; simp [hk]; try rfl
            · simp [hk] at h; subst h; simp [hk]; try rfl
          rw [hor]
          have hput := HLAY.out.put (x' := (ty, (if k = 0 ∧ false = true then 1 else 0) + 4, s, .slice U m cu)) HXK.out (j := 1) (by decide) (.int .i64 ((if k = 0 ∧ false = true then 1 else 0) + 4)) rfl
          have S12 := S11.setCell (k * 4 + 1) (.int .i64 ((if k = 0 ∧ false = true then 1 else 0) + 4))
          have S13 := S12.layClose hput HCAP.out (k + 1) (by rw [List.length_set, HXL.out])
          rw [List.length_set, HXL.out] at S13
          rw [show k + 1 = (xs.set k (ty, (if k = 0 ∧ false = true then 1 else 0) + 4, s, .slice U m cu)).length by rw [List.length_set, HXL.out]] at S13
          obtain ⟨G3, hG3, S14, hrf⟩ := rfs_of S13
          rw [List.length_set, HXL.out] at hrf
          have hle : G1.le G3 := hG2.trans hG3
          have hcut : Cut G3.ro s t false m xs := by
            rw [HXS.out]
            have hu := (HU.out).mono hG3
            rw [HCH.out] at hu
            exact HCUT.out.snoc hle HFK.out HTY.out (by have h := HFL.out; simpa using h) hu
          have hL1 := HLT.out
          refine hK.out _ _ ⟨G3, _, _, hG1.trans hle, rfl, hrf, Cuts.of hcut HXL.out HXK.out, ?_, ?_, ?_, S14.drop⟩
          · rw [List.length_set, HXL.out]; omega
          · rw [List.length_set, HXL.out, Nat.add_mul]; omega
          · rw [List.length_set, HXL.out]
            rcases HKM.out with h | h
            · exact .inl (by omega)
            · exact .inr (by simpa using h)
        by_cases hbk : L = m
        · go_upto_region 14 with (at_builtin; refine st_append rfl _ _ 53 rfl 57 (.agg #[.int .i64 0, .int .i64 0, .int .i64 0, .slice none 0 0]) 4 48 Try.underlying53 info_fr rfl (by omega) _ k _ rfl S9 ⟨w5.heap.size, 0, none⟩ 1 1 [.int .i64 ty, .int .i64 fl, .int .i64 s, .slice U m cu] rfl rfl (alloc_cells _ _ #[.int .i64 ty, .int .i64 fl, .int .i64 s, .slice U m cu] _ (by simp)) rfl (Nat.le_trans (show k + 1 ≤ 140737488351233 by omega) (by decide)) (by omega) ?_; intro v' w' S')
          clear c0 c1 c2 c3 S6 S9
          obtain ⟨xs, hxs⟩ : ∃ xs, xs = F ++ [(ty, fl, s, .slice U m cu)] := ⟨_, rfl⟩
          have hxl : xs.length = k + 1 := by rw [hxs]; simp [HFK.out]
          have hxk : xs[k]? = some (ty, fl, s, .slice U m cu) := by rw [hxs, ← HFK.out]; simp
          have S10 : Sat G2 w' (ownS 57 4 v' xs.length (encs fc xs) :: blk q #[.int .i64 ty, .int .i64 fl, .int .i64 s, .slice U m cu] 57 :: l) := by
            rw [hxl, hxs, encs_append, encs_one]; exact S'
          clear S'
          obtain ⟨g, cap, cur, rfl, hcap, hlay, S11⟩ := S10.layOpen fc_len (by omega)
          rw [hxl]
          have HXS := Lib.hid hxs
          have HXL := Lib.hid hxl
          have HXK := Lib.hid hxk
          have HCAP := Lib.hid hcap
          have d1 := (S11.cell _).trans (hlay.get hxk (j := 1) (by decide))
          simp only [fc, List.getElem?_cons_zero, List.getElem?_cons_succ] at d1
          have f1 := S11.frozen (k * 4 + 1)
          have HLAY := Lib.hid hlay
          clear hxs hxl hxk hcap hlay S10
          go_wp2_with fail
          have hor : bits BinOp.or IntKind.i64 fl 4 = (if k = 0 ∧ false = true then 1 else 0) + 4 := by
            have h := HFL.out
            by_cases hk : k = 0
            · simp [hk] at h; subst h; simp [hk]; try rfl
            · simp [hk] at h; subst h; simp [hk]; try rfl
          rw [hor]
          have hput := HLAY.out.put (x' := (ty, (if k = 0 ∧ false = true then 1 else 0) + 4, s, .slice U m cu)) HXK.out (j := 1) (by decide) (.int .i64 ((if k = 0 ∧ false = true then 1 else 0) + 4)) rfl
          have S12 := S11.setCell (k * 4 + 1) (.int .i64 ((if k = 0 ∧ false = true then 1 else 0) + 4))
          have S13 := S12.layClose hput HCAP.out (k + 1) (by rw [List.length_set, HXL.out])
          rw [List.length_set, HXL.out] at S13
          rw [show k + 1 = (xs.set k (ty, (if k = 0 ∧ false = true then 1 else 0) + 4, s, .slice U m cu)).length by rw [List.length_set, HXL.out]] at S13
          obtain ⟨G3, hG3, S14, hrf⟩ := rfs_of S13
          rw [List.length_set, HXL.out] at hrf
          have hle : G1.le G3 := hG2.trans hG3
          have hcut : Cut G3.ro s t false m xs := by
            rw [HXS.out]
            have hu := (HU.out).mono hG3
            rw [HCH.out] at hu
            exact HCUT.out.snoc hle HFK.out HTY.out (by have h := HFL.out; simpa using h) hu
          have hL1 := HLT.out
          refine hK.out _ _ ⟨G3, _, _, hG1.trans hle, rfl, hrf, Cuts.of hcut HXL.out HXK.out, ?_, ?_, ?_, S14.drop⟩
          · rw [List.length_set, HXL.out]; omega
          · rw [List.length_set, HXL.out, Nat.add_mul]; omega
          · rw [List.length_set, HXL.out]
            rcases HKM.out with h | h
            · exact .inl (by omega)
            · exact .inr (by simpa using h)
        go_wp2_with ((at_builtin; refine st_append rfl _ _ 53 rfl 57 (.agg #[.int .i64 0, .int .i64 0, .int .i64 0, .slice none 0 0]) 4 48 Try.underlying53 info_fr rfl (by omega) _ k _ rfl S9 ⟨w5.heap.size, 0, none⟩ 1 1 [.int .i64 ty, .int .i64 fl, .int .i64 s, .slice U m cu] rfl rfl (alloc_cells _ _ #[.int .i64 ty, .int .i64 fl, .int .i64 s, .slice U m cu] _ (by simp)) rfl (Nat.le_trans (show k + 1 ≤ 140737488351233 by omega) (by decide)) (by omega) ?_; intro v' w' S'); have x0 := (S'.re [1, 0]).cell 0; have x1 := (S'.re [1, 0]).cell 1; have x2 := (S'.re [1, 0]).cell 2; have x3 := (S'.re [1, 0]).cell 3; have y0 := (S'.re [1, 0]).frozen 0; have y1 := (S'.re [1, 0]).frozen 1; have y2 := (S'.re [1, 0]).frozen 2; have y3 := (S'.re [1, 0]).frozen 3)
        have S7 := ((((S'.re [1, 0]).setCell 0 (.int .i64 9)).setCell 1 (.int .i64 0)).setCell 2 (.int .i64 s)).setCell 3 (.slice none 0 0)
        have S8 := S7.re [1, 0]
        clear S' S7 x0 x1 x2 x3 y0 y1 y2 y3 c0 c1 c2 c3 S6 S9
        have hrest := (HR.out.mono hG2).from m (by rw [← HL.out]; exact hml)
        rw [List.drop_drop, ← HL.out, show fromA R rc m = Option.map (fun x => x.add m) R from if_neg hrc, show k * m + m = (k + 1) * m by rw [Nat.add_mul]; omega] at hrest
        have hcut : Cut G2.ro s t false m (F ++ [(ty, fl, s, .slice U m cu)]) := by
          have hu := HU.out
          rw [HCH.out] at hu
          exact HCUT.out.snoc hG2 HFK.out HTY.out (by have h := HFL.out; simpa using h) hu
        go_roundw
        case rel => exact ⟨k + 1, G2, F ++ [(ty, fl, s, .slice U m cu)], 9, 0, .slice none 0 0, hG1.trans hG2, by simp [HFK.out], hcut, by simp, by simp, hrest, ⟨_, _, _, rfl⟩, .inr (by have := HLT.out; rw [Nat.add_mul]; omega), by rw [encs_append, encs_one]; exact S8⟩
        case measure => show L - m < L; omega
      · have hmin : min (m : Int) (L : Int) = (L : Int) := by omega
        have hto := HR.out.to L (by have := HL.out; omega) rc (by omega) (Nat.le_refl _)
        rw [show (t.drop (k * m)).take L = (t.drop (k * m)).take m from by rw [List.take_of_length_le (by rw [← HL.out]; exact Nat.le_refl _), List.take_of_length_le (by rw [← HL.out]; omega)]] at hto
        obtain ⟨chunk, hch⟩ : ∃ chunk, chunk = (t.drop (k * m)).take m := ⟨_, rfl⟩
        have hcl : chunk.length = L := by rw [hch, List.length_take, ← HL.out]; omega
        rw [← hch, ] at hto
        have HCH := Lib.hid hch
        have hbc := bytes_clone S2 (.slice R L rc) chunk (hto.sat S2).1 (by omega)
        rw [hcl] at hbc
        clear hto hch
        have HCL := Lib.hid hcl
        clear hcl
        go_wp2_with fail
        (with_reducible refine hbc.mono ?_)
        clear hbc S2
        rintro e w4 ⟨u, rfl, S3⟩
        rw [← HCL.out] at S3
        obtain ⟨G2, hG2, S4, hu⟩ := S3.ownFrz
        obtain ⟨U, cu, hU, -, -, -⟩ := hu.form
        rw [HCL.out] at hU
        subst hU
        have HU := Lib.hid hu
        clear S3 hu
        have f3 := (S4.re [1, 0]).frozen 3
        have c3 := (S4.re [1, 0]).cell 3
        have S5 : Sat G2 (w4.setCell ⟨q, 3, none⟩ (.slice U L cu)) (blk q #[.int .i64 ty, .int .i64 fl, .int .i64 s, .slice U L cu] 57 :: ownS 57 4 (.slice RO k ro) k (encs fc F) :: l) := (S4.re [1, 0]).setCell 3 (.slice U L cu)
        go_upto_region 11 with fail
        refine wp_world S5 fun w5 S6 => ?_
        clear S4 S5 f3 c3
        have c0 := S6.cell 0
        have c1 := S6.cell 1
        have c2 := S6.cell 2
        have c3 := S6.cell 3
        have S9 : Sat G2 (w5.alloc (.cells #[.int .i64 ty, .int .i64 fl, .int .i64 s, .slice U L cu] 57)) (ownS 57 4 (.slice RO k ro) k (encs fc F) :: blk q #[.int .i64 ty, .int .i64 fl, .int .i64 s, .slice U L cu] 57 :: l) := (S6.alloc (.cells #[.int .i64 ty, .int .i64 fl, .int .i64 s, .slice U L cu] 57)).re [1, 0]
        by_cases hrc : rc = L
        · go_upto_region 14 with (at_builtin; refine st_append rfl _ _ 53 rfl 57 (.agg #[.int .i64 0, .int .i64 0, .int .i64 0, .slice none 0 0]) 4 48 Try.underlying53 info_fr rfl (by omega) _ k _ rfl S9 ⟨w5.heap.size, 0, none⟩ 1 1 [.int .i64 ty, .int .i64 fl, .int .i64 s, .slice U L cu] rfl rfl (alloc_cells _ _ #[.int .i64 ty, .int .i64 fl, .int .i64 s, .slice U L cu] _ (by simp)) rfl (Nat.le_trans (show k + 1 ≤ 140737488351233 by omega) (by decide)) (by omega) ?_; intro v' w' S')
          clear c0 c1 c2 c3 S6 S9
          obtain ⟨xs, hxs⟩ : ∃ xs, xs = F ++ [(ty, fl, s, .slice U L cu)] := ⟨_, rfl⟩
          have hxl : xs.length = k + 1 := by rw [hxs]; simp [HFK.out]
          have hxk : xs[k]? = some (ty, fl, s, .slice U L cu) := by rw [hxs, ← HFK.out]; simp
          have S10 : Sat G2 w' (ownS 57 4 v' xs.length (encs fc xs) :: blk q #[.int .i64 ty, .int .i64 fl, .int .i64 s, .slice U L cu] 57 :: l) := by
            rw [hxl, hxs, encs_append, encs_one]; exact S'
          clear S'
          obtain ⟨g, cap, cur, rfl, hcap, hlay, S11⟩ := S10.layOpen fc_len (by omega)
          rw [hxl]
          have HXS := Lib.hid hxs
          have HXL := Lib.hid hxl
          have HXK := Lib.hid hxk
          have HCAP := Lib.hid hcap
          have d1 := (S11.cell _).trans (hlay.get hxk (j := 1) (by decide))
          simp only [fc, List.getElem?_cons_zero, List.getElem?_cons_succ] at d1
          have f1 := S11.frozen (k * 4 + 1)
          have HLAY := Lib.hid hlay
          clear hxs hxl hxk hcap hlay S10
          go_wp2_with fail
          have hor : bits BinOp.or IntKind.i64 fl 4 = (if k = 0 ∧ false = true then 1 else 0) + 4 := by
            have h := HFL.out
            by_cases hk : k = 0
            · simp [hk] at h; subst h; simp [hk]; try rfl
            · simp [hk] at h; subst h; simp [hk]; try rfl
          rw [hor]
          have hput := HLAY.out.put (x' := (ty, (if k = 0 ∧ false = true then 1 else 0) + 4, s, .slice U L cu)) HXK.out (j := 1) (by decide) (.int .i64 ((if k = 0 ∧ false = true then 1 else 0) + 4)) rfl
          have S12 := S11.setCell (k * 4 + 1) (.int .i64 ((if k = 0 ∧ false = true then 1 else 0) + 4))
          have S13 := S12.layClose hput HCAP.out (k + 1) (by rw [List.length_set, HXL.out])
          rw [List.length_set, HXL.out] at S13
          rw [show k + 1 = (xs.set k (ty, (if k = 0 ∧ false = true then 1 else 0) + 4, s, .slice U L cu)).length by rw [List.length_set, HXL.out]] at S13
          obtain ⟨G3, hG3, S14, hrf⟩ := rfs_of S13
          rw [List.length_set, HXL.out] at hrf
          have hle : G1.le G3 := hG2.trans hG3
          have hcut : Cut G3.ro s t false m xs := by
            rw [HXS.out]
            have hu := (HU.out).mono hG3
            rw [HCH.out] at hu
            exact HCUT.out.snoc hle HFK.out HTY.out (by have h := HFL.out; simpa using h) hu
          have hL1 := HLT.out
          refine hK.out _ _ ⟨G3, _, _, hG1.trans hle, rfl, hrf, Cuts.of hcut HXL.out HXK.out, ?_, ?_, ?_, S14.drop⟩
          · rw [List.length_set, HXL.out]; omega
          · rw [List.length_set, HXL.out, Nat.add_mul]; omega
          · rw [List.length_set, HXL.out]
            rcases HKM.out with h | h
            · exact .inl (by omega)
            · exact .inr (by simpa using h)
        by_cases hbk : L = L
        · go_upto_region 14 with (at_builtin; refine st_append rfl _ _ 53 rfl 57 (.agg #[.int .i64 0, .int .i64 0, .int .i64 0, .slice none 0 0]) 4 48 Try.underlying53 info_fr rfl (by omega) _ k _ rfl S9 ⟨w5.heap.size, 0, none⟩ 1 1 [.int .i64 ty, .int .i64 fl, .int .i64 s, .slice U L cu] rfl rfl (alloc_cells _ _ #[.int .i64 ty, .int .i64 fl, .int .i64 s, .slice U L cu] _ (by simp)) rfl (Nat.le_trans (show k + 1 ≤ 140737488351233 by omega) (by decide)) (by omega) ?_; intro v' w' S')
          clear c0 c1 c2 c3 S6 S9
          obtain ⟨xs, hxs⟩ : ∃ xs, xs = F ++ [(ty, fl, s, .slice U L cu)] := ⟨_, rfl⟩
          have hxl : xs.length = k + 1 := by rw [hxs]; simp [HFK.out]
          have hxk : xs[k]? = some (ty, fl, s, .slice U L cu) := by rw [hxs, ← HFK.out]; simp
          have S10 : Sat G2 w' (ownS 57 4 v' xs.length (encs fc xs) :: blk q #[.int .i64 ty, .int .i64 fl, .int .i64 s, .slice U L cu] 57 :: l) := by
            rw [hxl, hxs, encs_append, encs_one]; exact S'
          clear S'
          obtain ⟨g, cap, cur, rfl, hcap, hlay, S11⟩ := S10.layOpen fc_len (by omega)
          rw [hxl]
          have HXS := Lib.hid hxs
          have HXL := Lib.hid hxl
          have HXK := Lib.hid hxk
          have HCAP := Lib.hid hcap
          have d1 := (S11.cell _).trans (hlay.get hxk (j := 1) (by decide))
          simp only [fc, List.getElem?_cons_zero, List.getElem?_cons_succ] at d1
          have f1 := S11.frozen (k * 4 + 1)
          have HLAY := Lib.hid hlay
          clear hxs hxl hxk hcap hlay S10
          go_wp2_with fail
          have hor : bits BinOp.or IntKind.i64 fl 4 = (if k = 0 ∧ false = true then 1 else 0) + 4 := by
            have h := HFL.out
            by_cases hk : k = 0
            · simp [hk] at h; subst h; simp [hk]; try rfl
            · simp [hk] at h; subst h; simp [hk]; try rfl
          rw [hor]
          have hput := HLAY.out.put (x' := (ty, (if k = 0 ∧ false = true then 1 else 0) + 4, s, .slice U L cu)) HXK.out (j := 1) (by decide) (.int .i64 ((if k = 0 ∧ false = true then 1 else 0) + 4)) rfl
          have S12 := S11.setCell (k * 4 + 1) (.int .i64 ((if k = 0 ∧ false = true then 1 else 0) + 4))
          have S13 := S12.layClose hput HCAP.out (k + 1) (by rw [List.length_set, HXL.out])
          rw [List.length_set, HXL.out] at S13
          rw [show k + 1 = (xs.set k (ty, (if k = 0 ∧ false = true then 1 else 0) + 4, s, .slice U L cu)).length by rw [List.length_set, HXL.out]] at S13
          obtain ⟨G3, hG3, S14, hrf⟩ := rfs_of S13
          rw [List.length_set, HXL.out] at hrf
          have hle : G1.le G3 := hG2.trans hG3
          have hcut : Cut G3.ro s t false m xs := by
            rw [HXS.out]
            have hu := (HU.out).mono hG3
            rw [HCH.out] at hu
            exact HCUT.out.snoc hle HFK.out HTY.out (by have h := HFL.out; simpa using h) hu
          have hL1 := HLT.out
          refine hK.out _ _ ⟨G3, _, _, hG1.trans hle, rfl, hrf, Cuts.of hcut HXL.out HXK.out, ?_, ?_, ?_, S14.drop⟩
          · rw [List.length_set, HXL.out]; omega
          · rw [List.length_set, HXL.out, Nat.add_mul]; omega
          · rw [List.length_set, HXL.out]
            rcases HKM.out with h | h
            · exact .inl (by omega)
            · exact .inr (by simpa using h)
        omega
end
end Go.Proofs.Ytkjeeogifdmeoaa
