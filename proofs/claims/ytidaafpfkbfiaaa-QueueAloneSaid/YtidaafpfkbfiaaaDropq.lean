/- The walks over Drop and Clear. -/
import Derived.Test.YtidaafpfkbfiaaaCutq
set_option linter.unusedSimpArgs false
set_option linter.unusedVariables false
namespace Go.Proofs.Ytidaafpfkbfiaaa
open Go.RowKit

theorem is_num {p : Nat} {w : World} (num n : Int) (A : Option Addr) (a c : Nat) (D : Option Addr) (b d : Nat) (hp : w.cell? ⟨p, 0, none⟩ = some (.int .i64 num)) : Calls Try.prog 32 #[.agg #[.int .i64 n, .slice A a c, .slice D b d], .pointer (some ⟨p, 0, none⟩)] w fun e w' => e = .returned (.bool (n == num)) ∧ Below w.heap.size w w' := by
  refine calls_any fun K hK => ?_
  have BB : ∀ o, Below w.heap.size w (w.alloc o) := fun o => (Below.refl _ _).alloc (Nat.le_refl _) o
  have hp2 : ∀ o, (w.alloc o).cell? ⟨p, 0, none⟩ = some (.int .i64 num) := fun o => by rw [World.cell?_alloc_some _ _ _ (by rw [hp]; rfl)]; exact hp
  go_enter Try.func32, Try.ntmps32
  go_wp2_with fail
  exact hK.out _ _ ⟨rfl, BB _⟩
def hasNum (num : Int) (f : Qe) : Bool := f.n == num
/-- What IndexFunc tells: the first item's place that has the number. -/
def IdxRes (F : List Qe) (num : Int) (e : Ending) : Prop :=
  (e = .returned (.int .i64 (-1)) ∧ ∀ f ∈ F, (f.n == num) = false) ∨ (∃ i : Nat, i < F.length ∧ e = .returned (.int .i64 i) ∧ (∀ f ∈ F.take i, (f.n == num) = false) ∧ ∃ f, F[i]? = some f ∧ (f.n == num) = true)
theorem take_snoc {α : Type} {F : List α} {i : Nat} {x : α} (h : F[i]? = some x) : F.take (i + 1) = F.take i ++ [x] := by
  have hi := (List.getElem?_eq_some_iff.1 h).1
  have he := (List.getElem?_eq_some_iff.1 h).2
  rw [List.take_succ_eq_append_getElem hi, he]
section
variable {G : Gnd} {w w' : World} {l : List Asrt} {q : Nat} {Q : List (List It)} {B I : Int}
set_option maxHeartbeats 1000000 in
theorem idx_items {g cap p : Nat} {cur : Array Value} {F : List Qe} {num : Int} (S : Sat G w (blk g cur 24 :: blk p #[.int .i64 num] 3 :: l)) (L : Lay Qe.enc 3 cap cur F) (hc : cap ≤ maxLen) (hok : ∀ e ∈ F, e.ok G.ro) :
    Calls Try.prog 31 #[.slice (some ⟨g, 0, none⟩) F.length cap, .func (.func 32) #[] #[.pointer (some ⟨p, 0, none⟩)]] w fun e w' => IdxRes F num e ∧ Sat G w' (blk g cur 24 :: blk p #[.int .i64 num] 3 :: l) := by
  refine calls_any fun K hK => ?_
  have hc3 : cap ≤ 9223372036854775807 := hc
  have hlc := L.len
  have HL := Lib.hid L
  have HOK := Lib.hid hok
  clear L hok hc
  go_enter Try.func31, Try.ntmps31
  go_wp2_with fail
  go_loopw [8] (fun i wr => ∃ k : Nat, k ≤ F.length ∧ i = .int .i64 k ∧ (∀ f ∈ F.take k, (f.n == num) = false) ∧ Sat G wr (blk g cur 24 :: blk p #[.int .i64 num] 3 :: l)) (fun i _ => F.length - (intOf i).toNat)
  case atStart => exact ⟨0, Nat.zero_le _, rfl, by simp, S⟩
  case round =>
    obtain ⟨k, hk, rfl, hno, S2⟩ := hrel
    clear S
    have HNO := Lib.hid hno
    clear hno
    by_cases hlt : k < F.length
    · have hfk := List.getElem?_eq_getElem hlt
      obtain ⟨A, a, D, d, e1, e2⟩ := qe_slices (HOK.out F[k] (List.getElem_mem hlt))
      have d0 := (S2.cell _).trans (HL.out.get hfk (j := 0) (by decide))
      have d1 := (S2.cell _).trans (HL.out.get hfk (j := 1) (by decide))
      have d2 := (S2.cell _).trans (HL.out.get hfk (j := 2) (by decide))
      have hp := S2.swap.cell 0
      have HFK := Lib.hid hfk
      clear hfk
      simp only [Qe.enc, List.getElem?_cons_zero, List.getElem?_cons_succ, Nat.add_zero] at d0 d1 d2
      rw [e1] at d1
      rw [e2] at d2
      clear e1 e2
      generalize hfx : F[k] = fx at *
      have HFX := Lib.hid hfx
      clear hfx
      generalize fx.h.length = hn at *
      generalize fx.b.length = bn at *
      have hcl := is_num num fx.n A hn a D bn d hp
      cases hb : (fx.n == num) with
      | true =>
        rw [hb] at hcl
        have HFB : Hid (hasNum num fx = true) := Lib.hid hb
        clear hb hp
        generalize fx.n = n at *
        go_wp2_with fail
        (with_reducible refine hcl.mono ?_)
        rintro e w2 ⟨rfl, hb2⟩
        have S3 := S2.below hb2
        clear S2 hb2 d0 d1 d2
        go_wp2_with fail
        exact hK.out _ _ ⟨.inr ⟨k, hlt, rfl, HNO.out, fx, HFK.out, HFB.out⟩, S3⟩
      | false =>
        rw [hb] at hcl
        have HFB : Hid (hasNum num fx = false) := Lib.hid hb
        clear hb hp
        generalize fx.n = n at *
        go_wp2_with fail
        (with_reducible refine hcl.mono ?_)
        rintro e w2 ⟨rfl, hb2⟩
        have S3 := S2.below hb2
        clear S2 hb2 d0 d1 d2
        go_wp2_with fail
        go_roundw
        case rel => exact ⟨k + 1, by omega, by go_num, fun f hf => by
          rw [take_snoc HFK.out] at hf
          rcases List.mem_append.1 hf with hf | hf
          · exact HNO.out f hf
          · rw [List.mem_singleton.1 hf]; exact HFB.out, S3⟩
        case measure => simp [intOf]; omega
    · obtain rfl : k = F.length := by omega
      rw [List.take_length] at HNO
      go_wp2_with fail
      exact hK.out _ _ ⟨.inl ⟨rfl, HNO.out⟩, S2⟩
theorem idx_none (A : Option Addr) (c p : Nat) (w : World) : Calls Try.prog 31 #[.slice A 0 c, .func (.func 32) #[] #[.pointer (some ⟨p, 0, none⟩)]] w fun e w' => e = .returned (.int .i64 (-1)) ∧ w = w' := by
  refine calls_any fun K hK => ?_
  go_enter Try.func31, Try.ntmps31
  go_wp2_with fail
  go_loop [8] (fun i => i = .int .i64 0) (fun _ => 0)
  case atStart => exact rfl
  case round =>
    subst hrel
    go_wp2_with fail
    exact hK.out _ _ ⟨rfl, rfl⟩
/-- The list without the first item of a number. -/
def dropL (num : Int) : List It → List It
  | [] => []
  | x :: L => if (x.1 == num) = true then L else x :: dropL num L
theorem dropL_none {F : List Qe} {num : Int} (h : ∀ f ∈ F, (f.n == num) = false) : dropL num (F.map Qe.abs) = F.map Qe.abs := by
  induction F with
  | nil => rfl
  | cons x F ih =>
    have := h x (.head _)
    rw [List.map_cons, dropL, show (Qe.abs x).1 = x.n from rfl, this, if_neg (by simp), ih fun f hf => h f (.tail _ hf)]
theorem dropL_at {num : Int} : ∀ {F : List Qe} {i : Nat} {f : Qe}, F[i]? = some f → (f.n == num) = true → (∀ f ∈ F.take i, (f.n == num) = false) → dropL num (F.map Qe.abs) = (F.take i ++ F.drop (i + 1)).map Qe.abs
  | [], i, f, h, _, _ => by simp at h
  | x :: F, 0, f, h, hb, _ => by
    simp at h; subst h
    rw [List.map_cons, dropL, show (Qe.abs x).1 = x.n from rfl, hb, if_pos rfl]
    rfl
  | x :: F, i + 1, f, h, hb, hno => by
    have hx := hno x (by simp)
    rw [List.map_cons, dropL, show (Qe.abs x).1 = x.n from rfl, hx, if_neg (by simp), dropL_at (i := i) (by simpa using h) hb fun f hf => hno f (by simp [hf])]
    simp
theorem dropL_le (num : Int) : ∀ L : List It, qsz (dropL num L) ≤ qsz L ∧ (dropL num L).length ≤ L.length
  | [] => ⟨Nat.le_refl _, Nat.le_refl _⟩
  | x :: L => by
    have := dropL_le num L
    rw [dropL]
    split
    · rw [qsz_cons]; exact ⟨by omega, by simp⟩
    · rw [qsz_cons, qsz_cons]; exact ⟨by omega, by simp; omega⟩
theorem qu_drop_not (H : Sat G w (quA q Q B I :: l)) (t num : Int) (ht : t < 0 ∨ (Q.length : Int) ≤ t) : Calls Try.prog 25 #[.pointer (some ⟨q, 0, none⟩), .int .i64 t, .int .i64 num] w fun e w' => e = .returned (.bool false) ∧ Sat G w' (quA q Q B I :: l) := by
  refine calls_any fun K hK => ?_
  have S1 := H.newBlk #[.int .i64 num] 3
  obtain ⟨X, cap, hc⟩ := qu_lines S1.swap
  have ho := qu_of_not (v := .bool true) hc t ht
  have HS := Lib.hid S1
  clear H S1 hc ht
  go_enter Try.func25, Try.ntmps25
  go_wp2_with fail
  (with_reducible refine ho.mono ?_)
  rintro e w1 ⟨rfl, rfl⟩
  go_wp2_with fail
  exact hK.out _ _ ⟨rfl, HS.out.drop⟩
set_option maxHeartbeats 4000000 in
set_option maxRecDepth 100000 in
theorem qu_drop (H : Sat G w (quA q Q B I :: l)) (hw : QWf Q B I) (t : Nat) (ht : t < Q.length) (num : Int) : Calls Try.prog 25 #[.pointer (some ⟨q, 0, none⟩), .int .i64 t, .int .i64 num] w fun e w' => e = .returned (.bool (decide ((dropL num (Q.getD t [])).length < (Q.getD t []).length))) ∧ Sat G w' (quA q (Q.set t (dropL num (Q.getD t []))) B I :: l) := by
  refine calls_any fun K hK => ?_
  have hat := hw.at_ t
  have hb1 := hw.b1
  have hi1 := hw.i1
  have hm64 := hw.m1
  have S1 := H.newBlk #[.int .i64 num] 3
  obtain ⟨M, g, cap, cur, ⟨xv, xL⟩, hM, hml, hL, hcap, hx, hxL, S⟩ := qu_open S1.swap t ht
  simp only at hxL
  obtain ⟨F, hF, hFo, S2⟩ := ln_iff.1 S
  simp only at hF S2
  subst hxL
  have hlt : t < M.length := by omega
  have q0 : (w.alloc (.cells #[.int .i64 num] 3)).cell? ⟨q, 0, none⟩ = some (.slice (some ⟨g, 0, none⟩) M.length cap) := S.pull2.cell 0
  obtain ⟨k0', k1', ksz⟩ := lay_two hL hx
  simp only at k0' k1'
  have hof := qu_of q0 t (by omega) (by omega)
  have k0 : (w.alloc (.cells #[.int .i64 num] 3)).cell? ⟨g, t * 2, none⟩ = some xv := (S.swap.cell (t * 2)).trans k0'
  have hFl : F.length = (Q.getD t []).length := by rw [← hF, List.length_map]
  -- what comes of it
  have hsame : dropL num (Q.getD t []) = Q.getD t [] → Sat G (w.alloc (.cells #[.int .i64 num] 3)) (quA q (Q.set t (dropL num (Q.getD t []))) B I :: l) := fun h => by rw [h, set_getD ht]; exact S1.drop
  cases hF0 : F with
  | nil =>
    subst hF0
    obtain ⟨A, c, rfl, -, -, -⟩ := S2.ownSlice
    have hdn : dropL num (Q.getD t []) = Q.getD t [] := by rw [← hF]; rfl
    rw [show decide ((dropL num (Q.getD t [])).length < (Q.getD t []).length) = false from decide_eq_false (by rw [hdn]; omega)] at hK
    have HS := Lib.hid (hsame hdn)
    have hix := fun W => idx_none A c w.heap.size W
    clear S S2 S1 H hsame hF hFo hL hx k0' k1' q0 hdn hat hFl
    go_enter Try.func25, Try.ntmps25
    go_wp2_with fail
    (with_reducible refine hof.mono ?_)
    clear hof
    rintro e w1 ⟨rfl, rfl⟩
    go_wp2_with fail
    (with_reducible refine (hix _).mono ?_)
    clear hix
    rintro e w1 ⟨rfl, rfl⟩
    go_wp2_with fail
    exact hK.out _ _ ⟨rfl, HS.out⟩
  | cons y F' =>
    have hF1 : 0 < F.length := by rw [hF0]; simp
    clear hF0
    obtain ⟨gi, cpi, ci, rfl, hcpi, Li, S0⟩ := S2.layOpen qe_len hF1
    have S3 : Sat G (w.alloc (.cells #[.int .i64 num] 3)) (blk gi ci 24 :: blk w.heap.size #[.int .i64 num] 3 :: blk g cur 62 :: blk q #[.slice (some ⟨g, 0, none⟩) M.length cap, .int .i64 B, .int .i64 I] 57 :: ((M.take t).map lnA ++ ((M.drop (t + 1)).map lnA ++ l))) := by
      have T : Sat G (w.alloc (.cells #[.int .i64 num] 3)) (([blk gi ci 24, blk g cur 62, blk q #[.slice (some ⟨g, 0, none⟩) M.length cap, .int .i64 B, .int .i64 I] 57] ++ ((M.take t).map lnA ++ (M.drop (t + 1)).map lnA)) ++ blk w.heap.size #[.int .i64 num] 3 :: l) := by simpa [restA] using S0
      have T2 := T.mid
      simpa using T2.swap
    have hix := idx_items S3 Li hcpi hFo
    have HLI := Lib.hid Li
    have HFO := Lib.hid hFo
    have HF := Lib.hid hF
    have HFL := Lib.hid hFl
    have HLL := Lib.hid hL
    have HX := Lib.hid hx
    have HK0 := Lib.hid k0'
    have HK1 := Lib.hid k1'
    have hfl4 : F.length ≤ 4096 := by omega
    have hqz : qsz (Q.getD t []) ≤ 1048576 := by omega
    clear S S0 S1 S2 S3 H hF hL hx k0' k1' hsame hFl Li hFo hat
    go_enter Try.func25, Try.ntmps25
    go_wp2_with fail
    (with_reducible refine hof.mono ?_)
    clear hof
    rintro e w1 ⟨rfl, rfl⟩
    go_wp2_with fail
    (with_reducible refine hix.mono ?_)
    clear hix q0 k0
    rintro e w1 ⟨hres, S4⟩
    rcases hres with ⟨rfl, hno⟩ | ⟨i, hi, rfl, hno, f, hf, hb⟩
    · have hdn : dropL num (Q.getD t []) = Q.getD t [] := by rw [← HF.out]; exact dropL_none hno
      rw [show decide ((dropL num (Q.getD t [])).length < (Q.getD t []).length) = false from decide_eq_false (by rw [hdn]; omega), hdn, set_getD ht] at hK
      have T := (S4.re [0, 2, 3, 1]).layClose HLI.out hcpi F.length rfl
      have T2 := qu_shut2 ((Sat.pur_iff.2 ⟨trivial, T.re [3, 1, 2, 0]⟩ : Sat G _ (pur True :: _)).swap) rfl rfl hM hlt (by rw [set_same HX.out]; exact HLL.out) hcap HF.out HFO.out
      rw [set_getD ht] at T2
      have HT := Lib.hid T2.drop2.drop2
      clear S4 T T2 hno hdn
      go_wp2_with fail
      exact hK.out _ _ ⟨rfl, HT.out⟩
    · have hdn := dropL_at hf hb hno
      rw [HF.out] at hdn
      have T := (S4.re [0, 2, 3, 1]).layClose HLI.out hcpi F.length rfl
      have hiz : isz f.abs ≤ qsz (Q.getD t []) := it_bytes hw (by rw [← HF.out]; exact List.mem_map_of_mem (List.mem_of_getElem? hf))
      have hgn := ln_gone T HK0.out HK1.out HFO.out hfl4 hf hiz hqz
      have hlen : (dropL num (Q.getD t [])).length < (Q.getD t []).length := by
        rw [hdn, List.length_map, ← HFL.out, List.length_append, List.length_take, List.length_drop]; omega
      rw [decide_eq_true hlen] at hK
      have hqd : qsz (Q.getD t []) - isz f.abs = qsz (dropL num (Q.getD t [])) := by
        have e1 : F = F.take i ++ f :: F.drop (i + 1) := by
          have h1 := (List.getElem?_eq_some_iff.1 hf).2
          rw [← h1, ← List.drop_eq_getElem_cons, List.take_append_drop]
        have e2 : qsz (Q.getD t []) = qsz (F.map Qe.abs) := by rw [HF.out]
        rw [e2, hdn]
        conv => lhs; rw [e1]
        rw [List.map_append, List.map_cons, qsz_append, qsz_cons, List.map_append, qsz_append]; omega
      have HDN := Lib.hid hdn
      have HQD := Lib.hid hqd
      have hi0 : ¬ ((i : Int) < 0) := by omega
      have HFO2 : Hid (∀ e ∈ F.take i ++ F.drop (i + 1), e.ok G.ro) := Lib.hid fun e he => by
        rcases List.mem_append.1 he with he | he
        · exact HFO.out e (List.mem_of_mem_take he)
        · exact HFO.out e (List.mem_of_mem_drop he)
      clear S4 T hno hdn hqd hf hb hiz
      go_wp2_with fail
      (with_reducible refine hgn.mono ?_)
      clear hgn
      rintro e w2 ⟨v', rfl, S5⟩
      go_wp2_with fail
      have T := S5.re [0, 1, 2, 3]
      have T2 := qu_shut2 (F := F.take i ++ F.drop (i + 1)) ((Sat.pur_iff.2 ⟨trivial, T.re [3, 1, 2, 0]⟩ : Sat G _ (pur True :: _)).swap) rfl rfl hM hlt (lay_put HLL.out hlt ⟨v', dropL num (Q.getD t [])⟩ _ (by rw [HQD.out])) hcap HDN.out.symm HFO2.out
      exact hK.out _ _ ⟨rfl, T2.drop2.drop2⟩
end
end Go.Proofs.Ytidaafpfkbfiaaa
