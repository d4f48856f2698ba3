/- outbound: the sender as it lies in memory; what it tells. outbound: shift takes the first note of a list. outbound: cut and give. outbound: give (no gift waits). outbound: an event of a stream that stays; we send no more of a stream. outbound: body sends a cell of a stream that has something left. outbound: what holds of a sender behind an opening. -/
import Derived.Test.YtcecfhfbcdbofaaGreatDoorG5
import Derived.Deep.Cut
import Derived.LoopTactic
set_option linter.unusedSimpArgs false
set_option linter.unusedVariables false
namespace Go.Proofs.YtcecfhfbcdbofaaGreatDoor
open Go.RowKit
attribute [local go_sem] Oper.semAt_some

/-- A live stream: where it lies, its window, its item's number, what is left. -/
structure Sm where
  id : Int
  p : Nat
  win : Int
  num : Int
  bs : List UInt8
  op : Bool
deriving DecidableEq
def Sm.kp (x : Sm) : Int × Nat := (x.id, x.p)
def stA (x : Sm) : Asrt := ⟨fun R h => ∃ v, SlB (cellR R) v x.bs ∧ (blk x.p #[.int .i64 x.win, .int .i64 x.num, v, .bool x.op] 108).p R h,
  fun hR ⟨v, h1, h2⟩ => ⟨v, h1.up hR, (blk x.p #[.int .i64 x.win, .int .i64 x.num, v, .bool x.op] 108).mono hR h2⟩⟩
def strA (M : List Sm) : Asrt := star (M.map stA)
def nenc (x : Int × Int) : List Value := [.int .i64 x.1, .int .i64 x.2]
theorem nenc_len (x : Int × Int) : (nenc x).length = 2 := rfl
structure Cn where
  v : Value
  L : List (Int × Int)
def cenc (x : Cn) : List Value := [x.v]
theorem cenc_len (x : Cn) : (cenc x).length = 1 := rfl
def cnA (x : Cn) : Asrt := ownS 100 2 x.v x.L.length (encs nenc x.L)
/-- Lists of notes, one for each tenant. -/
def ctA (cv : Value) (D : List (List (Int × Int))) : Asrt := ex fun N : List Cn => star (pur (N.map Cn.L = D) :: ownS 98 1 cv N.length (encs cenc N) :: N.map cnA)
structure Oc where
  ten : Nat
  cell : Int
  byt : Int
  itm : Int
  str : Int
structure Os where
  Q : List (List It)
  F : List Ent
  L : List Int
  rl : Int
  C : List Int
  M : List Sm
  D : List (List (Int × Int))
  last : Int
structure Ad where
  q : Nat
  g : Nat
  p : Nat
  mb : Nat
  cv : Value
  gv : Value
def obC (c : Oc) (a : Ad) (last : Int) : Array Value := #[.int .i64 c.ten, .int .i64 c.cell, .int .i64 c.byt, .int .i64 c.itm, .int .i64 c.str, .pointer (some ⟨a.q, 0, none⟩), .pointer (some ⟨a.g, 0, none⟩), .pointer (some ⟨a.p, 0, none⟩), .map (some a.mb), a.cv, a.gv, .int .i64 65535, .int .i64 c.str, .int .i64 last]
def noG (n : Nat) : List Value := List.replicate n (.slice none 0 0)
def outA (o : Nat) (c : Oc) (s : Os) : Asrt := ex fun a : Ad => star [blk o (obC c a s.last) 72, quA a.q s.Q c.byt c.itm, rgA a.g c.ten c.str s.F s.L s.rl, crA a.p s.C 0, mpA a.mb (s.M.map Sm.kp), strA s.M, ctA a.cv s.D, ownS 98 1 a.gv c.ten (noG c.ten)]
section
variable {G : Gnd} {w w' : World} {l : List Asrt} {o : Nat} {c : Oc} {s : Os}
theorem st_iff {x : Sm} : Sat G w (stA x :: l) ↔ ∃ v, SlB (cellR G.ro) v x.bs ∧ Sat G w (blk x.p #[.int .i64 x.win, .int .i64 x.num, v, .bool x.op] 108 :: l) := by
  constructor
  · rintro ⟨a, b', c, lo, d, h, f, k, h1, h2, x1, x2, x3, ⟨v, p1, p2⟩, z⟩
    exact ⟨v, p1, a, b', c, lo, d, h, f, k, h1, h2, x1, x2, x3, p2, z⟩
  · rintro ⟨v, p1, H⟩
    exact H.conv fun h hb => ⟨v, p1, hb⟩
theorem str_cons {x : Sm} {M : List Sm} : Sat G w (strA (x :: M) :: l) ↔ Sat G w (stA x :: strA M :: l) := by
  unfold strA
  rw [Sat.star_iff, List.map_cons, List.cons_append]
  constructor
  · intro H
    have H2 : Sat G w ((M.map stA ++ l) ++ [stA x]) := H.perm (List.perm_append_comm (l₁ := [stA x]) (l₂ := M.map stA ++ l))
    rw [List.append_assoc] at H2
    have H3 := Sat.star_iff.2 H2
    have H4 : Sat G w ([star (M.map stA)] ++ (l ++ [stA x])) := H3
    exact H4.perm (by rw [← List.append_assoc]; exact List.perm_append_comm (l₁ := [star (M.map stA)] ++ l) (l₂ := [stA x]))
  · intro H
    have H2 := H.swap
    have H3 := Sat.star_iff.1 H2
    exact H3.perm List.perm_middle
theorem str_perm {M N : List Sm} (h : M.Perm N) (H : Sat G w (strA M :: l)) : Sat G w (strA N :: l) :=
  Sat.star_iff.2 ((Sat.star_iff.1 H).perm ((h.map stA).append_right l))
theorem mp_perm {b : Nat} {M N : List (Int × Nat)} (h : M.Perm N) (H : Sat G w (mpA b M :: l)) : Sat G w (mpA b N :: l) := by
  obtain ⟨es, clock, hf, S⟩ := mp_iff.1 H
  exact mp_iff.2 ⟨es, clock, ⟨hf.1, hf.2.1.trans (h.map mEnc), fun x hx => hf.2.2 x (h.mem_iff.2 hx)⟩, S⟩
theorem mp_nodup {b : Nat} {M : List (Int × Nat)} (H : Sat G w (mpA b M :: l)) : (M.map (·.1)).Nodup := by
  obtain ⟨es, clock, hf, S⟩ := mp_iff.1 H
  exact fit_nodup hf
theorem ct_iff {cv : Value} {D : List (List (Int × Int))} : Sat G w (ctA cv D :: l) ↔ ∃ N : List Cn, N.map Cn.L = D ∧ Sat G w (ownS 98 1 cv N.length (encs cenc N) :: (N.map cnA ++ l)) := by
  unfold ctA
  simp only [Sat.ex_iff, Sat.star_iff, List.cons_append, Sat.pur_iff]
theorem out_iff : Sat G w (outA o c s :: l) ↔ ∃ a : Ad, Sat G w (blk o (obC c a s.last) 72 :: quA a.q s.Q c.byt c.itm :: rgA a.g c.ten c.str s.F s.L s.rl :: crA a.p s.C 0 :: mpA a.mb (s.M.map Sm.kp) :: strA s.M :: ctA a.cv s.D :: ownS 98 1 a.gv c.ten (noG c.ten) :: l) := by
  unfold outA
  simp only [Sat.ex_iff, Sat.star_iff, List.cons_append, List.nil_append]
/-- Which stream has a number. -/
def smAt (M : List Sm) (k : Int) : Option Sm := M.find? fun x => x.id == k
theorem mpAt_eq (M : List Sm) (k : Int) : mpAt (M.map Sm.kp) k = match smAt M k with | some x => .pointer (some ⟨x.p, 0, none⟩) | none => .pointer none := by
  unfold mpAt smAt
  rw [List.find?_map]
  have : ((fun x : Int × Nat => x.1 == k) ∘ Sm.kp) = fun x : Sm => x.id == k := rfl
  rw [this]
  cases M.find? fun x => x.id == k <;> rfl
/-- What a sender holds. -/
structure OWf (c : Oc) (s : Os) : Prop where
  t0 : 1 ≤ c.ten
  t1 : c.ten ≤ 64
  c0 : 16 ≤ c.cell
  c1 : c.cell ≤ 256
  q : QWf s.Q c.byt c.itm
  ql : s.Q.length = c.ten
  r : RWf c.ten c.str s.F s.L s.rl
  rf : Rising s.F
  rb : ∀ x ∈ s.F, ∀ y ∈ x.C, 0 ≤ y ∧ y ≤ 1000
  cg : Good s.C
  cl : s.C.length = c.ten
  ml : s.M.length ≤ 10000
  mw : ∀ x ∈ s.M, 0 ≤ x.win ∧ x.win ≤ 65535 ∧ x.bs.length ≤ 1048576
  mi : ∀ x ∈ s.M, 1 ≤ x.id ∧ x.id ≤ 2147483647 ∧ x.id % 2 = 1
  dl : s.D.length = c.ten
  dn : ∀ X ∈ s.D, X.length ≤ 10000 ∧ ∀ x ∈ X, 1 ≤ x.1 ∧ x.1 ≤ 2147483647 ∧ 0 ≤ x.2 ∧ x.2 ≤ 1000000
theorem OWf.len (h : OWf c s) : s.L.length = c.ten := by have := h.r.len; omega
theorem ob_streams (H : Sat G w (outA o c s :: l)) (hw : OWf c s) (t : Int) : Calls Tryz.prog 14 #[.pointer (some ⟨o, 0, none⟩), .int .i64 t] w fun e w' => e = .returned (.int .i64 (liveAt s.L t)) ∧ w = w' := by
  refine calls_any fun K hK => ?_
  obtain ⟨a, S⟩ := out_iff.1 H
  have k6 : w.cell? ⟨o, 6, none⟩ = some (.pointer (some ⟨a.g, 0, none⟩)) := S.cell 6
  have hl := rg_live (Sat.re S [2, 0, 1]) hw.r.len t
  clear H S hw
  go_enter Tryz.func14, Tryz.ntmps14
  go_wp2_with fail
  (with_reducible refine hl.mono ?_)
  rintro e w1 ⟨rfl, rfl⟩
  go_wp2_with fail
  exact hK.out _ _ ⟨rfl, rfl⟩
theorem ob_queued (H : Sat G w (outA o c s :: l)) (hw : OWf c s) (t : Int) : Calls Tryz.prog 16 #[.pointer (some ⟨o, 0, none⟩), .int .i64 t] w fun e w' => e = .returned (.int .i64 (qsz (qAt s.Q t))) ∧ w = w' := by
  refine calls_any fun K hK => ?_
  obtain ⟨a, S⟩ := out_iff.1 H
  have k5 : w.cell? ⟨o, 5, none⟩ = some (.pointer (some ⟨a.q, 0, none⟩)) := S.cell 5
  have hl := qu_bytes S.swap hw.q t
  clear H S hw
  go_enter Tryz.func16, Tryz.ntmps16
  go_wp2_with fail
  (with_reducible refine hl.mono ?_)
  rintro e w1 ⟨rfl, rfl⟩
  go_wp2_with fail
  exact hK.out _ _ ⟨rfl, rfl⟩
theorem ob_last (H : Sat G w (outA o c s :: l)) : Calls Tryz.prog 10 #[.pointer (some ⟨o, 0, none⟩)] w fun e w' => e = .returned (.int .i64 s.rl) ∧ w = w' := by
  refine calls_any fun K hK => ?_
  obtain ⟨a, S⟩ := out_iff.1 H
  have k6 : w.cell? ⟨o, 6, none⟩ = some (.pointer (some ⟨a.g, 0, none⟩)) := S.cell 6
  have hl := rg_last (Sat.re S [2, 0, 1])
  clear H S
  go_enter Tryz.func10, Tryz.ntmps10
  go_wp2_with fail
  (with_reducible refine hl.mono ?_)
  rintro e w1 ⟨rfl, rfl⟩
  go_wp2_with fail
  exact hK.out _ _ ⟨rfl, rfl⟩
theorem smAt_mem {M : List Sm} {k : Int} {x : Sm} (h : smAt M k = some x) : x ∈ M ∧ x.id = k := ⟨List.mem_of_find?_eq_some h, by simpa using List.find?_some h⟩
/-- A stream's four cells. -/
theorem st_cells {x : Sm} {M : List Sm} (H : Sat G w (strA M :: l)) (hx : x ∈ M) : ∃ A n, w.cell? ⟨x.p, 0, none⟩ = some (.int .i64 x.win) ∧ w.cell? ⟨x.p, 1, none⟩ = some (.int .i64 x.num) ∧ w.cell? ⟨x.p, 2, none⟩ = some (.slice A x.bs.length n) ∧ w.cell? ⟨x.p, 3, none⟩ = some (.bool x.op) := by
  have S := str_cons.1 (str_perm (List.perm_cons_erase hx) H)
  obtain ⟨v, hv, S1⟩ := st_iff.1 S
  obtain ⟨A, n, rfl, -⟩ := hv.form
  exact ⟨A, n, S1.cell 0, S1.cell 1, S1.cell 2, S1.cell 3⟩
def leftOfS (M : List Sm) (k : Int) : Int := match smAt M k with | some x => (x.bs.length : Int) | none => 0
theorem ob_left (H : Sat G w (outA o c s :: l)) (k : Int) (hk : (Lit.int .i64 k).wf = true) : Calls Tryz.prog 24 #[.pointer (some ⟨o, 0, none⟩), .int .i64 k] w fun e w' => e = .returned (.int .i64 (leftOfS s.M k)) ∧ w = w' := by
  refine calls_any fun K hK => ?_
  obtain ⟨a, S⟩ := out_iff.1 H
  have k8 : w.cell? ⟨o, 8, none⟩ = some (.map (some a.mb)) := S.cell 8
  have hlk := mp_look (Sat.re S [4, 0, 1, 2, 3]) k hk
  rw [mpAt_eq] at hlk
  unfold leftOfS at hK
  cases hm : smAt s.M k with
  | none =>
    rw [hm] at hlk hK
    simp only at hlk hK
    clear H S hm
    go_enter Tryz.func24, Tryz.ntmps24
    go_wp2_with fail
    exact hK.out _ _ ⟨rfl, rfl⟩
  | some x =>
    obtain ⟨A, n, -, -, z2, -⟩ := st_cells (Sat.re S [5, 0, 1, 2, 3, 4]) (smAt_mem hm).1
    rw [hm] at hlk hK
    simp only at hlk hK
    clear H S hm
    generalize x.bs.length = N at *
    go_enter Tryz.func24, Tryz.ntmps24
    go_wp2_with fail
    exact hK.out _ _ ⟨rfl, rfl⟩
end
end Go.Proofs.YtcecfhfbcdbofaaGreatDoor
set_option linter.unusedSimpArgs false
set_option linter.unusedVariables false
namespace Go.Proofs.YtcecfhfbcdbofaaGreatDoor
open Go.RowKit
attribute [local go_sem] Oper.semAt_some

theorem nslice_is_nil (A : Option Addr) (n c : Nat) (w : World) : (binOp .eql 98 (.slice A n c) (.slice none 0 0)).run Tryz.prog w = .ok (.bool A.isNone) w := by
  simp [binOp, run_equal_slice_nil w 98 100 A n c Tryz.underlying98]
theorem info_nt : (Tryz.prog.info? 100).map (fun i => (i.zero, i.size, i.bytes)) = some (some (.agg #[.int .i64 0, .int .i64 0]), 2, 16) := by kernel_rfl
theorem note_one (X : List (Int × Int)) : (encs nenc X).all (·.oneCell') = true := by
  rw [List.all_eq_true]
  intro u hu
  simp only [encs, List.mem_flatMap] at hu
  obtain ⟨x, -, hx⟩ := hu
  simp only [nenc, List.mem_cons, List.not_mem_nil, or_false] at hx
  rcases hx with rfl | rfl <;> rfl
section
variable {G : Gnd} {w w' : World} {l : List Asrt}
set_option maxHeartbeats 2000000 in
theorem note_clone {b off cap : Nat} {X : List (Int × Int)} (H : Sat G w l) (hw : ∀ W, Sat G W l → ∀ j u, (encs nenc X)[j]? = some u → W.cell? ((⟨b, off, none⟩ : Addr).add j) = some u) (h1 : X.length ≤ 100000) :
    Calls Tryz.prog 92 #[.slice (some ⟨b, off, none⟩) X.length cap] w fun e w' => ∃ v', e = .returned v' ∧ Sat G w' (ownS 100 2 v' X.length (encs nenc X) :: l) := by
  refine calls_any fun K hK => ?_
  have hl : (encs nenc X).length = X.length * 2 := encs_length nenc_len X
  have hnil := nslice_is_nil (some ⟨b, off, none⟩) X.length cap w
  have S1 := (H.newBlk #[] 100).ownBlk (size := 2) 0 rfl (Nat.zero_le _)
  have hw := Lib.hid (hw _ S1.drop)
  have HL1 : Hid ((encs nenc X).length = X.length * 2) := Lib.hid hl
  have HL3 := Lib.hid (note_one X)
  obtain ⟨N, hN⟩ : ∃ N, N = X.length := ⟨_, rfl⟩
  rw [← hN] at hK HL1 h1 hnil ⊢
  generalize encs nenc X = E at *
  clear H hl hN
  go_enter Tryz.func92, Tryz.ntmps92
  go_wp2_with (at_builtin; refine st_append rfl _ _ 98 rfl 100 (.agg #[.int .i64 0, .int .i64 0]) 2 16 Tryz.underlying98 info_nt rfl (by omega) _ 0 [] rfl S1 ⟨b, off, none⟩ N cap E rfl HL1.out hw.out HL3.out (Nat.le_trans (show 0 + N ≤ 100000 by omega) (by decide)) (by omega) ?_; intro v' w' S')
  have S2 : Sat G w' (ownS 100 2 v' N E :: l) := by simpa using S'
  exact hK.out _ _ ⟨v', rfl, S2⟩
set_option maxHeartbeats 4000000 in
set_option maxRecDepth 100000 in
theorem ob_shift {q j : Nat} {cells : Array Value} {v : Value} {X : List (Int × Int)} (H : Sat G w (blk q cells 98 :: ownS 100 2 v X.length (encs nenc X) :: l)) (hj : cells[j]? = some v) (hX : X.length ≤ 10000) :
    Calls Tryz.prog 65 #[.pointer (some ⟨q, j, none⟩)] w fun e w' => ∃ v', e = .returned (.tuple #[.agg #[.int .i64 (X.headD (0, 0)).1, .int .i64 (X.headD (0, 0)).2], .bool (!X.isEmpty)]) ∧ Sat G w' (blk q (cells.setIfInBounds j v') 98 :: ownS 100 2 v' X.tail.length (encs nenc X.tail) :: l) := by
  refine calls_any fun K hK => ?_
  have hz : w.cell? ⟨q, j, none⟩ = some v := (H.cell j).trans hj
  cases X with
  | nil =>
    obtain ⟨A, cp, rfl, -⟩ := H.swap.ownSlice
    simp only [List.headD_nil, List.isEmpty_nil, Bool.not_true, List.tail_nil] at hK
    have S1 := H.newBlk #[.int .i64 0, .int .i64 0] 100
    have hz1 : (w.alloc (.cells #[.int .i64 0, .int .i64 0] 100)).cell? ⟨q, j, none⟩ = some _ := (S1.swap.cell j).trans hj
    have HS := Lib.hid S1
    have hset : cells.setIfInBounds j (.slice A 0 cp) = cells := set_same hj
    have HSET := Lib.hid hset
    clear H S1 hj hset
    go_enter Tryz.func65, Tryz.ntmps65
    go_wp2_with fail
    refine bodyPost_ret (results_cell_t rfl _ _ _ _ _ _ rfl HS.out.blk_at Tryz.underlying100 rfl (by kernel_rfl)) rfl ?_
    exact hK.out _ _ ⟨_, rfl, by rw [HSET.out]; exact HS.out.drop⟩
  | cons x L =>
    obtain ⟨x0, x1⟩ := x
    simp only [List.headD_cons, List.isEmpty_cons, Bool.not_false, List.tail_cons] at hK
    obtain ⟨hl, ⟨-, hn0, -⟩ | ⟨b, cap, cur, rfl, hc, hm, hs, ht, S0⟩⟩ := own_iff.1 H.swap
    · simp at hn0
    have hcur : ∀ j u, (encs nenc ((x0, x1) :: L))[j]? = some u → cur[j]? = some u := fun j u hu => by
      rw [← ht, List.getElem?_take] at hu
      split at hu
      · simpa using hu
      · cases hu
    have he : encs nenc ((x0, x1) :: L) = .int .i64 x0 :: .int .i64 x1 :: encs nenc L := rfl
    rw [he] at hcur
    have S1 := (S0.newBlk #[.int .i64 0, .int .i64 0] 100).newBlk #[.int .i64 x0, .int .i64 x1] 100
    rw [World.size_alloc] at S1
    have y0 := (S0.cell 0).trans (hcur 0 _ rfl)
    have y1 := (S0.cell 1).trans (hcur 1 _ rfl)
    have z0 := ((S0.newBlk #[.int .i64 0, .int .i64 0] 100).swap.cell 0).trans (hcur 0 _ rfl)
    have z1 := ((S0.newBlk #[.int .i64 0, .int .i64 0] 100).swap.cell 1).trans (hcur 1 _ rfl)
    have zq := (Sat.re (S0.newBlk #[.int .i64 0, .int .i64 0] 100) [2, 0, 1]).cell j |>.trans hj
    have zr := (Sat.re S1 [3, 0, 1, 2]).cell j |>.trans hj
    simp only [List.length_cons] at hX hc hj hz zq zr
    have hcl : ∀ off cp, (off = 2 ∨ L = []) → _ := fun off cp hof => note_clone (b := b) (off := off) (cap := cp) (X := L) S1 (fun W S k u hk => by
      rcases hof with rfl | rfl
      · rw [show (⟨b, 2, none⟩ : Addr).add k = ⟨b, 2 + k, none⟩ from by unfold Addr.add; split <;> simp_all, (Sat.re S [2, 0, 1]).cell]
        exact hcur _ _ (by rw [Nat.add_comm 2 k]; exact hk)
      · cases hk) (by omega)
    have hcm : cap ≤ 9223372036854775807 := hm
    have HJ := Lib.hid hj
    obtain ⟨N, hN⟩ : ∃ N, N = L.length := ⟨_, rfl⟩
    rw [← hN] at hcl hX hc hz zq zr hK
    have hN0 : N = 0 → L = [] := fun h => List.eq_nil_of_length_eq_zero (by omega)
    have hN1 : IntKind.i64.wrap ((N : Int) + 1) = ((N + 1 : Nat) : Int) := by rw [IntWalk.i64_in _ (by omega)]; omega
    have hnz : ((N : Int) + 1 == 0) = false := beq_eq_false_iff_ne.2 (by omega)
    clear H hl hs ht S0 S1 hcur he hj hN hm
    by_cases hcap : cap = 1
    · subst hcap
      obtain rfl : N = 0 := by omega
      have hcl := hcl 0 0 (.inr (hN0 rfl))
      clear hN0
      go_enter Tryz.func65, Tryz.ntmps65
      go_wp2_with fail
      ((with_reducible refine hcl.mono ?_); (rintro e w3 ⟨v', rfl, S3⟩); (obtain ⟨A9, c9, rfl, -⟩ := S3.ownSlice); (have T := Sat.re S3 [4, 0, 1, 2, 3]); (have e0 := T.cell j |>.trans HJ.out); (have f0 := T.frozen j); (have T2 := Sat.re (T.setCell j (.slice A9 0 c9)) [2, 3, 0, 1, 4]); (have d0 := T2.cell 0); (have d1 := T2.cell 1); (have d2 := T2.swap.cell 0); (have d3 := T2.swap.cell 1); (have d4 := T2.swap.frozen 0); (have d5 := T2.swap.frozen 1); (have HS := Lib.hid ((T2.swap.setCell 0 (.int .i64 x0)).setCell 1 (.int .i64 x1))); (clear S3 T T2 hcl y0 y1 z0 z1 zq zr hz); go_wp2_with fail; refine bodyPost_ret (results_cell_t rfl _ _ _ _ _ _ rfl HS.out.blk_at Tryz.underlying100 rfl (by kernel_rfl)) rfl ?_; exact hK.out _ _ ⟨_, rfl, (Sat.re HS.out.drop.drop [2, 0, 1]).drop⟩)
    · have hcl := hcl 2 (cap - 1) (.inl rfl)
      clear hN0
      go_enter Tryz.func65, Tryz.ntmps65
      go_wp2_with fail
      ((with_reducible refine hcl.mono ?_); (rintro e w3 ⟨v', rfl, S3⟩); (obtain ⟨A9, c9, rfl, -⟩ := S3.ownSlice); (have T := Sat.re S3 [4, 0, 1, 2, 3]); (have e0 := T.cell j |>.trans HJ.out); (have f0 := T.frozen j); (have T2 := Sat.re (T.setCell j (.slice A9 N c9)) [2, 3, 0, 1, 4]); (have d0 := T2.cell 0); (have d1 := T2.cell 1); (have d2 := T2.swap.cell 0); (have d3 := T2.swap.cell 1); (have d4 := T2.swap.frozen 0); (have d5 := T2.swap.frozen 1); (have HS := Lib.hid ((T2.swap.setCell 0 (.int .i64 x0)).setCell 1 (.int .i64 x1))); (clear S3 T T2 hcl y0 y1 z0 z1 zq zr hz); go_wp2_with fail; refine bodyPost_ret (results_cell_t rfl _ _ _ _ _ _ rfl HS.out.blk_at Tryz.underlying100 rfl (by kernel_rfl)) rfl ?_; exact hK.out _ _ ⟨_, rfl, (Sat.re HS.out.drop.drop [2, 0, 1]).drop⟩)
end
end Go.Proofs.YtcecfhfbcdbofaaGreatDoor
set_option linter.unusedSimpArgs false
set_option linter.unusedVariables false
namespace Go.Proofs.YtcecfhfbcdbofaaGreatDoor
open Go.RowKit
attribute [local go_sem] Oper.semAt_some

section
variable {G : Gnd} {w w' : World} {l : List Asrt} {o : Nat} {c : Oc} {s : Os}
theorem ct_open {cv : Value} {D : List (List (Int × Int))} (H : Sat G w (ctA cv D :: l)) {t : Nat} (ht : t < D.length) : ∃ g cap cur v R, cv = .slice (some ⟨g, 0, none⟩) D.length cap ∧ cap ≤ maxLen ∧ cur[t]? = some v ∧
    Sat G w (blk g cur 98 :: ownS 100 2 v (D.getD t []).length (encs nenc (D.getD t [])) :: (R ++ l)) ∧
    ∀ G' W l' v' X, Sat G' W (blk g (cur.setIfInBounds t v') 98 :: ownS 100 2 v' X.length (encs nenc X) :: (R ++ l')) → Sat G' W (ctA cv (D.set t X) :: l') := by
  obtain ⟨N, hN, S⟩ := ct_iff.1 H
  have hl : N.length = D.length := by rw [← hN, List.length_map]
  obtain ⟨g, cap, cur, rfl, hc, hL, S2⟩ := S.layOpen cenc_len (by omega)
  have htN : t < N.length := by omega
  have hx : N[t]? = some N[t] := List.getElem?_eq_getElem htN
  have hX : D.getD t [] = N[t].L := by rw [← hN, List.getD_eq_getElem?_getD, List.getElem?_map, hx]; rfl
  have e : N.map cnA = (N.take t).map cnA ++ cnA N[t] :: (N.drop (t + 1)).map cnA := by
    conv => lhs; rw [← List.take_append_drop t N, List.map_append, List.drop_eq_getElem_cons htN, List.map_cons]
  refine ⟨g, cap, cur, N[t].v, (N.take t).map cnA ++ (N.drop (t + 1)).map cnA, by rw [hl], hc, ?_, ?_, ?_⟩
  · have := hL.get hx (j := 0) (by decide)
    simpa [cenc] using this
  · rw [hX]
    rw [e] at S2
    have S3 : Sat G w (([blk g cur 98] ++ (N.take t).map cnA) ++ cnA N[t] :: ((N.drop (t + 1)).map cnA ++ l)) := by simpa using S2
    have S4 := S3.mid
    have S5 : Sat G w (cnA N[t] :: blk g cur 98 :: ((N.take t).map cnA ++ (N.drop (t + 1)).map cnA ++ l)) := by simpa using S4
    exact S5.swap
  · intro G' W l' v' X S3
    refine ct_iff.2 ⟨N.set t ⟨v', X⟩, by rw [List.map_set, hN], ?_⟩
    have hs := hL.set htN ⟨v', X⟩
    have hs2 : Lay cenc 1 cap (cur.setIfInBounds t v') (N.set t ⟨v', X⟩) := by
      have e3 : setMid cur (t * 1) (cenc ⟨v', X⟩) = cur.setIfInBounds t v' := by rw [Nat.mul_one]; rfl
      rw [e3] at hs; exact hs
    have S4 : Sat G' W (cnA ⟨v', X⟩ :: (([blk g (cur.setIfInBounds t v') 98] ++ (N.take t).map cnA) ++ ((N.drop (t + 1)).map cnA ++ l'))) := by
      have := S3.swap
      simpa [cnA] using this
    have S5 := S4.dim
    have e2 : (N.set t ⟨v', X⟩).map cnA = (N.take t).map cnA ++ cnA ⟨v', X⟩ :: (N.drop (t + 1)).map cnA := by
      rw [List.set_eq_take_append_cons_drop, if_pos htN]; simp
    have S6 : Sat G' W (blk g (cur.setIfInBounds t v') 98 :: ((N.set t ⟨v', X⟩).map cnA ++ l')) := by rw [e2]; simpa using S5
    have S7 := S6.layClose hs2 hc N.length (by rw [List.length_set])
    exact S7
theorem ob_shift_nil {q j cp : Nat} {A : Option Addr} (H : Sat G w l) (hz : ∀ W, Sat G W l → W.cell? ⟨q, j, none⟩ = some (.slice A 0 cp)) :
    Calls Tryz.prog 65 #[.pointer (some ⟨q, j, none⟩)] w fun e w' => e = .returned (.tuple #[.agg #[.int .i64 0, .int .i64 0], .bool false]) ∧ Sat G w' l := by
  refine calls_any fun K hK => ?_
  have S1 := H.newBlk #[.int .i64 0, .int .i64 0] 100
  have hz0 := hz _ H
  have hz1 := hz _ S1.drop
  have HS := Lib.hid S1
  clear H S1 hz
  go_enter Tryz.func65, Tryz.ntmps65
  go_wp2_with fail
  refine bodyPost_ret (results_cell_t rfl _ _ _ _ _ _ rfl HS.out.blk_at Tryz.underlying100 rfl (by kernel_rfl)) rfl ?_
  exact hK.out _ _ ⟨rfl, HS.out.drop⟩
def cutN (n : Int) : Nat := (n - 100).toNat
set_option maxHeartbeats 8000000 in
set_option maxRecDepth 100000 in
theorem ob_cut (H : Sat G w (outA o c s :: l)) (hw : OWf c s) (t : Nat) (ht : t < c.ten) :
    Calls Tryz.prog 48 #[.pointer (some ⟨o, 0, none⟩), .int .i64 t] w fun e w' => ∃ G' v, G.le G' ∧ SlB (Go.Proofs.YtcecfhfbcdbofaaGreatDoor.cellR G'.ro) v (bigOf (cutN ((s.D.getD t []).headD (0, 0)).2) 4) ∧
      e = .returned (.tuple #[.agg #[.int .i64 3, .int .i64 0, .int .i64 ((s.D.getD t []).headD (0, 0)).1, v, .int .i64 4, .int .i64 t, .int .i64 ((s.D.getD t []).headD (0, 0)).1, .int .i64 0, .int .i64 0], .bool (!(s.D.getD t []).isEmpty)]) ∧
      Sat G' w' (outA o c { s with D := s.D.set t (s.D.getD t []).tail } :: l) := by
  refine calls_any fun K hK => ?_
  obtain ⟨a, S⟩ := out_iff.1 H
  have htD : t < s.D.length := by rw [hw.dl]; exact ht
  have S0 : Sat G w (ctA a.cv s.D :: (blk o (obC c a s.last) 72 :: quA a.q s.Q c.byt c.itm :: rgA a.g c.ten c.str s.F s.L s.rl :: crA a.p s.C 0 :: mpA a.mb (s.M.map Sm.kp) :: strA s.M :: ownS 98 1 a.gv c.ten (noG c.ten) :: l)) := Sat.re S [6, 0, 1, 2, 3, 4, 5, 7]
  obtain ⟨g, cap, cur, v0, R, hcv, hcm, hct, S1, HCL⟩ := ct_open S0 htD
  rw [hw.dl] at hcv
  have hXm : s.D.getD t [] ∈ s.D := by rw [List.getD_eq_getElem?_getD, List.getElem?_eq_getElem htD]; exact List.getElem_mem htD
  have hXb := hw.dn _ hXm
  obtain ⟨X, hX⟩ : ∃ X, X = s.D.getD t [] := ⟨_, rfl⟩
  rw [← hX] at hK S1 hXb
  have hx1 : 0 ≤ (X.headD (0, 0)).2 ∧ (X.headD (0, 0)).2 ≤ 1000000 := by
    cases X with
    | nil => simp
    | cons x L => exact (hXb.2 x (by simp)).2.2
  have S2 := S1.newBlk #[.int .i64 0, .int .i64 0, .int .i64 0, .slice none 0 0, .int .i64 0, .int .i64 0, .int .i64 0, .int .i64 0, .int .i64 0] 86
  have k9 : (w.alloc (.cells #[.int .i64 0, .int .i64 0, .int .i64 0, .slice none 0 0, .int .i64 0, .int .i64 0, .int .i64 0, .int .i64 0, .int .i64 0] 86)).cell? ⟨o, 9, none⟩ = some (.slice (some ⟨g, 0, none⟩) c.ten cap) := by
    have := (Sat.mid (blk w.heap.size #[.int .i64 0, .int .i64 0, .int .i64 0, .slice none 0 0, .int .i64 0, .int .i64 0, .int .i64 0, .int .i64 0, .int .i64 0] 86 :: blk g cur 98 :: ownS 100 2 v0 X.length (encs nenc X) :: R) S2).cell 9
    rw [show (obC c a s.last)[9]? = some a.cv from rfl, hcv] at this
    exact this
  have hsh := ob_shift (show Sat G _ (blk g cur 98 :: ownS 100 2 v0 X.length (encs nenc X) :: (blk w.heap.size #[.int .i64 0, .int .i64 0, .int .i64 0, .slice none 0 0, .int .i64 0, .int .i64 0, .int .i64 0, .int .i64 0, .int .i64 0] 86 :: (R ++ (blk o (obC c a s.last) 72 :: quA a.q s.Q c.byt c.itm :: rgA a.g c.ten c.str s.F s.L s.rl :: crA a.p s.C 0 :: mpA a.mb (s.M.map Sm.kp) :: strA s.M :: ownS 98 1 a.gv c.ten (noG c.ten) :: l)))) from Sat.re S2 [1, 2, 0]) hct hXb.1
  have HCL2 : Hid (∀ G' W v' L', Sat G' W (blk g (cur.setIfInBounds t v') 98 :: ownS 100 2 v' L'.length (encs nenc L') :: (R ++ (blk o (obC c a s.last) 72 :: quA a.q s.Q c.byt c.itm :: rgA a.g c.ten c.str s.F s.L s.rl :: crA a.p s.C 0 :: mpA a.mb (s.M.map Sm.kp) :: strA s.M :: ownS 98 1 a.gv c.ten (noG c.ten) :: l))) → Sat G' W (outA o c { s with D := s.D.set t L' } :: l)) := Lib.hid fun G' W v' L' S => out_iff.2 ⟨a, Sat.re (HCL _ _ _ _ _ S) [1, 2, 3, 4, 5, 6, 0, 7]⟩
  obtain ⟨RL, hRL⟩ : ∃ RL : List Asrt, RL = R ++ (blk o (obC c a s.last) 72 :: quA a.q s.Q c.byt c.itm :: rgA a.g c.ten c.str s.F s.L s.rl :: crA a.p s.C 0 :: mpA a.mb (s.M.map Sm.kp) :: strA s.M :: ownS 98 1 a.gv c.ten (noG c.ten) :: l) := ⟨_, rfl⟩
  rw [← hRL] at hsh HCL2
  obtain ⟨x0, hx0⟩ : ∃ x0, x0 = (X.headD (0, 0)).1 := ⟨_, rfl⟩
  obtain ⟨x1, hx1e⟩ : ∃ x1, x1 = (X.headD (0, 0)).2 := ⟨_, rfl⟩
  obtain ⟨ok, hok⟩ : ∃ ok, ok = !X.isEmpty := ⟨_, rfl⟩
  rw [← hx0, ← hx1e, ← hok] at hK hsh
  rw [← hx1e] at hx1
  have HT := Lib.hid (And.intro ht hw.t1)
  have hti : (t : Int) < (c.ten : Int) := by omega
  have htc : t < c.ten := ht
  have hcm2 : c.ten ≤ 9223372036854775807 := by have := hw.t1; omega
  clear H S S0 S1 S2 HCL hRL hct hXm hXb hcv htD hX hx0 hx1e hok hw ht
  go_enter Tryz.func48, Tryz.ntmps48
  go_wp2_with fail
  (with_reducible refine hsh.mono ?_)
  rintro e w1 ⟨v', rfl, S3⟩
  clear hsh k9
  go_upto_region 2 with (fail)
  generalize w.heap.size = r at *
  have S4 := S3.newBlk #[.int .i64 x0, .int .i64 x1] 100
  generalize w1.heap.size = q6 at *
  refine wp_world S4 fun W S5 => ?_
  clear S3 S4
  obtain ⟨E, hE⟩ : ∃ E : List Asrt, E = blk g (cur.setIfInBounds t v') 98 :: ownS 100 2 v' X.tail.length (encs nenc X.tail) :: blk r #[.int .i64 0, .int .i64 0, .int .i64 0, .slice none 0 0, .int .i64 0, .int .i64 0, .int .i64 0, .int .i64 0, .int .i64 0] 86 :: RL := ⟨_, rfl⟩
  rw [← hE] at S5
  have HE := Lib.hid hE
  clear hE
  obtain ⟨m, hm⟩ : ∃ m, m = cutN x1 := ⟨_, rfl⟩
  rw [← hm] at hK
  have hms : m ≤ 1000000 := by rw [hm]; unfold cutN; omega
  have hmx : max (x1 - 100) 0 = (m : Int) := by rw [hm]; unfold cutN; omega
  have hsb : IntKind.i64.wrap (x1 - 100) = x1 - 100 := IntWalk.i64_in _ (by omega)
  clear hm
  refine wp_act fun a0 ha0 => ?_
  have HSZ : a0.tmps.size = 35 := by rw [ha0]; rfl
  have E6 : a0.eval (.tmp 6) = .pointer (some ⟨q6, 0, none⟩) := by rw [ha0]; rfl
  refine wp_region_J (by kernel_rfl) 11 (by kernel_rfl) [[], [0], [], [2], [3], [4], [5], [6], [1, 7], [], [9, 8, 7, 0, 1, 2, 3, 4, 5, 6, 7, 8, 9]] (by kernel_rfl) (by kernel_rfl) (fun f a' W => ∃ (qu q : Nat) (cs : Array Value), ((f 8 = true → f 7 = true) ∧ (f 10 = true → f 9 = true ∧ f 8 = true)) ∧ (f 10 = false → cs = #[.int .i64 0, .int .i64 0, .int .i64 0, .slice none 0 0]) ∧ (f 10 = true → cs = #[.int .i64 3, .int .i64 0, .int .i64 x0, .slice (some ⟨qu, 0, none⟩) 4 4]) ∧ a' = acts [(0, 19, .pointer (some ⟨q6, 0, none⟩)), (1, 20, .int .i64 x0), (2, 21, .pointer (some ⟨q6, 1, none⟩)), (3, 22, .int .i64 x1), (4, 23, .int .i64 (x1 - 100)), (5, 24, .int .i64 m), (6, 25, .int .u64 m), (7, 26, .slice (some ⟨qu, 0, none⟩) 4 4), (8, 27, .agg #[.int .i64 3, .int .i64 0, .int .i64 x0, .slice (some ⟨qu, 0, none⟩) 4 4]), (9, 8, .pointer (some ⟨q, 0, none⟩))] f a0 ∧ Sat G W (opt (f 7) (blk qu ((bigOf m 4).map byteV).toArray 5) :: opt (f 9) (blk q cs 84) :: blk q6 #[.int .i64 x0, .int .i64 x1] 100 :: E)) ?_ ?_ ?_
  · exact ⟨0, 0, _, ⟨fun h => (by cases h), fun h => (by cases h)⟩, fun _ => rfl, fun h => (by cases h), rfl, Sat.opt0 (Sat.opt0 S5.drew)⟩
  · refine ⟨?_, ?_, ?_, ?_, ?_, ?_, ?_, ?_, ?_, ?_, ?_, trivial⟩
    · rintro f a' W h0 hd ⟨qu, q, cs, hh, hc0, hc1, rfl, S⟩
      refine wpOp_run (v := .pointer (some ⟨q6, 0, none⟩)) rfl rfl (fun ρ hρ => ?_) ⟨qu, q, cs, hh, hc0, hc1, (acts_some 0 rfl (by kernel_rfl) (by kernel_rfl)).symm, S⟩
      have e0 : ρ (.tmp 6) = .pointer (some ⟨q6, 0, none⟩) := by rw [hρ]; exact (acts_eval_tmp 6 (by kernel_rfl)).trans E6
      clear hρ
      go_simp
    · rintro f a' W h1 hd ⟨qu, q, cs, hh, hc0, hc1, rfl, S⟩
      refine wpOp_run (v := .int .i64 x0) rfl rfl (fun ρ hρ => ?_) ⟨qu, q, cs, hh, hc0, hc1, (acts_some 1 rfl (by kernel_rfl) (by kernel_rfl)).symm, S⟩
      have e0 : ρ (.tmp 19) = .pointer (some ⟨q6, 0, none⟩) := by rw [hρ]; exact acts_eval_hit 0 rfl hd.1 (by rw [HSZ]; rfl) (by kernel_rfl)
      clear hρ
      (have hz := S.pull2.cell 0)
      go_simp
    · rintro f a' W h2 hd ⟨qu, q, cs, hh, hc0, hc1, rfl, S⟩
      refine wpOp_run (v := .pointer (some ⟨q6, 1, none⟩)) rfl rfl (fun ρ hρ => ?_) ⟨qu, q, cs, hh, hc0, hc1, (acts_some 2 rfl (by kernel_rfl) (by kernel_rfl)).symm, S⟩
      have e0 : ρ (.tmp 6) = .pointer (some ⟨q6, 0, none⟩) := by rw [hρ]; exact (acts_eval_tmp 6 (by kernel_rfl)).trans E6
      clear hρ
      go_simp
    · rintro f a' W h3 hd ⟨qu, q, cs, hh, hc0, hc1, rfl, S⟩
      refine wpOp_run (v := .int .i64 x1) rfl rfl (fun ρ hρ => ?_) ⟨qu, q, cs, hh, hc0, hc1, (acts_some 3 rfl (by kernel_rfl) (by kernel_rfl)).symm, S⟩
      have e0 : ρ (.tmp 21) = .pointer (some ⟨q6, 1, none⟩) := by rw [hρ]; exact acts_eval_hit 2 rfl hd.1 (by rw [HSZ]; rfl) (by kernel_rfl)
      clear hρ
      (have hz := S.pull2.cell 1)
      go_simp
    · rintro f a' W h4 hd ⟨qu, q, cs, hh, hc0, hc1, rfl, S⟩
      refine wpOp_run (v := .int .i64 (x1 - 100)) rfl rfl (fun ρ hρ => ?_) ⟨qu, q, cs, hh, hc0, hc1, (acts_some 4 rfl (by kernel_rfl) (by kernel_rfl)).symm, S⟩
      have e0 : ρ (.tmp 22) = .int .i64 x1 := by rw [hρ]; exact acts_eval_hit 3 rfl hd.1 (by rw [HSZ]; rfl) (by kernel_rfl)
      have ec : ∀ v, ρ (.const v) = v := by rw [hρ]; exact fun _ => rfl
      clear hρ
      go_simp
    · rintro f a' W h5 hd ⟨qu, q, cs, hh, hc0, hc1, rfl, S⟩
      refine wpOp_run (v := .int .i64 m) rfl rfl (fun ρ hρ => ?_) ⟨qu, q, cs, hh, hc0, hc1, (acts_some 5 rfl (by kernel_rfl) (by kernel_rfl)).symm, S⟩
      have e0 : ρ (.tmp 23) = .int .i64 (x1 - 100) := by rw [hρ]; exact acts_eval_hit 4 rfl hd.1 (by rw [HSZ]; rfl) (by kernel_rfl)
      have ec : ∀ v, ρ (.const v) = v := by rw [hρ]; exact fun _ => rfl
      clear hρ
      go_simp
    · rintro f a' W h6 hd ⟨qu, q, cs, hh, hc0, hc1, rfl, S⟩
      refine wpOp_run (v := .int .u64 m) rfl rfl (fun ρ hρ => ?_) ⟨qu, q, cs, hh, hc0, hc1, (acts_some 6 rfl (by kernel_rfl) (by kernel_rfl)).symm, S⟩
      have e0 : ρ (.tmp 24) = .int .i64 m := by rw [hρ]; exact acts_eval_hit 5 rfl hd.1 (by rw [HSZ]; rfl) (by kernel_rfl)
      clear hρ
      (have hz : IntKind.u64.wrap (m : Int) = (m : Int) := IntWalk.u64_in _ ⟨by omega, by omega⟩)
      go_simp
    · rintro f a' W h7 hd ⟨qu, q, cs, hh, hc0, hc1, rfl, S⟩
      refine wpOp_call rfl rfl (fun ρ hρ => ?_) (octet_big S m 4 (by omega) (by decide) (by decide)) ?_
      · skip
        have e0 : ρ (.tmp 25) = .int .u64 m := by rw [hρ]; exact acts_eval_hit 6 rfl hd.1 (by rw [HSZ]; rfl) (by kernel_rfl)
        have ef : ρ (.func 66) = .func (.func 66) #[] #[] := by rw [hρ]; rfl
        have ec : ∀ v, ρ (.const v) = v := by rw [hρ]; exact fun _ => rfl
        clear hρ
        go_simp
      · (rintro e W' ⟨qu', rfl, S'⟩; have h8 : f 8 = false := no_of hh.1 h7; have h10 : f 10 = false := no_of (fun h => (hh.2 h).2) h8; exact ⟨_, rfl, qu', q, cs, ⟨fun _ => rfl, hh.2⟩, hc0, fun h => absurd h (by rw [show upd f 7 10 = f 10 from rfl, h10]; decide), acts_swap (by simp only [acts, h7, h8, Bool.false_eq_true, if_false]) (k := 7) rfl (by kernel_rfl) (by kernel_rfl), Sat.optI rfl S'.drop2⟩)
    · rintro f a' W h8 hd ⟨qu, q, cs, hh, hc0, hc1, rfl, S⟩
      refine wpOp_run (v := .agg #[.int .i64 3, .int .i64 0, .int .i64 x0, .slice (some ⟨qu, 0, none⟩) 4 4]) rfl rfl (fun ρ hρ => ?_) ⟨qu, q, cs, ⟨fun _ => hd.2.1, fun h => ⟨(hh.2 h).1, rfl⟩⟩, hc0, hc1, (acts_some 8 rfl (by kernel_rfl) (by kernel_rfl)).symm, S⟩
      have e0 : ρ (.tmp 20) = .int .i64 x0 := by rw [hρ]; exact acts_eval_hit 1 rfl hd.1 (by rw [HSZ]; rfl) (by kernel_rfl)
      have e1 : ρ (.tmp 26) = .slice (some ⟨qu, 0, none⟩) 4 4 := by rw [hρ]; exact acts_eval_hit 7 rfl hd.2.1 (by rw [HSZ]; rfl) (by kernel_rfl)
      have ec : ∀ v, ρ (.const v) = v := by rw [hρ]; exact fun _ => rfl
      clear hρ
      go_simp
    · rintro f a' W h9 hd ⟨qu, q, cs, hh, hc0, hc1, rfl, S⟩
      have h10 : f 10 = false := no_of (fun h => (hh.2 h).1) h9
      refine wpOp_mem (v := .pointer (some ⟨W.heap.size, 0, none⟩)) (w' := W.alloc (.cells #[.int .i64 0, .int .i64 0, .int .i64 0, .slice none 0 0] 84)) rfl rfl (fun ρ hρ => ?_) (⟨qu, W.heap.size, _, ⟨hh.1, fun h => ⟨rfl, (hh.2 h).2⟩⟩, fun _ => rfl, fun h => absurd h (by rw [show upd f 9 10 = f 10 from rfl, h10]; decide), acts_swap (by simp only [acts, h9, Bool.false_eq_true, if_false]) (k := 9) rfl (by kernel_rfl) (by kernel_rfl), Sat.swap (Sat.optI rfl (Sat.swap ((Sat.re (S.newBlk _ _) [2, 1, 0]).drop)))⟩)
      clear hρ
      go_simp
    · rintro f a' W h10 hd ⟨qu, q, cs, hh, hc0, hc1, rfl, S⟩
      rw [hc0 h10] at S
      refine wpOp_list rfl ?_
      refine st_store rfl _ _ _ rfl _ _ (acts_eval_hit 9 rfl hd.1 (by rw [HSZ]; rfl) (by kernel_rfl)) (acts_eval_hit 8 rfl hd.2.1 (by rw [HSZ]; rfl) (by kernel_rfl)) _ _ (Sat.optE hd.1 S.swap) rfl rfl (by simp [Value.oneCell']) fun W' S' => ?_
      exact ⟨qu, q, _, ⟨hh.1, fun _ => ⟨hd.1, hd.2.1⟩⟩, fun h => Bool.noConfusion h, fun _ => rfl, (acts_none 10 (by kernel_rfl)).symm, Sat.swap (Sat.optI hd.1 S')⟩
  · rintro a' W2 ⟨qu, q, cs, -, -, hcs, rfl, S6⟩
    obtain rfl := hcs rfl
    subst ha0
    simp only [acts, if_true, Act.put, List.setIfInBounds_toArray, List.set_cons_succ, List.set_cons_zero]
    have S7 := (opt_iff.1 (opt_iff.1 S6).swap).swap
    clear S5 S6 HSZ E6 hcs
    obtain ⟨G', hG, S8, hv⟩ := slb_of_row S7 (bigOf_length _ _) (by decide)
    have e0 := S8.cell 0
    have e1 := S8.cell 1
    have e2 := S8.cell 2
    have e3 := S8.cell 3
    have e4 := S8.swap.cell 0
    have T := HE.out ▸ S8
    have T2 : Sat G' W2 (blk r #[.int .i64 0, .int .i64 0, .int .i64 0, .slice none 0 0, .int .i64 0, .int .i64 0, .int .i64 0, .int .i64 0, .int .i64 0] 86 :: blk q _ 84 :: blk q6 _ 100 :: blk g _ 98 :: ownS 100 2 v' X.tail.length (encs nenc X.tail) :: RL) := T.re [4, 0, 1, 2, 3]
    have d0 := (T2).cell 0; have d1 := (T2).cell 1; have d2 := (T2).cell 2; have d3 := (T2).cell 3; have d4 := (T2).cell 4; have d5 := (T2).cell 5; have d6 := (T2).cell 6; have d7 := (T2).cell 7; have d8 := (T2).cell 8; have f0 := (T2).frozen 0; have f1 := (T2).frozen 1; have f2 := (T2).frozen 2; have f3 := (T2).frozen 3; have f4 := (T2).frozen 4; have f5 := (T2).frozen 5; have f6 := (T2).frozen 6; have f7 := (T2).frozen 7; have f8 := (T2).frozen 8
    have HV := Lib.hid hv
    have HS := Lib.hid (((((((((T2.setCell 0 (.int .i64 3)).setCell 1 (.int .i64 0)).setCell 2 (.int .i64 x0)).setCell 3 (.slice (some ⟨qu, 0, none⟩) 4 4)).setCell 4 (.int .i64 4)).setCell 5 (.int .i64 t)).setCell 6 (.int .i64 x0)).setCell 7 (.int .i64 0)).setCell 8 (.int .i64 0))
    clear S7 S8 T T2 hv hmx hsb
    go_wp2_with fail
    refine bodyPost_ret (results_cell_t rfl _ _ _ _ _ _ rfl HS.out.blk_at Tryz.underlying86 rfl (by kernel_rfl)) rfl ?_
    exact hK.out _ _ ⟨G', _, hG, HV.out, rfl, HCL2.out _ _ _ _ HS.out.drop.drop.drop⟩
end
end Go.Proofs.YtcecfhfbcdbofaaGreatDoor
set_option linter.unusedSimpArgs false
set_option linter.unusedVariables false
namespace Go.Proofs.YtcecfhfbcdbofaaGreatDoor
open Go.RowKit
attribute [local go_sem] Oper.semAt_some

section
variable {G : Gnd} {w w' : World} {l : List Asrt} {o : Nat} {c : Oc} {s : Os}
set_option maxHeartbeats 8000000 in
set_option maxRecDepth 100000 in
theorem ob_give (H : Sat G w (outA o c s :: l)) (hw : OWf c s) (t : Nat) (ht : t < c.ten) :
    Calls Tryz.prog 49 #[.pointer (some ⟨o, 0, none⟩), .int .i64 t] w fun e w' => ∃ G' v, G.le G' ∧ SlB (Go.Proofs.YtcecfhfbcdbofaaGreatDoor.cellR G'.ro) v (bigOf 0 4) ∧
      e = .returned (.tuple #[.agg #[.int .i64 8, .int .i64 0, .int .i64 0, v, .int .i64 5, .int .i64 t, .int .i64 0, .int .i64 0, .int .i64 0], .bool false]) ∧
      Sat G' w' (outA o c s :: l) := by
  refine calls_any fun K hK => ?_
  obtain ⟨a, S⟩ := out_iff.1 H
  have S0 : Sat G w (ownS 98 1 a.gv c.ten (noG c.ten) :: (blk o (obC c a s.last) 72 :: quA a.q s.Q c.byt c.itm :: rgA a.g c.ten c.str s.F s.L s.rl :: crA a.p s.C 0 :: mpA a.mb (s.M.map Sm.kp) :: strA s.M :: ctA a.cv s.D :: l)) := Sat.re S [7, 0, 1, 2, 3, 4, 5, 6]
  obtain ⟨hl, ⟨-, hn0, -⟩ | ⟨g, cap, cur, hgv, hc, hcm, hcs, hct, S1⟩⟩ := own_iff.1 S0
  · have := hw.t0; omega
  have hci : cur[t]? = some (.slice none 0 0) := by
    have e1 : (cur.toList.take (c.ten * 1))[t]? = (noG c.ten)[t]? := by rw [hct]
    rw [List.getElem?_take, if_pos (by omega)] at e1
    rw [← Array.getElem?_toList, e1]
    simp [noG, ht]
  have S2 := S1.newBlk #[.int .i64 0, .int .i64 0, .int .i64 0, .slice none 0 0, .int .i64 0, .int .i64 0, .int .i64 0, .int .i64 0, .int .i64 0] 86
  have k10 : (w.alloc (.cells #[.int .i64 0, .int .i64 0, .int .i64 0, .slice none 0 0, .int .i64 0, .int .i64 0, .int .i64 0, .int .i64 0, .int .i64 0] 86)).cell? ⟨o, 10, none⟩ = some (.slice (some ⟨g, 0, none⟩) c.ten cap) := by
    have := (Sat.re S2 [2, 0, 1]).cell 10
    rw [show (obC c a s.last)[10]? = some a.gv from rfl, hgv] at this
    exact this
  have HCL : Hid (∀ G' W, Sat G' W (blk g cur 98 :: (blk o (obC c a s.last) 72 :: quA a.q s.Q c.byt c.itm :: rgA a.g c.ten c.str s.F s.L s.rl :: crA a.p s.C 0 :: mpA a.mb (s.M.map Sm.kp) :: strA s.M :: ctA a.cv s.D :: l)) → Sat G' W (outA o c s :: l)) := Lib.hid fun G' W S => out_iff.2 ⟨a, Sat.re (own_iff.2 ⟨hl, .inr ⟨g, cap, cur, hgv, hc, hcm, hcs, hct, S⟩⟩) [1, 2, 3, 4, 5, 6, 7, 0]⟩
  obtain ⟨RL, hRL⟩ : ∃ RL : List Asrt, RL = (blk o (obC c a s.last) 72 :: quA a.q s.Q c.byt c.itm :: rgA a.g c.ten c.str s.F s.L s.rl :: crA a.p s.C 0 :: mpA a.mb (s.M.map Sm.kp) :: strA s.M :: ctA a.cv s.D :: l) := ⟨_, rfl⟩
  have S2b : Sat G (w.alloc (.cells #[.int .i64 0, .int .i64 0, .int .i64 0, .slice none 0 0, .int .i64 0, .int .i64 0, .int .i64 0, .int .i64 0, .int .i64 0] 86)) (blk g cur 98 :: blk w.heap.size #[.int .i64 0, .int .i64 0, .int .i64 0, .slice none 0 0, .int .i64 0, .int .i64 0, .int .i64 0, .int .i64 0, .int .i64 0] 86 :: RL) := by rw [hRL]; exact S2.swap
  have hsh := ob_shift_nil (q := g) (j := t) S2b (fun W S => (S.cell t).trans hci)
  rw [← hRL] at HCL
  have hti : (t : Int) < (c.ten : Int) := by omega
  have htc : t < c.ten := ht
  have hcm2 : c.ten ≤ 9223372036854775807 := by have := hw.t1; omega
  clear H S S0 S1 S2 S2b hRL hct hci hcs hgv hw ht hl
  go_enter Tryz.func49, Tryz.ntmps49
  go_wp2_with fail
  (with_reducible refine hsh.mono ?_)
  rintro e w1 ⟨rfl, S3⟩
  clear hsh k10
  go_upto_region 2 with (fail)
  generalize w.heap.size = r at *
  have S4 := S3.newBlk #[.int .i64 0, .int .i64 0] 100
  generalize w1.heap.size = q6 at *
  refine wp_world S4 fun W S5 => ?_
  clear S3 S4
  obtain ⟨E, hE⟩ : ∃ E : List Asrt, E = blk g cur 98 :: blk r #[.int .i64 0, .int .i64 0, .int .i64 0, .slice none 0 0, .int .i64 0, .int .i64 0, .int .i64 0, .int .i64 0, .int .i64 0] 86 :: RL := ⟨_, rfl⟩
  rw [← hE] at S5
  have HE := Lib.hid hE
  clear hE
  refine wp_act fun a0 ha0 => ?_
  have HSZ : a0.tmps.size = 35 := by rw [ha0]; rfl
  have E6 : a0.eval (.tmp 6) = .pointer (some ⟨q6, 0, none⟩) := by rw [ha0]; rfl
  refine wp_region_J (by kernel_rfl) 9 (by kernel_rfl) [[], [0], [], [2], [3], [4], [1, 5], [], [7, 6, 5, 0, 1, 2, 3, 4, 5, 6, 7]] (by kernel_rfl) (by kernel_rfl) (fun f a' W => ∃ (qu q : Nat) (cs : Array Value), ((f 6 = true → f 5 = true) ∧ (f 8 = true → f 7 = true ∧ f 6 = true)) ∧ (f 8 = false → cs = #[.int .i64 0, .int .i64 0, .int .i64 0, .slice none 0 0]) ∧ (f 8 = true → cs = #[.int .i64 8, .int .i64 0, .int .i64 0, .slice (some ⟨qu, 0, none⟩) 4 4]) ∧ a' = acts [(0, 19, .pointer (some ⟨q6, 0, none⟩)), (1, 20, .int .i64 0), (2, 21, .pointer (some ⟨q6, 1, none⟩)), (3, 22, .int .i64 0), (4, 23, .int .u64 0), (5, 24, .slice (some ⟨qu, 0, none⟩) 4 4), (6, 25, .agg #[.int .i64 8, .int .i64 0, .int .i64 0, .slice (some ⟨qu, 0, none⟩) 4 4]), (7, 8, .pointer (some ⟨q, 0, none⟩))] f a0 ∧ Sat G W (opt (f 5) (blk qu ((bigOf 0 4).map byteV).toArray 5) :: opt (f 7) (blk q cs 84) :: blk q6 #[.int .i64 0, .int .i64 0] 100 :: E)) ?_ ?_ ?_
  · exact ⟨0, 0, _, ⟨fun h => (by cases h), fun h => (by cases h)⟩, fun _ => rfl, fun h => (by cases h), rfl, Sat.opt0 (Sat.opt0 S5.drew)⟩
  · refine ⟨?_, ?_, ?_, ?_, ?_, ?_, ?_, ?_, ?_, trivial⟩
    · rintro f a' W h0 hd ⟨qu, q, cs, hh, hc0, hc1, rfl, S⟩
      refine wpOp_run (v := .pointer (some ⟨q6, 0, none⟩)) rfl rfl (fun ρ hρ => ?_) ⟨qu, q, cs, hh, hc0, hc1, (acts_some 0 rfl (by kernel_rfl) (by kernel_rfl)).symm, S⟩
      have e0 : ρ (.tmp 6) = .pointer (some ⟨q6, 0, none⟩) := by rw [hρ]; exact (acts_eval_tmp 6 (by kernel_rfl)).trans E6
      clear hρ
      go_simp
    · rintro f a' W h1 hd ⟨qu, q, cs, hh, hc0, hc1, rfl, S⟩
      refine wpOp_run (v := .int .i64 0) rfl rfl (fun ρ hρ => ?_) ⟨qu, q, cs, hh, hc0, hc1, (acts_some 1 rfl (by kernel_rfl) (by kernel_rfl)).symm, S⟩
      have e0 : ρ (.tmp 19) = .pointer (some ⟨q6, 0, none⟩) := by rw [hρ]; exact acts_eval_hit 0 rfl hd.1 (by rw [HSZ]; rfl) (by kernel_rfl)
      clear hρ
      (have hz := S.pull2.cell 0)
      go_simp
    · rintro f a' W h2 hd ⟨qu, q, cs, hh, hc0, hc1, rfl, S⟩
      refine wpOp_run (v := .pointer (some ⟨q6, 1, none⟩)) rfl rfl (fun ρ hρ => ?_) ⟨qu, q, cs, hh, hc0, hc1, (acts_some 2 rfl (by kernel_rfl) (by kernel_rfl)).symm, S⟩
      have e0 : ρ (.tmp 6) = .pointer (some ⟨q6, 0, none⟩) := by rw [hρ]; exact (acts_eval_tmp 6 (by kernel_rfl)).trans E6
      clear hρ
      go_simp
    · rintro f a' W h3 hd ⟨qu, q, cs, hh, hc0, hc1, rfl, S⟩
      refine wpOp_run (v := .int .i64 0) rfl rfl (fun ρ hρ => ?_) ⟨qu, q, cs, hh, hc0, hc1, (acts_some 3 rfl (by kernel_rfl) (by kernel_rfl)).symm, S⟩
      have e0 : ρ (.tmp 21) = .pointer (some ⟨q6, 1, none⟩) := by rw [hρ]; exact acts_eval_hit 2 rfl hd.1 (by rw [HSZ]; rfl) (by kernel_rfl)
      clear hρ
      (have hz := S.pull2.cell 1)
      go_simp
    · rintro f a' W h4 hd ⟨qu, q, cs, hh, hc0, hc1, rfl, S⟩
      refine wpOp_run (v := .int .u64 0) rfl rfl (fun ρ hρ => ?_) ⟨qu, q, cs, hh, hc0, hc1, (acts_some 4 rfl (by kernel_rfl) (by kernel_rfl)).symm, S⟩
      have e0 : ρ (.tmp 22) = .int .i64 0 := by rw [hρ]; exact acts_eval_hit 3 rfl hd.1 (by rw [HSZ]; rfl) (by kernel_rfl)
      clear hρ
      (have hz : IntKind.u64.wrap 0 = 0 := rfl)
      go_simp
    · rintro f a' W h5 hd ⟨qu, q, cs, hh, hc0, hc1, rfl, S⟩
      refine wpOp_call rfl rfl (fun ρ hρ => ?_) (octet_big S 0 4 (by omega) (by decide) (by decide)) ?_
      · skip
        have e0 : ρ (.tmp 23) = .int .u64 0 := by rw [hρ]; exact acts_eval_hit 4 rfl hd.1 (by rw [HSZ]; rfl) (by kernel_rfl)
        have ef : ρ (.func 66) = .func (.func 66) #[] #[] := by rw [hρ]; rfl
        have ec : ∀ v, ρ (.const v) = v := by rw [hρ]; exact fun _ => rfl
        clear hρ
        go_simp
      · (rintro e W' ⟨qu', rfl, S'⟩; have h6 : f 6 = false := no_of hh.1 h5; have h8 : f 8 = false := no_of (fun h => (hh.2 h).2) h6; exact ⟨_, rfl, qu', q, cs, ⟨fun _ => rfl, hh.2⟩, hc0, fun h => absurd h (by rw [show upd f 5 8 = f 8 from rfl, h8]; decide), acts_swap (by simp only [acts, h5, h6, Bool.false_eq_true, if_false]) (k := 5) rfl (by kernel_rfl) (by kernel_rfl), Sat.optI rfl S'.drop2⟩)
    · rintro f a' W h6 hd ⟨qu, q, cs, hh, hc0, hc1, rfl, S⟩
      refine wpOp_run (v := .agg #[.int .i64 8, .int .i64 0, .int .i64 0, .slice (some ⟨qu, 0, none⟩) 4 4]) rfl rfl (fun ρ hρ => ?_) ⟨qu, q, cs, ⟨fun _ => hd.2.1, fun h => ⟨(hh.2 h).1, rfl⟩⟩, hc0, hc1, (acts_some 6 rfl (by kernel_rfl) (by kernel_rfl)).symm, S⟩
      have e0 : ρ (.tmp 20) = .int .i64 0 := by rw [hρ]; exact acts_eval_hit 1 rfl hd.1 (by rw [HSZ]; rfl) (by kernel_rfl)
      have e1 : ρ (.tmp 24) = .slice (some ⟨qu, 0, none⟩) 4 4 := by rw [hρ]; exact acts_eval_hit 5 rfl hd.2.1 (by rw [HSZ]; rfl) (by kernel_rfl)
      have ec : ∀ v, ρ (.const v) = v := by rw [hρ]; exact fun _ => rfl
      clear hρ
      go_simp
    · rintro f a' W h7 hd ⟨qu, q, cs, hh, hc0, hc1, rfl, S⟩
      have h8 : f 8 = false := no_of (fun h => (hh.2 h).1) h7
      refine wpOp_mem (v := .pointer (some ⟨W.heap.size, 0, none⟩)) (w' := W.alloc (.cells #[.int .i64 0, .int .i64 0, .int .i64 0, .slice none 0 0] 84)) rfl rfl (fun ρ hρ => ?_) (⟨qu, W.heap.size, _, ⟨hh.1, fun h => ⟨rfl, (hh.2 h).2⟩⟩, fun _ => rfl, fun h => absurd h (by rw [show upd f 7 8 = f 8 from rfl, h8]; decide), acts_swap (by simp only [acts, h7, Bool.false_eq_true, if_false]) (k := 7) rfl (by kernel_rfl) (by kernel_rfl), Sat.swap (Sat.optI rfl (Sat.swap ((Sat.re (S.newBlk _ _) [2, 1, 0]).drop)))⟩)
      clear hρ
      go_simp
    · rintro f a' W h8 hd ⟨qu, q, cs, hh, hc0, hc1, rfl, S⟩
      rw [hc0 h8] at S
      refine wpOp_list rfl ?_
      refine st_store rfl _ _ _ rfl _ _ (acts_eval_hit 7 rfl hd.1 (by rw [HSZ]; rfl) (by kernel_rfl)) (acts_eval_hit 6 rfl hd.2.1 (by rw [HSZ]; rfl) (by kernel_rfl)) _ _ (Sat.optE hd.1 S.swap) rfl rfl (by simp [Value.oneCell']) fun W' S' => ?_
      exact ⟨qu, q, _, ⟨hh.1, fun _ => ⟨hd.1, hd.2.1⟩⟩, fun h => Bool.noConfusion h, fun _ => rfl, (acts_none 8 (by kernel_rfl)).symm, Sat.swap (Sat.optI hd.1 S')⟩
  · rintro a' W2 ⟨qu, q, cs, -, -, hcs, rfl, S6⟩
    obtain rfl := hcs rfl
    subst ha0
    simp only [acts, if_true, Act.put, List.setIfInBounds_toArray, List.set_cons_succ, List.set_cons_zero]
    have S7 := (opt_iff.1 (opt_iff.1 S6).swap).swap
    clear S5 S6 HSZ E6 hcs
    obtain ⟨G', hG, S8, hv⟩ := slb_of_row S7 (bigOf_length _ _) (by decide)
    have e0 := S8.cell 0
    have e1 := S8.cell 1
    have e2 := S8.cell 2
    have e3 := S8.cell 3
    have e4 := S8.swap.cell 0
    have e5 := S8.swap.cell 1
    have T := HE.out ▸ S8
    have T2 : Sat G' W2 (blk r #[.int .i64 0, .int .i64 0, .int .i64 0, .slice none 0 0, .int .i64 0, .int .i64 0, .int .i64 0, .int .i64 0, .int .i64 0] 86 :: blk q _ 84 :: blk q6 _ 100 :: blk g _ 98 :: RL) := T.re [3, 0, 1, 2]
    have d0 := (T2).cell 0; have d1 := (T2).cell 1; have d2 := (T2).cell 2; have d3 := (T2).cell 3; have d4 := (T2).cell 4; have d5 := (T2).cell 5; have d6 := (T2).cell 6; have d7 := (T2).cell 7; have d8 := (T2).cell 8; have f0 := (T2).frozen 0; have f1 := (T2).frozen 1; have f2 := (T2).frozen 2; have f3 := (T2).frozen 3; have f4 := (T2).frozen 4; have f5 := (T2).frozen 5; have f6 := (T2).frozen 6; have f7 := (T2).frozen 7; have f8 := (T2).frozen 8
    have HS := Lib.hid (((((((((T2.setCell 0 (.int .i64 8)).setCell 1 (.int .i64 0)).setCell 2 (.int .i64 0)).setCell 3 (.slice (some ⟨qu, 0, none⟩) 4 4)).setCell 4 (.int .i64 5)).setCell 5 (.int .i64 t)).setCell 6 (.int .i64 0)).setCell 7 (.int .i64 0)).setCell 8 (.int .i64 0))
    have HV := Lib.hid hv
    clear S7 S8 T T2 hv
    go_wp2_with fail
    refine bodyPost_ret (results_cell_t rfl _ _ _ _ _ _ rfl HS.out.blk_at Tryz.underlying86 rfl (by kernel_rfl)) rfl ?_
    exact hK.out _ _ ⟨G', _, hG, HV.out, rfl, HCL.out _ _ HS.out.drop.drop.drop⟩
end
end Go.Proofs.YtcecfhfbcdbofaaGreatDoor
set_option linter.unusedSimpArgs false
set_option linter.unusedVariables false
namespace Go.Proofs.YtcecfhfbcdbofaaGreatDoor
open Go.RowKit
attribute [local go_sem] Oper.semAt_some

theorem rising_ids {F : List Ent} : Rising F ↔ (F.map Ent.id).Pairwise (· < ·) := by
  unfold Rising
  rw [List.pairwise_map]
theorem rising_set {F : List Ent} {i : Nat} {x y : Ent} (h : Rising F) (hx : F[i]? = some x) (hy : y.id = x.id) : Rising (F.set i y) := by
  rw [rising_ids] at h ⊢
  have : (F.set i y).map Ent.id = F.map Ent.id := by
    rw [List.map_set, hy]
    exact set_same_q (by rw [List.getElem?_map, hx]; rfl)
  rw [this]; exact h
section
variable {G : Gnd} {w w' : World} {l : List Asrt} {o : Nat} {c : Oc} {s : Os}
set_option maxHeartbeats 4000000 in
set_option maxRecDepth 100000 in
theorem ob_get_stay (H : Sat G w (outA o c s :: l)) (hw : OWf c s) (ht : TabG G) (i : Nat) (x : Ent) (hx : s.F[i]? = some x) (e : Int) (h4 : ¬ (pDo x.n e).n = 4) :
    Calls Tryz.prog 36 #[.pointer (some ⟨o, 0, none⟩), .int .i64 x.id, .int .i64 e] w fun y w' => y = .returned (.tuple #[.int .i64 (pDo x.n e).err, .agg #[.int .i64 (pDo x.n e).code, .bool (pDo x.n e).conn]]) ∧ Sat G w' (outA o c { s with F := s.F.set i (entDo x e) } :: l) := by
  refine calls_any fun K hK => ?_
  obtain ⟨a, S⟩ := out_iff.1 H
  have S0 : Sat G w (rgA a.g c.ten c.str (s.F) s.L s.rl :: blk o (obC c a s.last) 72 :: quA a.q s.Q c.byt c.itm :: crA a.p s.C 0 :: mpA a.mb (s.M.map Sm.kp) :: strA s.M :: ctA a.cv s.D :: ownS 98 1 a.gv c.ten (noG c.ten) :: l) := Sat.re S [2, 0, 1, 3, 4, 5, 6, 7]
  have S1 := S0.newBlk #[.int .i64 0, .bool false] 95
  have hdo := rg_do_stay S1.swap hw.r hw.rf ht i x hx (hw.rb x (List.mem_of_getElem? hx)) e h4
  have hF : (gDoAt c.ten s.F s.L i x e).F = s.F.set i (entDo x e) := by unfold gDoAt; rw [if_neg h4]
  have hL : (gDoAt c.ten s.F s.L i x e).L = s.L := by unfold gDoAt; rw [if_neg h4]
  rw [hF, hL] at hdo
  have hi := (List.getElem?_eq_some_iff.1 hx).1
  have hx2 : (s.F.set i (entDo x e))[i]? = some (entDo x e) := by rw [List.getElem?_set_self hi]
  have hr2 : Rising (s.F.set i (entDo x e)) := rising_set hw.rf hx rfl
  have hn2 : (s.F.set i (entDo x e)).length ≤ 10000 := by rw [List.length_set]; exact hw.r.few
  have HG := Lib.hid (fun (W : World) (L' : List Asrt) (S : Sat G W (rgA a.g c.ten c.str (s.F.set i (entDo x e)) s.L s.rl :: L')) => rg_get_some S hr2 hn2 i _ hx2)
  have HC : Hid (∀ W, Sat G W (rgA a.g c.ten c.str (s.F.set i (entDo x e)) s.L s.rl :: blk o (obC c a s.last) 72 :: quA a.q s.Q c.byt c.itm :: crA a.p s.C 0 :: mpA a.mb (s.M.map Sm.kp) :: strA s.M :: ctA a.cv s.D :: ownS 98 1 a.gv c.ten (noG c.ten) :: l) → Sat G W (outA o c { s with F := s.F.set i (entDo x e) } :: l)) := Lib.hid fun W S => out_iff.2 ⟨a, Sat.re S [1, 2, 0, 3, 4, 5, 6, 7]⟩
  have k6 : (w.alloc (.cells #[.int .i64 0, .bool false] 95)).cell? ⟨o, 6, none⟩ = some (.pointer (some ⟨a.g, 0, none⟩)) := (Sat.re S1 [2, 0, 1]).cell 6
  obtain ⟨E, hE⟩ : ∃ E : List Asrt, E = (blk o (obC c a s.last) 72 :: quA a.q s.Q c.byt c.itm :: crA a.p s.C 0 :: mpA a.mb (s.M.map Sm.kp) :: strA s.M :: ctA a.cv s.D :: ownS 98 1 a.gv c.ten (noG c.ten) :: l) := ⟨_, rfl⟩
  rw [← hE] at hdo HC
  have HK6 : Hid (∀ W, Sat G W E → W.cell? ⟨o, 6, none⟩ = some (.pointer (some ⟨a.g, 0, none⟩))) := Lib.hid fun W S => by rw [hE] at S; exact S.cell 6
  obtain ⟨err, her⟩ : ∃ err, err = (pDo x.n e).err := ⟨_, rfl⟩
  obtain ⟨code, hcd⟩ : ∃ code, code = (pDo x.n e).code := ⟨_, rfl⟩
  obtain ⟨conn, hcn⟩ : ∃ conn, conn = (pDo x.n e).conn := ⟨_, rfl⟩
  rw [← her, ← hcd, ← hcn] at hdo hK
  obtain ⟨F', hF'⟩ : ∃ F', F' = s.F.set i (entDo x e) := ⟨_, rfl⟩
  rw [← hF'] at hdo hK HC HG
  have hid : (entDo x e).id = x.id := rfl
  rw [hid] at HG
  obtain ⟨xid, hxid⟩ : ∃ xid, xid = x.id := ⟨_, rfl⟩
  rw [← hxid] at hdo HG ⊢
  unfold eenc absF at HG
  generalize (entDo x e).id = e0 at HG
  generalize (entDo x e).n = e2 at HG
  generalize ownT e0 c.ten = e1 at HG
  have hK' := hK
  clear H S S0 S1 hx hx2 hr2 hn2 hF hL hE hi her hcd hcn hF' h4 hw ht hid hxid hK'
  go_enter Tryz.func36, Tryz.ntmps36
  go_wp2_with fail
  (with_reducible refine hdo.mono ?_)
  rintro e w1 ⟨rfl, S2⟩
  have S3 := S2.newBlk #[.int .i64 code, .bool conn] 95
  have k6b := HK6.out _ (Sat.drop (Sat.drop (Sat.drop S3)))
  have hg := HG.out _ _ S3.swap
  clear S2 hdo k6
  go_wp2_with fail
  (with_reducible refine hg.mono ?_)
  rintro e w2 ⟨rfl, S4⟩
  clear hg S3 k6b
  go_upto_region 5 with (fail)
  have S5 := S4.newBlk #[.int .i64 e0, .int .i64 e1, .int .i64 e2] 133
  clear S4
  generalize w.heap.size = r at *
  generalize w1.heap.size = q at *
  generalize w2.heap.size = n at *
  have S6 : Sat G _ (blk r #[.int .i64 0, .bool false] 95 :: blk q #[.int .i64 code, .bool conn] 95 :: blk n #[.int .i64 e0, .int .i64 e1, .int .i64 e2] 133 :: rgA a.g c.ten c.str F' s.L s.rl :: E) := S5.re [3, 2, 0, 1]
  refine wp_world S6 fun W S7 => ?_
  clear S5 S6
  refine wp_act fun a0 ha0 => ?_
  have HSZ : a0.tmps.size = 47 := by rw [ha0]; rfl
  have E8 : a0.eval (.tmp 8) = .int .i64 err := by rw [ha0]; rfl
  have E9 : a0.eval (.tmp 9) = .pointer (some ⟨q, 0, none⟩) := by rw [ha0]; rfl
  have E7 : a0.eval (.tmp 7) = .pointer (some ⟨r, 0, none⟩) := by rw [ha0]; rfl
  refine wp_region_J (by kernel_rfl) 4 (by kernel_rfl) [[], [], [0, 0], [1, 2, 0, 1, 2]] (by kernel_rfl) (by kernel_rfl) (fun f a' W => a' = acts [(0, 45, .int .i64 err), (1, 46, .agg #[.int .i64 code, .bool conn]), (2, 6, .int .i64 err)] f a0 ∧ Sat G W (blk r (cond (f 3) #[.int .i64 code, .bool conn] #[.int .i64 0, .bool false]) 95 :: blk q #[.int .i64 code, .bool conn] 95 :: blk n #[.int .i64 e0, .int .i64 e1, .int .i64 e2] 133 :: rgA a.g c.ten c.str F' s.L s.rl :: E)) ?_ ?_ ?_
  · exact ⟨rfl, S7.drew⟩
  · refine ⟨?_, ?_, ?_, ?_, trivial⟩
    · rintro f a' W h0 hd ⟨rfl, S⟩
      refine wpOp_run (v := .int .i64 err) rfl rfl (fun ρ hρ => ?_) ⟨(acts_some 0 rfl (by kernel_rfl) (by kernel_rfl)).symm, S⟩
      have e0 : ρ (.tmp 8) = .int .i64 err := by rw [hρ]; exact (acts_eval_tmp 8 (by kernel_rfl)).trans E8
      clear hρ
      go_simp
    · rintro f a' W h1 hd ⟨rfl, S⟩
      refine wpOp_list rfl ?_
      refine st_load rfl _ _ rfl _ ((acts_eval_tmp 9 (by kernel_rfl)).trans E9) _ _ (S.swap) _ rfl rfl rfl ?_
      exact ⟨(acts_some 1 rfl (by kernel_rfl) (by kernel_rfl)).symm, S⟩
    · rintro f a' W h2 hd ⟨rfl, S⟩
      refine wpOp_run (v := .int .i64 err) rfl rfl (fun ρ hρ => ?_) ⟨(acts_some 2 rfl (by kernel_rfl) (by kernel_rfl)).symm, S⟩
      have e0 : ρ (.tmp 45) = .int .i64 err := by rw [hρ]; exact acts_eval_hit 0 rfl hd.1 (by rw [HSZ]; rfl) (by kernel_rfl)
      clear hρ
      go_simp
    · rintro f a' W h3 hd ⟨rfl, S⟩
      rw [h3] at S
      refine wpOp_list rfl ?_
      refine st_store rfl _ _ _ rfl _ _ ((acts_eval_tmp 7 (by kernel_rfl)).trans E7) (acts_eval_hit 1 rfl hd.1 (by rw [HSZ]; rfl) (by kernel_rfl)) _ _ (S) rfl rfl (by simp [Value.oneCell']) fun W' S' => ?_
      exact ⟨(acts_none 3 (by kernel_rfl)).symm, S'⟩
  · rintro a' W2 ⟨rfl, S8⟩
    subst ha0
    simp only [acts, if_true, Act.put, List.setIfInBounds_toArray, List.set_cons_succ, List.set_cons_zero]
    have HS : Hid (Sat G W2 (blk r #[.int .i64 code, .bool conn] 95 :: blk q #[.int .i64 code, .bool conn] 95 :: blk n #[.int .i64 e0, .int .i64 e1, .int .i64 e2] 133 :: rgA a.g c.ten c.str F' s.L s.rl :: E)) := Lib.hid S8
    clear S7 S8 HSZ E7 E8 E9
    go_wp2_with fail
    refine bodyPost_ret (results_t_cell rfl _ _ _ _ _ _ rfl HS.out.blk_at Tryz.underlying95 rfl (by kernel_rfl)) rfl ?_
    exact hK.out _ _ ⟨rfl, HC.out _ HS.out.drop.drop.drop⟩
theorem smAt_of : ∀ {M : List Sm} {y : Sm}, (M.map Sm.id).Nodup → y ∈ M → smAt M y.id = some y
  | [], y, _, hy => by cases hy
  | z :: M, y, hnd, hy => by
    rw [List.map_cons, List.nodup_cons] at hnd
    unfold smAt
    rw [List.find?_cons]
    rcases List.mem_cons.1 hy with rfl | hy'
    · simp
    · have hne : ¬ z.id = y.id := fun e => hnd.1 (List.mem_map.2 ⟨y, hy', e.symm⟩)
      rw [beq_eq_false_iff_ne.2 hne]
      exact smAt_of hnd.2 hy'
/-- One stream in hand. -/
theorem out_stream (H : Sat G w (outA o c s :: l)) {y : Sm} (hy : y ∈ s.M) : ∃ (a : Ad) (v : Value) (RL : List Asrt), SlB (cellR G.ro) v y.bs ∧ mpAt (s.M.map Sm.kp) y.id = .pointer (some ⟨y.p, 0, none⟩) ∧
    Sat G w (blk y.p #[.int .i64 y.win, .int .i64 y.num, v, .bool y.op] 108 :: blk o (obC c a s.last) 72 :: mpA a.mb (s.M.map Sm.kp) :: (RL ++ l)) ∧
    ∀ G' W l' (y' : Sm) v', y'.kp = y.kp → SlB (cellR G'.ro) v' y'.bs → Sat G' W (blk y.p #[.int .i64 y'.win, .int .i64 y'.num, v', .bool y'.op] 108 :: blk o (obC c a s.last) 72 :: mpA a.mb (s.M.map Sm.kp) :: (RL ++ l')) → Sat G' W (outA o c { s with M := y' :: s.M.erase y } :: l') := by
  obtain ⟨a, S⟩ := out_iff.1 H
  have hnd := mp_nodup (Sat.re S [4, 0, 1, 2, 3])
  have hp := List.perm_cons_erase hy
  have S1 := str_cons.1 (str_perm hp (Sat.re S [5, 0, 1, 2, 3, 4]))
  obtain ⟨v, hv, S2⟩ := st_iff.1 S1
  have hat : mpAt (s.M.map Sm.kp) y.id = .pointer (some ⟨y.p, 0, none⟩) := by
    rw [mpAt_eq]
    have : smAt s.M y.id = some y := smAt_of (by rw [List.map_map] at hnd; exact hnd) hy
    rw [this]
  refine ⟨a, v, [strA (s.M.erase y), quA a.q s.Q c.byt c.itm, rgA a.g c.ten c.str s.F s.L s.rl, crA a.p s.C 0, ctA a.cv s.D, ownS 98 1 a.gv c.ten (noG c.ten)], hv, hat, Sat.re S2 [0, 2, 6, 1, 3, 4, 5], ?_⟩
  intro G' W l' y' v' hk hv' S3
  have hkp : y'.p = y.p := by have := congrArg Prod.snd hk; exact this
  refine out_iff.2 ⟨a, ?_⟩
  have S5 : Sat G' W (stA y' :: strA (s.M.erase y) :: mpA a.mb (s.M.map Sm.kp) :: blk o (obC c a s.last) 72 :: quA a.q s.Q c.byt c.itm :: rgA a.g c.ten c.str s.F s.L s.rl :: crA a.p s.C 0 :: ctA a.cv s.D :: ownS 98 1 a.gv c.ten (noG c.ten) :: l') :=
    st_iff.2 ⟨v', hv', by rw [hkp]; exact Sat.re S3 [0, 3, 2, 1, 4, 5, 6, 7, 8]⟩
  have S6 := (str_cons.2 S5).swap
  have S7 := mp_perm (N := (y' :: s.M.erase y).map Sm.kp) (by rw [List.map_cons, hk]; exact hp.map Sm.kp) S6
  exact Sat.re S7 [2, 3, 4, 5, 0, 1, 6, 7]
/-- A stream of which we have sent the end. -/
def endE (id : Int) : Ent := ⟨id, 3, [1, 0, 1, 0, 0, 0, 0, 0, 0], rfl⟩
theorem end_do (id : Int) : entDo (newE id) 2 = endE id := rfl
theorem keyOk {k : Int} (h0 : 1 ≤ k) (h1 : k ≤ 2147483647) : (Lit.int .i64 k).wf = true := by
  have h2 : IntKind.i64.min = -9223372036854775808 := rfl
  have h3 : IntKind.i64.max = 9223372036854775807 := rfl
  simp [Lit.wf]; omega
set_option maxHeartbeats 4000000 in
set_option maxRecDepth 100000 in
theorem ob_ended (H : Sat G w (outA o c s :: l)) (hw : OWf c s) (ht : TabG G) {y : Sm} (hy : y ∈ s.M) (i : Nat) (hx : s.F[i]? = some (newE y.id)) :
    Calls Tryz.prog 73 #[.pointer (some ⟨o, 0, none⟩), .int .i64 y.id] w fun e w' => e = .returned (.tuple #[]) ∧ Sat G w' (outA o c { s with F := s.F.set i (endE y.id), M := { y with op := false } :: s.M.erase y } :: l) := by
  refine calls_any fun K hK => ?_
  obtain ⟨a, v, RL, hv, hat, S, HC⟩ := out_stream H hy
  have hyi := hw.mi y hy
  have hlk := mp_look (Sat.re S [2, 0, 1]) y.id (keyOk hyi.1 hyi.2.1)
  rw [hat] at hlk
  have k8 : w.cell? ⟨o, 8, none⟩ = some (.map (some a.mb)) := S.swap.cell 8
  have c3 := S.cell 3
  have f3 := S.frozen 3
  have S2 := HC _ _ _ { y with op := false } v rfl hv (S.setCell 3 (.bool false))
  have hw2 : OWf c { s with M := { y with op := false } :: s.M.erase y } :=
    { hw with
      ml := by have := List.length_erase_of_mem hy; have h2 := List.length_pos_of_mem hy; have := hw.ml; simp only [List.length_cons]; omega
      mw := fun x hx => by rcases List.mem_cons.1 hx with rfl | hx; exact hw.mw y hy; exact hw.mw x (List.mem_of_mem_erase hx)
      mi := fun x hx => by rcases List.mem_cons.1 hx with rfl | hx; exact hw.mi y hy; exact hw.mi x (List.mem_of_mem_erase hx) }
  have hg := ob_get_stay S2 hw2 ht i (newE y.id) hx 2 (show ¬ (pDo 1 2).n = 4 from by decide)
  rw [end_do] at hg
  have hid : (newE y.id).id = y.id := rfl
  rw [hid] at hg
  generalize (pDo (newE y.id).n 2).err = e1 at hg
  generalize (pDo (newE y.id).n 2).code = e2 at hg
  generalize (pDo (newE y.id).n 2).conn = e3 at hg
  clear H S S2 HC hw hw2 hx hat hv hyi hid hy
  go_enter Tryz.func73, Tryz.ntmps73
  go_wp2_with fail
  (with_reducible refine hg.mono ?_)
  rintro e w1 ⟨rfl, S3⟩
  have HS := Lib.hid S3
  clear S3 hg
  go_wp2_with fail
  go_end0
  exact hK.out _ _ ⟨rfl, HS.out⟩
end
end Go.Proofs.YtcecfhfbcdbofaaGreatDoor
set_option linter.unusedSimpArgs false
set_option linter.unusedVariables false
namespace Go.Proofs.YtcecfhfbcdbofaaGreatDoor
open Go.RowKit
attribute [local go_sem] Oper.semAt_some

theorem st_run {P : Program} {ops : Array Oper} {rest : List Oper} {o : Oper} {a : Act} {w : World} {Q : Exit → Act → World → Prop} (hgd : o.guard = none) (v : Value) (hr : (execOp a.eval o).run P w = .ok (.value v) w) (h : wpList P ops Q rest (a.put o.dst v) w) : wpList P ops Q (o :: rest) a w := by
  refine wpList_plain hgd fun K hK => ?_
  unfold Oper.wp
  rw [hr]
  exact hK _ _ h
/-- May a stream be sent of? -/
def Snd (c : Oc) (s : Os) (t : Nat) (y : Sm) : Prop := y.op = true ∧ winCan y.win c.cell = true ∧ c.cell ≤ crLeft s.C t
def entOf (x : Sm) : Ent := if x.op then newE x.id else endE x.id
theorem entOf_id (x : Sm) : (entOf x).id = x.id := by unfold entOf; split <;> rfl
structure OInv (c : Oc) (s : Os) : Prop extends OWf c s where
  mf : s.F.Perm (s.M.map entOf)
  mo : ∀ x ∈ s.M, x.op = true → x.bs ≠ []
  ls : isum s.L = s.F.length
  ln : ∀ x ∈ s.L, 0 ≤ x
  mr : ∀ x ∈ s.M, x.id ≤ s.rl
  rll : s.rl < 2 * s.last + 3
  l0 : -1 ≤ s.last
  qh : ∀ X ∈ s.Q, ∀ x ∈ X, (x.2.1.length : Int) ≤ c.cell
def cellN (c : Oc) (y : Sm) : Nat := min (c.cell.toNat - 1) y.bs.length
/-- A stream behind a cell of it. -/
def sentS (c : Oc) (y : Sm) : Sm := { y with win := y.win - c.cell, bs := y.bs.drop (cellN c y), op := !(y.bs.drop (cellN c y)).isEmpty }
theorem entOf_bound {x : Sm} : ∀ y ∈ (entOf x).C, 0 ≤ y ∧ y ≤ 1000 := by
  intro y hy
  unfold entOf at hy
  split at hy <;> simp [newE, endE] at hy <;> omega
theorem cut_perm {α : Type} {F : List α} {i : Nat} {e : α} (hi : F[i]? = some e) : F.Perm (e :: (F.take i ++ F.drop (i + 1))) := by
  obtain ⟨hl, he⟩ := List.getElem?_eq_some_iff.1 hi
  have h1 : F = F.take i ++ e :: F.drop (i + 1) := by
    conv => lhs; rw [← List.take_append_drop i F, List.drop_eq_getElem_cons hl, he]
  conv => lhs; rw [h1]
  exact List.perm_middle
theorem perm_set {F : List Ent} {i : Nat} {e e' : Ent} {R : List Ent} (h : F.Perm (e :: R)) (hi : F[i]? = some e) : (F.set i e').Perm (e' :: R) := by
  obtain ⟨hl, he⟩ := List.getElem?_eq_some_iff.1 hi
  have h2 := ((cut_perm hi).symm.trans h).cons_inv
  rw [List.set_eq_take_append_cons_drop, if_pos hl]
  exact List.perm_middle.trans (h2.cons e')
theorem winCan_iff {m n : Int} (hn : 0 < n) : winCan m n = true ↔ n ≤ m := by
  unfold winCan
  simp
  omega
theorem spend_eq {c : Oc} {s : Os} {y : Sm} {t : Nat} (hw : OInv c s) (hs : Snd c s t y) (ht : t < c.ten) : crSpend s.C t c.cell = (s.C.set t (s.C.getD t 0 - c.cell), 0) := by
  have hc0 := hw.c0
  have hcl : t < s.C.length := by rw [hw.cl]; exact ht
  have hlf : crLeft s.C t = s.C.getD t 0 := by
    unfold crLeft crHas
    rw [if_pos (decide_eq_true ⟨by omega, by omega⟩)]
    simp
  have hle := hs.2.2
  rw [hlf] at hle
  unfold crSpend crHas
  rw [if_pos (decide_eq_true ⟨by omega, by omega⟩), if_pos ⟨by omega, by have := hw.c1; omega⟩]
  simp only [Int.toNat_natCast]
  rw [if_pos hle]
theorem body_inv {c : Oc} {s : Os} {y : Sm} {t : Nat} (hw : OInv c s) (hy : y ∈ s.M) (hs : Snd c s t y) (ht : t < c.ten) {F' : List Ent} (hF : F'.Perm ((sentS c y :: s.M.erase y).map entOf)) (hr : Rising F') :
    OInv c { s with F := F', M := sentS c y :: s.M.erase y, C := s.C.set t (s.C.getD t 0 - c.cell) } := by
  have hc0 := hw.c0
  have hl : (sentS c y :: s.M.erase y).length = s.M.length := by
    have h1 := List.length_erase_of_mem hy
    have h2 := List.length_pos_of_mem hy
    simp only [List.length_cons]; omega
  have hFl : F'.length = s.F.length := by
    rw [hF.length_eq, hw.mf.length_eq, List.length_map, List.length_map, hl]
  have hm : ∀ x ∈ sentS c y :: s.M.erase y, x = sentS c y ∨ x ∈ s.M := fun x hx => by
    rcases List.mem_cons.1 hx with rfl | hx
    · exact .inl rfl
    · exact .inr (List.mem_of_mem_erase hx)
  have hwin := (winCan_iff (by omega)).1 hs.2.1
  have hyw := hw.mw y hy
  have hcl : t < s.C.length := by rw [hw.cl]; exact ht
  have hlf : crLeft s.C t = s.C.getD t 0 := by
    unfold crLeft crHas
    rw [if_pos (decide_eq_true ⟨by omega, by omega⟩)]
    simp
  have hle := hs.2.2
  rw [hlf] at hle
  have hsp : (crSpend s.C t c.cell).1 = s.C.set t (s.C.getD t 0 - c.cell) := by
    unfold crSpend crHas
    rw [if_pos (decide_eq_true ⟨by omega, by omega⟩), if_pos ⟨by omega, by have := hw.c1; omega⟩]
    simp only [Int.toNat_natCast]
    rw [if_pos hle]
  have hg := spend_good hw.cg t c.cell
  rw [hsp] at hg
  exact { t0 := hw.t0, t1 := hw.t1, c0 := hw.c0, c1 := hw.c1, q := hw.q, ql := hw.ql
          r := { hw.r with few := by show F'.length ≤ 10000; rw [hFl]; exact hw.r.few }
          rf := hr
          rb := fun x hx => by
            obtain ⟨z, hz, rfl⟩ := List.mem_map.1 (hF.mem_iff.1 hx)
            exact entOf_bound
          cg := hg
          cl := by show (s.C.set _ _).length = _; rw [List.length_set]; exact hw.cl
          ml := by show (sentS c y :: s.M.erase y).length ≤ 10000; rw [hl]; exact hw.ml
          mw := fun x hx => by
            rcases hm x hx with rfl | hx
            · refine ⟨?_, ?_, ?_⟩
              · show 0 ≤ y.win - c.cell; omega
              · show y.win - c.cell ≤ 65535; omega
              · show (y.bs.drop _).length ≤ _; rw [List.length_drop]; omega
            · exact hw.mw x hx
          mi := fun x hx => by
            rcases hm x hx with rfl | hx
            · exact hw.mi y hy
            · exact hw.mi x hx
          dl := hw.dl
          dn := hw.dn
          mf := hF
          mo := fun x hx ho => by
            rcases hm x hx with rfl | hx
            · intro hb
              have e1 : (y.bs.drop (cellN c y)) = [] := hb
              have e2 : (!(y.bs.drop (cellN c y)).isEmpty) = true := ho
              rw [e1] at e2; cases e2
            · exact hw.mo x hx ho
          ls := by show isum s.L = _; rw [hw.ls]; show (s.F.length : Int) = (F'.length : Int); rw [hFl]
          ln := hw.ln
          mr := fun x hx => by
            rcases hm x hx with rfl | hx
            · exact hw.mr y hy
            · exact hw.mr x hx
          rll := hw.rll
          l0 := hw.l0, qh := hw.qh }
section
variable {G : Gnd} {w w' : World} {l : List Asrt} {o : Nat} {c : Oc} {s : Os}
/-- What body answers. -/
def BodyR (c : Oc) (s : Os) (t : Nat) (G' : Gnd) (e : Ending) (s' : Os) : Prop :=
  (∃ y ∈ s.M, ownT y.id c.ten = t ∧ Snd c s t y ∧ ∃ u z, SlB (Go.Proofs.YtcecfhfbcdbofaaGreatDoor.cellR G'.ro) u (padB (y.bs.take (cellN c y)) z) ∧ (z : Int) + cellN c y + 1 = c.cell ∧
    e = .returned (.tuple #[.agg #[.int .i64 0, .int .i64 (if (sentS c y).op then 8 else 9), .int .i64 y.id, u, .int .i64 (if (sentS c y).op then 2 else 3), .int .i64 t, .int .i64 y.id, .int .i64 y.num, .int .i64 (cellN c y)], .bool true]) ∧
    s'.M = sentS c y :: s.M.erase y ∧ s'.C = s.C.set t (s.C.getD t 0 - c.cell) ∧ s'.Q = s.Q ∧ s'.L = s.L ∧ s'.rl = s.rl ∧ s'.D = s.D ∧ s'.last = s.last ∧ OInv c s' ∧ s'.F.length = s.F.length) ∨
  ((∀ y ∈ s.M, ownT y.id c.ten = t → ¬ Snd c s t y) ∧ e = .returned (.tuple #[.agg #[.int .i64 0, .int .i64 0, .int .i64 0, .slice none 0 0, .int .i64 0, .int .i64 0, .int .i64 0, .int .i64 0, .int .i64 0], .bool false]) ∧ s' = s)
set_option maxHeartbeats 8000000 in
set_option maxRecDepth 100000 in
theorem ob_body (H : Sat G w (outA o c s :: l)) (hw : OInv c s) (hT : TabG G) (t : Nat) (ht : t < c.ten) :
    Calls Tryz.prog 50 #[.pointer (some ⟨o, 0, none⟩), .int .i64 t] w fun e w' => ∃ G' s', G.le G' ∧ BodyR c s t G' e s' ∧ Sat G' w' (outA o c s' :: l) := by
  refine calls_any fun K hK => ?_
  have S1 := H.newBlk #[.int .i64 0, .int .i64 0, .int .i64 0, .slice none 0 0, .int .i64 0, .int .i64 0, .int .i64 0, .int .i64 0, .int .i64 0] 86
  obtain ⟨a, SA⟩ := out_iff.1 S1.swap
  have k1 : (w.alloc (.cells #[.int .i64 0, .int .i64 0, .int .i64 0, .slice none 0 0, .int .i64 0, .int .i64 0, .int .i64 0, .int .i64 0, .int .i64 0] 86)).cell? ⟨o, 1, none⟩ = some (.int .i64 c.cell) := SA.cell 1
  have hof := ob_of (Sat.re SA [0, 4, 1, 2, 3]) (by rw [List.length_map]; exact hw.ml) (ten := c.ten) rfl rfl t
  have HCL : Hid (∀ G1 W v xs, Sat G1 W (ownS 3 1 v xs.length (encs lenc_r xs) :: blk o (obC c a s.last) 72 :: mpA a.mb (s.M.map Sm.kp) :: quA a.q s.Q c.byt c.itm :: rgA a.g c.ten c.str s.F s.L s.rl :: crA a.p s.C 0 :: strA s.M :: ctA a.cv s.D :: ownS 98 1 a.gv c.ten (noG c.ten) :: blk w.heap.size #[.int .i64 0, .int .i64 0, .int .i64 0, .slice none 0 0, .int .i64 0, .int .i64 0, .int .i64 0, .int .i64 0, .int .i64 0] 86 :: l) → Sat G1 W (ownS 3 1 v xs.length (encs lenc_r xs) :: blk w.heap.size #[.int .i64 0, .int .i64 0, .int .i64 0, .slice none 0 0, .int .i64 0, .int .i64 0, .int .i64 0, .int .i64 0, .int .i64 0] 86 :: outA o c s :: l)) := Lib.hid fun G1 W v xs S =>
    Sat.re (L := outA o c s :: ownS 3 1 v xs.length (encs lenc_r xs) :: blk w.heap.size #[.int .i64 0, .int .i64 0, .int .i64 0, .slice none 0 0, .int .i64 0, .int .i64 0, .int .i64 0, .int .i64 0, .int .i64 0] 86 :: l) (out_iff.2 ⟨a, Sat.re S [1, 3, 4, 5, 2, 6, 7, 8, 0, 9]⟩) [1, 2, 0]
  have HW := Lib.hid hw
  have HT := Lib.hid hT
  have HTT := Lib.hid ht
  clear H S1 SA hw hT ht
  go_enter Tryz.func50, Tryz.ntmps50
  go_wp2_with fail
  (with_reducible refine hof.mono ?_)
  rintro e w1 ⟨G1, v, ys, hG1, hys, rfl, S2⟩
  have S3 := HCL.out _ _ _ _ S2
  clear S2 hof k1 HCL
  generalize w.heap.size = r at *
  obtain ⟨xs, hxs⟩ : ∃ xs, xs = srt ys := ⟨_, rfl⟩
  rw [← hxs] at S3
  have HX : Hid (∀ x, x ∈ xs ↔ x ∈ keysT c.ten t (s.M.map Sm.kp)) := Lib.hid fun x => by rw [hxs]; exact ((srt_perm ys).trans hys).mem_iff
  obtain ⟨A, cp, rfl, hnc, hcm, -⟩ := S3.ownSlice
  obtain ⟨n, hn⟩ : ∃ n, n = xs.length := ⟨_, rfl⟩
  rw [← hn] at S3 hnc ⊢
  have HN := Lib.hid hn
  have HCE : Hid (∀ (G : Gnd) (W : World) (E : List Asrt), Sat G W (ownS 3 1 (.slice A n cp) n (encs lenc_r xs) :: E) → ∀ k x, xs[k]? = some x → ∃ b, A = some ⟨b, 0, none⟩ ∧ W.cell? ⟨b, k, none⟩ = some (.int .i64 x)) := Lib.hid fun G W E S k x hx => by
    obtain ⟨hl, ⟨e1, h0, -⟩ | ⟨b, cap, cur, e1, -, -, -, -, -⟩⟩ := own_iff.1 S
    · have := (List.getElem?_eq_some_iff.1 hx).1; omega
    · cases e1
      refine ⟨b, rfl, ?_⟩
      have := own_cells (A := none) S k (.int .i64 x) (by rw [encs_ints, List.getElem?_map, hx]; rfl)
      rwa [show (⟨b, 0, none⟩ : Addr).add k = ⟨b, k, none⟩ from by unfold Addr.add; split <;> simp_all] at this
  have hcm2 : cp ≤ 9223372036854775807 := hcm
  clear hn hxs hys
  go_wp2_with fail
  go_loopw [23] (fun i wr => ∃ (k : Nat), i = .int .i64 k ∧ k ≤ n ∧ (∀ j, j < k → ∀ x, xs[j]? = some x → ∀ y ∈ s.M, y.id = x → ¬ Snd c s t y) ∧ Sat G1 wr (ownS 3 1 (.slice A n cp) n (encs lenc_r xs) :: blk r #[.int .i64 0, .int .i64 0, .int .i64 0, .slice none 0 0, .int .i64 0, .int .i64 0, .int .i64 0, .int .i64 0, .int .i64 0] 86 :: outA o c s :: l)) (fun i _ => n - (intOf i).toNat)
  case atStart => exact ⟨0, rfl, Nat.zero_le _, fun j hj => by omega, S3⟩
  case round =>
    obtain ⟨k, rfl, hk, hno, S4⟩ := hrel
    clear S3
    by_cases hlt : k < n
    · obtain ⟨x, hx⟩ : ∃ x, xs[k]? = some x := ⟨_, List.getElem?_eq_getElem (by rw [← HN.out]; exact hlt)⟩
      obtain ⟨b, rfl, hcx⟩ := HCE.out _ _ _ S4 k x hx
      have hxk := (HX.out x).1 (List.mem_of_getElem? hx)
      obtain ⟨hxm, hxo⟩ := List.mem_filter.1 hxk
      have hxo2 : ownT x c.ten = t := by simpa using hxo
      obtain ⟨m, hm, hmx⟩ := List.mem_map.1 hxm
      obtain ⟨y, hy, rfl⟩ := List.mem_map.1 hm
      obtain rfl : y.id = x := hmx
      have S5 : Sat G1 wr (outA o c s :: ownS 3 1 (.slice (some ⟨b, 0, none⟩) n cp) n (encs lenc_r xs) :: blk r #[.int .i64 0, .int .i64 0, .int .i64 0, .slice none 0 0, .int .i64 0, .int .i64 0, .int .i64 0, .int .i64 0, .int .i64 0] 86 :: l) := Sat.re S4 [2, 0, 1]
      obtain ⟨a2, v2, RL, hv2, hat, S6, HC2⟩ := out_stream S5 hy
      have hyi := HW.out.mi y hy
      have hyw := HW.out.mw y hy
      have hlk := mp_look (Sat.re S6 [2, 0, 1]) y.id (keyOk hyi.1 hyi.2.1)
      rw [hat] at hlk
      have k8 : wr.cell? ⟨o, 8, none⟩ = some (.map (some a2.mb)) := S6.swap.cell 8
      have q0 := S6.cell 0
      have q3 := S6.cell 3
      have hlt2 : (k : Int) < (n : Int) := by omega
      have hwk : IntKind.i64.wrap ((k : Int) + 1) = ((k + 1 : Nat) : Int) := by rw [IntWalk.i64_in _ (by omega)]; omega
      have HNO : Hid (¬ Snd c s t y → ∀ j, j < k + 1 → ∀ x, xs[j]? = some x → ∀ y ∈ s.M, y.id = x → ¬ Snd c s t y) := Lib.hid fun hns j hj x' hx' y' hy' he => by
        rcases Nat.lt_or_ge j k with h | h
        · exact hno j h x' hx' y' hy' he
        · obtain rfl : j = k := by omega
          rw [hx] at hx'
          cases hx'
          have hnd := mp_nodup (Sat.re S6 [2, 0, 1])
          rw [List.map_map] at hnd
          have e1 := smAt_of (M := s.M) hnd hy
          have e2 := smAt_of (M := s.M) hnd hy'
          rw [he, e1] at e2
          cases e2
          exact hns
      have HS4 := Lib.hid S4
      have HY := Lib.hid (And.intro hy (And.intro hxo2 (And.intro hyi hyw)))
      obtain ⟨yid, hyid⟩ : ∃ z, z = y.id := ⟨_, rfl⟩
      obtain ⟨yw, hywn⟩ : ∃ z, z = y.win := ⟨_, rfl⟩
      rw [← hyid] at hlk hcx
      rw [← hywn] at q0
      have HYI := Lib.hid (And.intro hyid hywn)
      clear S4 S5 S6 HC2 hat hv2 hx hxk hxm hxo hm hyi hyw hno hxo2 hyid hywn hy
      cases hop : y.op with
      | false =>
        have hns : ¬ Snd c s t y := fun h => by rw [h.1] at hop; cases hop
        rw [hop] at q3
        have HNS := Lib.hid (HNO.out hns)
        clear hns hop HNO
        go_wp2_with fail
        go_roundw
        case rel => exact ⟨k + 1, rfl, by omega, HNS.out, HS4.out⟩
        case measure => simp [intOf]; omega
      | true =>
        rw [hop] at q3
        have hcan := win_can yw c.cell wr
        cases hwc : winCan yw c.cell with
        | false =>
          have hns : ¬ Snd c s t y := fun h => by have := h.2.1; rw [← HYI.out.2, hwc] at this; cases this
          have HNS := Lib.hid (HNO.out hns)
          rw [hwc] at hcan
          clear hns hop HNO hwc
          go_wp2_with fail
          (with_reducible refine hcan.mono ?_)
          rintro e w2 ⟨rfl, hb⟩
          have HS5 := Lib.hid (HS4.out.below hb)
          clear hcan hb
          go_wp2_with fail
          go_roundw
          case rel => exact ⟨k + 1, rfl, by omega, HNS.out, HS5.out⟩
          case measure => simp [intOf]; omega
        | true =>
          have HWC := Lib.hid hwc
          have HOP := Lib.hid hop
          rw [hwc] at hcan
          clear hop hwc
          go_wp2_with fail
          (with_reducible refine hcan.mono ?_)
          rintro e w2 ⟨rfl, hb⟩
          have S7 := HS4.out.below hb
          obtain ⟨a3, S8⟩ := out_iff.1 (Sat.re S7 [2, 0, 1])
          have k7 : w2.cell? ⟨o, 7, none⟩ = some (.pointer (some ⟨a3.p, 0, none⟩)) := S8.cell 7
          have hleft := cr_left (Sat.re S8 [3, 0, 1, 2]) HW.out.cg.pos (t : Int)
          obtain ⟨lf, hlf⟩ : ∃ lf, lf = crLeft s.C t := ⟨_, rfl⟩
          rw [← hlf] at hleft
          have HLF := Lib.hid hlf
          have HS7 := Lib.hid S7
          clear hcan hb S7 S8 HS4 hlf q0 q3 k8 hlk hcx
          by_cases hlc : lf < c.cell
          · have hns : ¬ Snd c s t y := fun h => by have := h.2.2; rw [← HLF.out] at this; omega
            have HNS := Lib.hid (HNO.out hns)
            clear hns HNO
            replace hlc := decide_eq_true hlc
            go_wp2_with fail
            (with_reducible refine hleft.mono ?_)
            rintro e w3 ⟨rfl, hb⟩
            have HS8 := Lib.hid (HS7.out.below hb)
            clear hleft hb k7
            go_wp2_with fail
            go_roundw
            case rel => exact ⟨k + 1, rfl, by omega, HNS.out, HS8.out⟩
            case measure => simp [intOf]; omega
          · have HSND : Hid (Snd c s t y) := Lib.hid ⟨HOP.out, by rw [← HYI.out.2]; exact HWC.out, by rw [← HLF.out]; omega⟩
            have HLC := Lib.hid hlc
            replace hlc := decide_eq_false hlc
            clear HNO
            go_wp2_with fail
            (with_reducible refine hleft.mono ?_)
            rintro e w3 ⟨rfl, hb⟩
            have S9 : Sat G1 w3 (outA o c s :: blk r #[.int .i64 0, .int .i64 0, .int .i64 0, .slice none 0 0, .int .i64 0, .int .i64 0, .int .i64 0, .int .i64 0, .int .i64 0] 86 :: l) := (Sat.re (HS7.out.below hb) [0, 2, 1]).drop
            obtain ⟨a4, v4, RL, hv4, -, S10, HC4⟩ := out_stream S9 HY.out.1
            have hne := HW.out.mo y HY.out.1 HOP.out
            obtain ⟨A4, cp4, rfl, hnc4, hcm4, hA4⟩ := hv4.form
            obtain ⟨N, hN⟩ : ∃ N, N = y.bs.length := ⟨_, rfl⟩
            have hN0 : 0 < N := by rw [hN]; exact List.length_pos_iff.2 hne
            have hNb : N ≤ 1048576 := by rw [hN]; exact (HW.out.mw y HY.out.1).2.2
            obtain ⟨ad, rfl⟩ : ∃ ad, A4 = some ad := by
              cases A4 with
              | none => have := hA4 rfl; omega
              | some ad => exact ⟨ad, rfl⟩
            rw [← hN] at S10 hv4 hnc4
            obtain ⟨m, hm⟩ : ∃ m, m = cellN c y := ⟨_, rfl⟩
            have hcc0 := HW.out.c0
            have hcc1 := HW.out.c1
            have hmN : m ≤ N := by rw [hm, hN]; exact Nat.min_le_right _ _
            have hmm : min (c.cell - 1) (N : Int) = (m : Int) := by rw [hm, hN]; unfold cellN; omega
            have hm1 : (m : Int) + 1 ≤ c.cell := by rw [hm]; unfold cellN; omega
            have hw1 : IntKind.i64.wrap (c.cell - 1) = c.cell - 1 := IntWalk.i64_in _ (by omega)
            have hcm4b : cp4 ≤ 9223372036854775807 := hcm4
            have e0 := S10.cell 0
            have e1 := S10.cell 1
            have e2 := S10.cell 2
            have e3 := S10.cell 3
            have HMN := Lib.hid (And.intro hm hN)
            clear hleft hb k7 S9 hne hm hN hA4 HS7
            go_upto_region 8 with (fail)
            clear e0 e1 e2 e3
            obtain ⟨d, hd0⟩ : ∃ d : Bool, ((m : Int) == (N : Int)) = d := ⟨_, rfl⟩
            obtain ⟨fl, hfl⟩ : ∃ fl : Int, fl = if d then 9 else 8 := ⟨_, rfl⟩
            obtain ⟨pl, hpl⟩ : ∃ pl, pl = (padB (y.bs.take m) (c.cell - 1 - m).toNat).length := ⟨_, rfl⟩
            obtain ⟨yp, hyp⟩ : ∃ yp, yp = y.p := ⟨_, rfl⟩
            obtain ⟨num, hnum⟩ : ∃ num, num = y.num := ⟨_, rfl⟩
            rw [← hyp, ← hnum, ← HYI.out.2, HOP.out] at S10
            rw [← hyp]
            have hmc : m ≤ cp4 := by omega
            obtain ⟨E, hE⟩ : ∃ E : List Asrt, E = blk o (obC c a4 s.last) 72 :: mpA a4.mb (s.M.map Sm.kp) :: (RL ++ (blk r #[.int .i64 0, .int .i64 0, .int .i64 0, .slice none 0 0, .int .i64 0, .int .i64 0, .int .i64 0, .int .i64 0, .int .i64 0] 86 :: l)) := ⟨_, rfl⟩
            rw [← hE] at S10
            have HE := Lib.hid hE
            have HC5 : Hid (∀ G' W (y' : Sm) v' q fr, y'.kp = y.kp → SlB (Go.Proofs.YtcecfhfbcdbofaaGreatDoor.cellR G'.ro) v' y'.bs → Sat G' W (blk yp #[.int .i64 y'.win, .int .i64 y'.num, v', .bool y'.op] 108 :: blk q fr 84 :: E) → Sat G' W (outA o c { s with M := y' :: s.M.erase y } :: blk q fr 84 :: blk r #[.int .i64 0, .int .i64 0, .int .i64 0, .slice none 0 0, .int .i64 0, .int .i64 0, .int .i64 0, .int .i64 0, .int .i64 0] 86 :: l)) := Lib.hid fun G' W y' v' q fr hk hv S => by
              rw [hE, hyp] at S
              exact HC4 _ _ (blk q fr 84 :: blk r #[.int .i64 0, .int .i64 0, .int .i64 0, .slice none 0 0, .int .i64 0, .int .i64 0, .int .i64 0, .int .i64 0, .int .i64 0] 86 :: l) y' v' hk hv (Sat.dim (blk y.p #[.int .i64 y'.win, .int .i64 y'.num, v', .bool y'.op] 108 :: blk o (obC c a4 s.last) 72 :: mpA a4.mb (s.M.map Sm.kp) :: RL) (S.swap))
            have HV4 := Lib.hid hv4
            have HYP := Lib.hid (And.intro hyp hnum)
            have HPAD : Hid (∀ (G2 : Gnd) (W : World) (L' : List Asrt), G1.le G2 → Sat G2 W L' → Calls Tryz.prog 70 #[.int .i64 yid, .slice (some ad) m cp4, .bool d, .int .i64 c.cell] W fun e w' => ∃ G' AU cu, G2.le G' ∧ e = .returned (.tuple #[.agg #[.int .i64 0, .int .i64 fl, .int .i64 yid, .slice AU pl cu], .int .i64 0]) ∧ Sat G' w' L' ∧ SlB (Go.Proofs.YtcecfhfbcdbofaaGreatDoor.cellR G'.ro) (.slice AU pl cu) (padB (y.bs.take m) (c.cell - 1 - m).toNat)) := Lib.hid fun G2 W L' hG2 S => by
              have hyi := HY.out.2.2.1
              have htk : (y.bs.take m).length = m := by rw [List.length_take, ← HMN.out.2]; omega
              have hs : SlB (Go.Proofs.YtcecfhfbcdbofaaGreatDoor.cellR G2.ro) (.slice (some ad) m cp4) (y.bs.take m) := SlB.to (hv4.mono hG2) m hmN cp4 (by omega) (Nat.le_refl _)
              refine (cell_pad S yid c.cell _ _ d hs (by rw [HYI.out.1]; exact decide_eq_true ⟨hyi.1, hyi.2.1, by omega, by omega⟩) (c.cell - 1 - m).toNat (by rw [htk]; omega) (by omega)).mono ?_
              rintro e w' ⟨G', u, hG', rfl, S', hv'⟩
              obtain ⟨AU, cu, rfl, -⟩ := hv'.form
              rw [← hpl] at hv' ⊢
              exact ⟨G', AU, cu, hG', by rw [hfl], S', hv'⟩
            have HFL := Lib.hid (And.intro hd0 hfl)
            clear hE hv4 hyp hnum hfl hpl
            refine wp_act fun a0 ha0 => ?_
            have HSZ : a0.tmps.size = 128 := by rw [ha0]; rfl
            have E8 : a0.eval (.tmp 8) = .int .i64 yid := by rw [ha0]; rfl
            have E9 : a0.eval (.tmp 9) = .pointer (some ⟨yp, 0, none⟩) := by rw [ha0]; rfl
            have E10 : a0.eval (.tmp 10) = .int .i64 m := by rw [ha0]; rfl
            have E6 : a0.eval (.tmp 6) = .int .i64 c.cell := by rw [ha0]; rfl
            refine wp_region_J (by kernel_rfl) 22 (by kernel_rfl) [[], [], [1], [2], [3], [], [4, 5], [], [], [8], [9], [10], [11], [7, 12], [], [0, 6, 13, 14], [15], [16], [16], [], [19, 17, 15, 0, 1, 2, 3, 4, 5, 6, 7, 8, 9, 10, 11, 12, 13, 14, 15, 16, 17, 19], [18, 20, 0, 1, 2, 3, 4, 5, 6, 7, 8, 9, 10, 11, 12, 13, 14, 15, 16, 17, 18, 19, 20]] (by kernel_rfl) (by kernel_rfl) (fun f a' W => ∃ (G2 : Gnd) (AU : Option Addr) (cu q : Nat) (cs : Array Value), G1.le G2 ∧ ((f 16 = true → f 15 = true) ∧ (f 17 = true → f 16 = true) ∧ (f 20 = true → f 19 = true ∧ f 17 = true)) ∧ (f 20 = false → cs = #[.int .i64 0, .int .i64 0, .int .i64 0, .slice none 0 0]) ∧ (f 20 = true → cs = #[.int .i64 0, .int .i64 fl, .int .i64 yid, .slice AU pl cu]) ∧ (f 15 = true → SlB (Go.Proofs.YtcecfhfbcdbofaaGreatDoor.cellR G2.ro) (.slice AU pl cu) (padB (y.bs.take m) (c.cell - 1 - m).toNat)) ∧ a' = acts [(0, 66, .int .i64 yid), (1, 67, .pointer (some ⟨yp, 0, none⟩)), (2, 68, .pointer (some ⟨yp, 0, none⟩)), (3, 69, .pointer (some ⟨yp, 2, none⟩)), (4, 70, .slice (some ad) N cp4), (5, 71, .int .i64 m), (6, 72, .slice (some ad) m cp4), (7, 73, .int .i64 m), (8, 74, .pointer (some ⟨yp, 0, none⟩)), (9, 75, .pointer (some ⟨yp, 0, none⟩)), (10, 76, .pointer (some ⟨yp, 2, none⟩)), (11, 77, .slice (some ad) N cp4), (12, 78, .int .i64 N), (13, 79, .bool d), (14, 80, .int .i64 c.cell), (15, 81, .tuple #[.agg #[.int .i64 0, .int .i64 fl, .int .i64 yid, .slice AU pl cu], .int .i64 0]), (16, 65, .tuple #[.agg #[.int .i64 0, .int .i64 fl, .int .i64 yid, .slice AU pl cu], .int .i64 0]), (17, 82, .agg #[.int .i64 0, .int .i64 fl, .int .i64 yid, .slice AU pl cu]), (18, 83, .int .i64 0), (19, 11, .pointer (some ⟨q, 0, none⟩)), (21, 12, .int .i64 0)] f a0 ∧ Sat G2 W (opt (f 19) (blk q cs 84) :: blk yp #[.int .i64 yw, .int .i64 num, .slice (some ad) N cp4, .bool true] 108 :: E)) ?_ ?_ ?_
            · exact ⟨G1, none, 0, 0, _, Gnd.le.rfl', ⟨fun h => (by cases h), fun h => (by cases h), fun h => (by cases h)⟩, fun _ => rfl, fun h => (by cases h), fun h => (by cases h), rfl, Sat.opt0 S10.drew⟩
            · refine ⟨?_, ?_, ?_, ?_, ?_, ?_, ?_, ?_, ?_, ?_, ?_, ?_, ?_, ?_, ?_, ?_, ?_, ?_, ?_, ?_, ?_, ?_, trivial⟩
              · rintro f a' W h0 hd ⟨G2, AU, cu, q, cs, hG2, hh, hc0, hc1, hsl, rfl, S⟩
                refine wpOp_run (v := .int .i64 yid) rfl rfl (fun ρ hρ => ?_) ⟨G2, AU, cu, q, cs, hG2, hh, hc0, hc1, hsl, (acts_some 0 rfl (by kernel_rfl) (by kernel_rfl)).symm, S⟩
                have e0 : ρ (.tmp 8) = .int .i64 yid := by rw [hρ]; exact (acts_eval_tmp 8 (by kernel_rfl)).trans E8
                clear hρ
                go_simp
              · rintro f a' W h1 hd ⟨G2, AU, cu, q, cs, hG2, hh, hc0, hc1, hsl, rfl, S⟩
                refine wpOp_run (v := .pointer (some ⟨yp, 0, none⟩)) rfl rfl (fun ρ hρ => ?_) ⟨G2, AU, cu, q, cs, hG2, hh, hc0, hc1, hsl, (acts_some 1 rfl (by kernel_rfl) (by kernel_rfl)).symm, S⟩
                have e0 : ρ (.tmp 9) = .pointer (some ⟨yp, 0, none⟩) := by rw [hρ]; exact (acts_eval_tmp 9 (by kernel_rfl)).trans E9
                clear hρ
                go_simp
              · rintro f a' W h2 hd ⟨G2, AU, cu, q, cs, hG2, hh, hc0, hc1, hsl, rfl, S⟩
                refine wpOp_run (v := .pointer (some ⟨yp, 0, none⟩)) rfl rfl (fun ρ hρ => ?_) ⟨G2, AU, cu, q, cs, hG2, hh, hc0, hc1, hsl, (acts_some 2 rfl (by kernel_rfl) (by kernel_rfl)).symm, S⟩
                have e0 : ρ (.tmp 67) = .pointer (some ⟨yp, 0, none⟩) := by rw [hρ]; exact acts_eval_hit 1 rfl hd.1 (by rw [HSZ]; rfl) (by kernel_rfl)
                clear hρ
                go_simp
              · rintro f a' W h3 hd ⟨G2, AU, cu, q, cs, hG2, hh, hc0, hc1, hsl, rfl, S⟩
                refine wpOp_run (v := .pointer (some ⟨yp, 2, none⟩)) rfl rfl (fun ρ hρ => ?_) ⟨G2, AU, cu, q, cs, hG2, hh, hc0, hc1, hsl, (acts_some 3 rfl (by kernel_rfl) (by kernel_rfl)).symm, S⟩
                have e0 : ρ (.tmp 68) = .pointer (some ⟨yp, 0, none⟩) := by rw [hρ]; exact acts_eval_hit 2 rfl hd.1 (by rw [HSZ]; rfl) (by kernel_rfl)
                clear hρ
                go_simp
              · rintro f a' W h4 hd ⟨G2, AU, cu, q, cs, hG2, hh, hc0, hc1, hsl, rfl, S⟩
                refine wpOp_run (v := .slice (some ad) N cp4) rfl rfl (fun ρ hρ => ?_) ⟨G2, AU, cu, q, cs, hG2, hh, hc0, hc1, hsl, (acts_some 4 rfl (by kernel_rfl) (by kernel_rfl)).symm, S⟩
                have e0 : ρ (.tmp 69) = .pointer (some ⟨yp, 2, none⟩) := by rw [hρ]; exact acts_eval_hit 3 rfl hd.1 (by rw [HSZ]; rfl) (by kernel_rfl)
                clear hρ
                (have hz := S.swap.cell 2)
                go_simp
              · rintro f a' W h5 hd ⟨G2, AU, cu, q, cs, hG2, hh, hc0, hc1, hsl, rfl, S⟩
                refine wpOp_run (v := .int .i64 m) rfl rfl (fun ρ hρ => ?_) ⟨G2, AU, cu, q, cs, hG2, hh, hc0, hc1, hsl, (acts_some 5 rfl (by kernel_rfl) (by kernel_rfl)).symm, S⟩
                have e0 : ρ (.tmp 10) = .int .i64 m := by rw [hρ]; exact (acts_eval_tmp 10 (by kernel_rfl)).trans E10
                clear hρ
                go_simp
              · rintro f a' W h6 hd ⟨G2, AU, cu, q, cs, hG2, hh, hc0, hc1, hsl, rfl, S⟩
                refine wpOp_run (v := .slice (some ad) m cp4) rfl rfl (fun ρ hρ => ?_) ⟨G2, AU, cu, q, cs, hG2, hh, hc0, hc1, hsl, (acts_some 6 rfl (by kernel_rfl) (by kernel_rfl)).symm, S⟩
                have e0 : ρ (.tmp 70) = .slice (some ad) N cp4 := by rw [hρ]; exact acts_eval_hit 4 rfl hd.1 (by rw [HSZ]; rfl) (by kernel_rfl)
                have e1 : ρ (.tmp 71) = .int .i64 m := by rw [hρ]; exact acts_eval_hit 5 rfl hd.2.1 (by rw [HSZ]; rfl) (by kernel_rfl)
                clear hρ
                go_simp
              · rintro f a' W h7 hd ⟨G2, AU, cu, q, cs, hG2, hh, hc0, hc1, hsl, rfl, S⟩
                refine wpOp_run (v := .int .i64 m) rfl rfl (fun ρ hρ => ?_) ⟨G2, AU, cu, q, cs, hG2, hh, hc0, hc1, hsl, (acts_some 7 rfl (by kernel_rfl) (by kernel_rfl)).symm, S⟩
                have e0 : ρ (.tmp 10) = .int .i64 m := by rw [hρ]; exact (acts_eval_tmp 10 (by kernel_rfl)).trans E10
                clear hρ
                go_simp
              · rintro f a' W h8 hd ⟨G2, AU, cu, q, cs, hG2, hh, hc0, hc1, hsl, rfl, S⟩
                refine wpOp_run (v := .pointer (some ⟨yp, 0, none⟩)) rfl rfl (fun ρ hρ => ?_) ⟨G2, AU, cu, q, cs, hG2, hh, hc0, hc1, hsl, (acts_some 8 rfl (by kernel_rfl) (by kernel_rfl)).symm, S⟩
                have e0 : ρ (.tmp 9) = .pointer (some ⟨yp, 0, none⟩) := by rw [hρ]; exact (acts_eval_tmp 9 (by kernel_rfl)).trans E9
                clear hρ
                go_simp
              · rintro f a' W h9 hd ⟨G2, AU, cu, q, cs, hG2, hh, hc0, hc1, hsl, rfl, S⟩
                refine wpOp_run (v := .pointer (some ⟨yp, 0, none⟩)) rfl rfl (fun ρ hρ => ?_) ⟨G2, AU, cu, q, cs, hG2, hh, hc0, hc1, hsl, (acts_some 9 rfl (by kernel_rfl) (by kernel_rfl)).symm, S⟩
                have e0 : ρ (.tmp 74) = .pointer (some ⟨yp, 0, none⟩) := by rw [hρ]; exact acts_eval_hit 8 rfl hd.1 (by rw [HSZ]; rfl) (by kernel_rfl)
                clear hρ
                go_simp
              · rintro f a' W h10 hd ⟨G2, AU, cu, q, cs, hG2, hh, hc0, hc1, hsl, rfl, S⟩
                refine wpOp_run (v := .pointer (some ⟨yp, 2, none⟩)) rfl rfl (fun ρ hρ => ?_) ⟨G2, AU, cu, q, cs, hG2, hh, hc0, hc1, hsl, (acts_some 10 rfl (by kernel_rfl) (by kernel_rfl)).symm, S⟩
                have e0 : ρ (.tmp 75) = .pointer (some ⟨yp, 0, none⟩) := by rw [hρ]; exact acts_eval_hit 9 rfl hd.1 (by rw [HSZ]; rfl) (by kernel_rfl)
                clear hρ
                go_simp
              · rintro f a' W h11 hd ⟨G2, AU, cu, q, cs, hG2, hh, hc0, hc1, hsl, rfl, S⟩
                refine wpOp_run (v := .slice (some ad) N cp4) rfl rfl (fun ρ hρ => ?_) ⟨G2, AU, cu, q, cs, hG2, hh, hc0, hc1, hsl, (acts_some 11 rfl (by kernel_rfl) (by kernel_rfl)).symm, S⟩
                have e0 : ρ (.tmp 76) = .pointer (some ⟨yp, 2, none⟩) := by rw [hρ]; exact acts_eval_hit 10 rfl hd.1 (by rw [HSZ]; rfl) (by kernel_rfl)
                clear hρ
                (have hz := S.swap.cell 2)
                go_simp
              · rintro f a' W h12 hd ⟨G2, AU, cu, q, cs, hG2, hh, hc0, hc1, hsl, rfl, S⟩
                refine wpOp_run (v := .int .i64 N) rfl rfl (fun ρ hρ => ?_) ⟨G2, AU, cu, q, cs, hG2, hh, hc0, hc1, hsl, (acts_some 12 rfl (by kernel_rfl) (by kernel_rfl)).symm, S⟩
                have e0 : ρ (.tmp 77) = .slice (some ad) N cp4 := by rw [hρ]; exact acts_eval_hit 11 rfl hd.1 (by rw [HSZ]; rfl) (by kernel_rfl)
                clear hρ
                go_simp
              · rintro f a' W h13 hd ⟨G2, AU, cu, q, cs, hG2, hh, hc0, hc1, hsl, rfl, S⟩
                refine wpOp_run (v := .bool d) rfl rfl (fun ρ hρ => ?_) ⟨G2, AU, cu, q, cs, hG2, hh, hc0, hc1, hsl, (acts_some 13 rfl (by kernel_rfl) (by kernel_rfl)).symm, S⟩
                have e0 : ρ (.tmp 73) = .int .i64 m := by rw [hρ]; exact acts_eval_hit 7 rfl hd.1 (by rw [HSZ]; rfl) (by kernel_rfl)
                have e1 : ρ (.tmp 78) = .int .i64 N := by rw [hρ]; exact acts_eval_hit 12 rfl hd.2.1 (by rw [HSZ]; rfl) (by kernel_rfl)
                clear hρ
                go_simp
              · rintro f a' W h14 hd ⟨G2, AU, cu, q, cs, hG2, hh, hc0, hc1, hsl, rfl, S⟩
                refine wpOp_run (v := .int .i64 c.cell) rfl rfl (fun ρ hρ => ?_) ⟨G2, AU, cu, q, cs, hG2, hh, hc0, hc1, hsl, (acts_some 14 rfl (by kernel_rfl) (by kernel_rfl)).symm, S⟩
                have e0 : ρ (.tmp 6) = .int .i64 c.cell := by rw [hρ]; exact (acts_eval_tmp 6 (by kernel_rfl)).trans E6
                clear hρ
                go_simp
              · rintro f a' W h15 hd ⟨G2, AU, cu, q, cs, hG2, hh, hc0, hc1, hsl, rfl, S⟩
                refine wpOp_call rfl rfl (fun ρ hρ => ?_) ((HPAD.out G2 W _ hG2 S)) ?_
                · skip
                  have e0 : ρ (.tmp 66) = .int .i64 yid := by rw [hρ]; exact acts_eval_hit 0 rfl hd.1 (by rw [HSZ]; rfl) (by kernel_rfl)
                  have e1 : ρ (.tmp 72) = .slice (some ad) m cp4 := by rw [hρ]; exact acts_eval_hit 6 rfl hd.2.1 (by rw [HSZ]; rfl) (by kernel_rfl)
                  have e2 : ρ (.tmp 79) = .bool d := by rw [hρ]; exact acts_eval_hit 13 rfl hd.2.2.1 (by rw [HSZ]; rfl) (by kernel_rfl)
                  have e3 : ρ (.tmp 80) = .int .i64 c.cell := by rw [hρ]; exact acts_eval_hit 14 rfl hd.2.2.2.1 (by rw [HSZ]; rfl) (by kernel_rfl)
                  have ef : ρ (.func 70) = .func (.func 70) #[] #[] := by rw [hρ]; rfl
                  clear hρ
                  go_simp
                · (rintro e W' ⟨G3, AU', cu', hG3, rfl, S', hv'⟩; have h16 : f 16 = false := no_of hh.1 h15; have h17 : f 17 = false := no_of hh.2.1 h16; have h20 : f 20 = false := no_of (fun h => (hh.2.2 h).2) h17; exact ⟨_, rfl, G3, AU', cu', q, cs, hG2.trans hG3, ⟨fun _ => rfl, hh.2.1, hh.2.2⟩, hc0, fun h => absurd h (by rw [show upd f 15 20 = f 20 from rfl, h20]; decide), fun _ => hv', acts_swap (by simp only [acts, h15, h16, h17, Bool.false_eq_true, if_false]) (k := 15) rfl (by kernel_rfl) (by kernel_rfl), S'⟩)
              · rintro f a' W h16 hd ⟨G2, AU, cu, q, cs, hG2, hh, hc0, hc1, hsl, rfl, S⟩
                refine wpOp_run (v := .tuple #[.agg #[.int .i64 0, .int .i64 fl, .int .i64 yid, .slice AU pl cu], .int .i64 0]) rfl rfl (fun ρ hρ => ?_) ⟨G2, AU, cu, q, cs, hG2, ⟨fun _ => hd.1, fun _ => rfl, hh.2.2⟩, hc0, hc1, hsl, (acts_some 16 rfl (by kernel_rfl) (by kernel_rfl)).symm, S⟩
                have e0 : ρ (.tmp 81) = .tuple #[.agg #[.int .i64 0, .int .i64 fl, .int .i64 yid, .slice AU pl cu], .int .i64 0] := by rw [hρ]; exact acts_eval_hit 15 rfl hd.1 (by rw [HSZ]; rfl) (by kernel_rfl)
                clear hρ
                go_simp
              · rintro f a' W h17 hd ⟨G2, AU, cu, q, cs, hG2, hh, hc0, hc1, hsl, rfl, S⟩
                refine wpOp_run (v := .agg #[.int .i64 0, .int .i64 fl, .int .i64 yid, .slice AU pl cu]) rfl rfl (fun ρ hρ => ?_) ⟨G2, AU, cu, q, cs, hG2, ⟨hh.1, fun _ => hd.1, fun h => ⟨(hh.2.2 h).1, rfl⟩⟩, hc0, hc1, hsl, (acts_some 17 rfl (by kernel_rfl) (by kernel_rfl)).symm, S⟩
                have e0 : ρ (.tmp 65) = .tuple #[.agg #[.int .i64 0, .int .i64 fl, .int .i64 yid, .slice AU pl cu], .int .i64 0] := by rw [hρ]; exact acts_eval_hit 16 rfl hd.1 (by rw [HSZ]; rfl) (by kernel_rfl)
                clear hρ
                go_simp
              · rintro f a' W h18 hd ⟨G2, AU, cu, q, cs, hG2, hh, hc0, hc1, hsl, rfl, S⟩
                refine wpOp_run (v := .int .i64 0) rfl rfl (fun ρ hρ => ?_) ⟨G2, AU, cu, q, cs, hG2, hh, hc0, hc1, hsl, (acts_some 18 rfl (by kernel_rfl) (by kernel_rfl)).symm, S⟩
                have e0 : ρ (.tmp 65) = .tuple #[.agg #[.int .i64 0, .int .i64 fl, .int .i64 yid, .slice AU pl cu], .int .i64 0] := by rw [hρ]; exact acts_eval_hit 16 rfl hd.1 (by rw [HSZ]; rfl) (by kernel_rfl)
                clear hρ
                go_simp
              · rintro f a' W h19 hd ⟨G2, AU, cu, q, cs, hG2, hh, hc0, hc1, hsl, rfl, S⟩
                have h20 : f 20 = false := no_of (fun h => (hh.2.2 h).1) h19
                refine wpOp_mem (v := .pointer (some ⟨W.heap.size, 0, none⟩)) (w' := W.alloc (.cells #[.int .i64 0, .int .i64 0, .int .i64 0, .slice none 0 0] 84)) rfl rfl (fun ρ hρ => ?_) (⟨G2, AU, cu, W.heap.size, _, hG2, ⟨hh.1, hh.2.1, fun h => ⟨rfl, (hh.2.2 h).2⟩⟩, fun _ => rfl, fun h => absurd h (by rw [show upd f 19 20 = f 20 from rfl, h20]; decide), hsl, acts_swap (by simp only [acts, h19, Bool.false_eq_true, if_false]) (k := 19) rfl (by kernel_rfl) (by kernel_rfl), Sat.optI rfl ((S.newBlk _ _).drop2)⟩)
                clear hρ
                go_simp
              · rintro f a' W h20 hd ⟨G2, AU, cu, q, cs, hG2, hh, hc0, hc1, hsl, rfl, S⟩
                rw [hc0 h20] at S
                refine wpOp_list rfl ?_
                refine st_store rfl _ _ _ rfl _ _ (acts_eval_hit 19 rfl hd.1 (by rw [HSZ]; rfl) (by kernel_rfl)) (acts_eval_hit 17 rfl hd.2.1 (by rw [HSZ]; rfl) (by kernel_rfl)) _ _ (Sat.optE hd.1 S) rfl rfl (by simp [Value.oneCell']) fun W' S' => ?_
                exact ⟨G2, AU, cu, q, _, hG2, ⟨hh.1, hh.2.1, fun _ => ⟨hd.1, hd.2.1⟩⟩, fun h => Bool.noConfusion h, fun _ => rfl, hsl, (acts_none 20 (by kernel_rfl)).symm, Sat.optI hd.1 S'⟩
              · rintro f a' W h21 hd ⟨G2, AU, cu, q, cs, hG2, hh, hc0, hc1, hsl, rfl, S⟩
                refine wpOp_run (v := .int .i64 0) rfl rfl (fun ρ hρ => ?_) ⟨G2, AU, cu, q, cs, hG2, hh, hc0, hc1, hsl, (acts_some 20 rfl (by kernel_rfl) (by kernel_rfl)).symm, S⟩
                have e0 : ρ (.tmp 83) = .int .i64 0 := by rw [hρ]; exact acts_eval_hit 18 rfl hd.1 (by rw [HSZ]; rfl) (by kernel_rfl)
                clear hρ
                go_simp
            · rintro a' W4 ⟨G2, AU, cu, q, cs, hG2, -, -, hcs, hsl, rfl, S11⟩
              obtain rfl := hcs rfl
              have hsl2 := hsl rfl
              subst ha0
              simp (maxSteps := 4000000) only [acts, if_true, Act.put, List.setIfInBounds_toArray, List.set_cons_succ, List.set_cons_zero]
              have S12 := opt_iff.1 S11
              clear S10 S11 HSZ E6 E8 E9 E10 hcs hsl
              obtain ⟨A9, hA9⟩ : ∃ A9, (if cp4 = m then some ad else some (ad.add m)) = A9 := ⟨_, rfl⟩
              have T := S12.swap
              have g0 := T.cell 0
              have g2 := T.cell 2
              have h2 := T.frozen 2
              have S13 := T.setCell 2 (.slice A9 (N - m) (cp4 - m))
              have HS12 := Lib.hid S13
              have HA9 := Lib.hid hA9
              have HSL := Lib.hid hsl2
              clear S12 T S13 hsl2
              go_wp2_with fail
              have hwin : c.cell ≤ yw := (winCan_iff (by omega)).1 HWC.out
              have hwb : 0 ≤ yw ∧ yw ≤ 65535 := by rw [HYI.out.2]; exact ⟨HY.out.2.2.2.1, HY.out.2.2.2.2.1⟩
              have hsp := spend_at (n := c.cell) (off := 0) HS12.out (m := yw) rfl (by omega) (by omega)
              rw [winSpend_eq _ _ (by omega) (by omega), if_pos ⟨by omega, by omega⟩, if_pos hwin] at hsp
              (with_reducible refine hsp.mono ?_)
              rintro e W6 ⟨rfl, S14⟩
              obtain ⟨y1, hy1⟩ : ∃ y1 : Sm, y1 = { y with win := yw - c.cell, bs := y.bs.drop m, op := true } := ⟨_, rfl⟩
              have hsl9 : SlB (Go.Proofs.YtcecfhfbcdbofaaGreatDoor.cellR G2.ro) (.slice A9 (N - m) (cp4 - m)) y1.bs := by
                have := SlB.from (HV4.out.mono hG2) m hmN
                rw [show fromA (some ad) cp4 m = A9 from by rw [← HA9.out]; rfl] at this
                rw [hy1]; exact this
              have S15 := HC5.out G2 W6 y1 (.slice A9 (N - m) (cp4 - m)) q _ (by rw [hy1]; rfl) hsl9 (by rw [hy1]; exact (HYP.out.2 ▸ S14))
              have hy1m : y1 ∈ y1 :: s.M.erase y := List.mem_cons_self
              have HY1 := Lib.hid hy1
              have hw1 : OWf c { s with M := y1 :: s.M.erase y } :=
                { HW.out with
                  ml := by have h1 := List.length_erase_of_mem HY.out.1; have h2 := List.length_pos_of_mem HY.out.1; have := HW.out.ml; simp only [List.length_cons]; omega
                  mw := fun x hx => by
                    rcases List.mem_cons.1 hx with rfl | hx
                    · rw [hy1]; refine ⟨by show 0 ≤ yw - c.cell; omega, by show yw - c.cell ≤ 65535; omega, ?_⟩
                      show (y.bs.drop m).length ≤ _
                      rw [List.length_drop, ← HMN.out.2]; omega
                    · exact HW.out.mw x (List.mem_of_mem_erase hx)
                  mi := fun x hx => by
                    rcases List.mem_cons.1 hx with rfl | hx
                    · rw [hy1]; exact HY.out.2.2.1
                    · exact HW.out.mi x (List.mem_of_mem_erase hx) }
              have HW1 := Lib.hid hw1
              clear hsp S14 hsl9 HS12 g0 g2 h2 hy1 hw1
              obtain ⟨a5, S16⟩ := out_iff.1 S15
              have k7 : W6.cell? ⟨o, 7, none⟩ = some (.pointer (some ⟨a5.p, 0, none⟩)) := S16.cell 7
              have hcs := cr_spend (Sat.re S16 [3, 0, 1, 2]) HW.out.cg (t : Int) c.cell
              have heq := spend_eq HW.out HSND.out HTT.out
              simp only [heq] at hcs
              obtain ⟨C', hC'⟩ : ∃ C', C' = s.C.set t (s.C.getD t 0 - c.cell) := ⟨_, rfl⟩
              rw [← hC'] at hcs
              have hgc : Good C' := by have := spend_good HW.out.cg t c.cell; rw [heq] at this; rw [hC']; exact this
              have hw2 : OWf c { s with M := y1 :: s.M.erase y, C := C' } := { HW1.out with cg := hgc, cl := by show C'.length = _; rw [hC', List.length_set]; exact HW.out.cl }
              have HW2 := Lib.hid hw2
              have HC' := Lib.hid hC'
              have HO5 : Hid (∀ W, Sat G2 W (crA a5.p C' 0 :: blk o (obC c a5 s.last) 72 :: quA a5.q s.Q c.byt c.itm :: rgA a5.g c.ten c.str s.F s.L s.rl :: mpA a5.mb ((y1 :: s.M.erase y).map Sm.kp) :: strA (y1 :: s.M.erase y) :: ctA a5.cv s.D :: ownS 98 1 a5.gv c.ten (noG c.ten) :: blk q #[.int .i64 0, .int .i64 fl, .int .i64 yid, .slice AU pl cu] 84 :: blk r #[.int .i64 0, .int .i64 0, .int .i64 0, .slice none 0 0, .int .i64 0, .int .i64 0, .int .i64 0, .int .i64 0, .int .i64 0] 86 :: l) → Sat G2 W (outA o c { s with M := y1 :: s.M.erase y, C := C' } :: blk q #[.int .i64 0, .int .i64 fl, .int .i64 yid, .slice AU pl cu] 84 :: blk r #[.int .i64 0, .int .i64 0, .int .i64 0, .slice none 0 0, .int .i64 0, .int .i64 0, .int .i64 0, .int .i64 0, .int .i64 0] 86 :: l)) := Lib.hid fun W S => out_iff.2 ⟨a5, Sat.re S [1, 2, 3, 0]⟩
              obtain ⟨rl, hrl⟩ : ∃ rl, rl = N - m := ⟨_, rfl⟩
              have hp1 : y1.p = yp := by rw [HY1.out]; exact HYP.out.1.symm
              have hn1 : y1.num = num := by rw [HY1.out]; exact HYP.out.2.symm
              have hb1 : y1.bs.length = rl := by rw [HY1.out, hrl, HMN.out.2]; exact List.length_drop
              have HJ : Hid (∀ W L', Sat G2 W (outA o c { s with M := y1 :: s.M.erase y, C := C' } :: L') → ∃ A7 n7, W.cell? ⟨yp, 1, none⟩ = some (.int .i64 num) ∧ W.cell? ⟨yp, 2, none⟩ = some (.slice A7 rl n7)) := Lib.hid fun W L' S => by
                obtain ⟨a6, S'⟩ := out_iff.1 S
                obtain ⟨A7, n7, -, j1, j2, -⟩ := st_cells (Sat.re S' [5, 0, 1, 2, 3, 4]) hy1m
                rw [hp1, hn1] at j1
                rw [hp1, hb1] at j2
                exact ⟨A7, n7, j1, j2⟩
              have HRL := Lib.hid hrl
              clear S15 S16 hw2 hgc hC' heq hp1 hn1 hb1 hrl hy1m
              go_wp2_with fail
              (with_reducible refine hcs.mono ?_)
              rintro e W7 ⟨rfl, S17⟩
              have S18 := HO5.out _ S17
              clear hcs S17 HO5 k7
              obtain ⟨A7, n7, j1, j2⟩ := HJ.out _ _ S18
              have hy1m : y1 ∈ y1 :: s.M.erase y := List.mem_cons_self
              by_cases hrl0 : rl = 0
              · have S19 := S18.newBlk #[.int .i64 3, .int .i64 t, .int .i64 yid, .int .i64 num, .int .i64 m] 45
                have S19b := S18.newBlk #[.int .i64 2, .int .i64 t, .int .i64 yid, .int .i64 num, .int .i64 m] 45
                obtain ⟨A8, n8, -, j4⟩ := HJ.out _ _ S19b.swap
                have hmem : newE y.id ∈ s.F := by
                  have h1 : entOf y ∈ s.M.map entOf := List.mem_map_of_mem HY.out.1
                  have h2 := HW.out.mf.mem_iff.2 h1
                  unfold entOf at h2
                  rwa [if_pos HOP.out] at h2
                obtain ⟨i, hi⟩ := List.getElem?_of_mem hmem
                have hid1 : y1.id = y.id := by rw [HY1.out]
                have hend := ob_ended S19.swap HW2.out (HT.out.mono (hG1.trans hG2)) hy1m i (by rw [hid1]; exact hi)
                rw [hid1, ← HYI.out.1] at hend
                have HI := Lib.hid hi
                have HS19 := Lib.hid S19
                subst hrl0
                clear S18 S19 S19b hmem hi hid1
                go_wp2_with fail
                (with_reducible refine hend.mono ?_)
                rintro e W9 ⟨rfl, S20⟩
                have T : Sat G2 W9 (blk r #[.int .i64 0, .int .i64 0, .int .i64 0, .slice none 0 0, .int .i64 0, .int .i64 0, .int .i64 0, .int .i64 0, .int .i64 0] 86 :: blk q _ 84 :: blk W7.heap.size _ 45 :: outA o c _ :: l) := Sat.re S20 [3, 2, 1, 0]
                have i0 := T.swap.cell 0
                have i1 := T.swap.cell 1
                have i2 := T.swap.cell 2
                have i3 := T.swap.cell 3
                have T2 := Sat.re T [2, 0, 1]
                have i4 := T2.cell 0
                have i5 := T2.cell 1
                have i6 := T2.cell 2
                have i7 := T2.cell 3
                have i8 := T2.cell 4
                have d0 := (T).cell 0; have d1 := (T).cell 1; have d2 := (T).cell 2; have d3 := (T).cell 3; have d4 := (T).cell 4; have d5 := (T).cell 5; have d6 := (T).cell 6; have d7 := (T).cell 7; have d8 := (T).cell 8; have f0 := (T).frozen 0; have f1 := (T).frozen 1; have f2 := (T).frozen 2; have f3 := (T).frozen 3; have f4 := (T).frozen 4; have f5 := (T).frozen 5; have f6 := (T).frozen 6; have f7 := (T).frozen 7; have f8 := (T).frozen 8
                have HS := Lib.hid (((((((((T.setCell 0 (.int .i64 0)).setCell 1 (.int .i64 fl)).setCell 2 (.int .i64 yid)).setCell 3 (.slice AU pl cu)).setCell 4 (.int .i64 3)).setCell 5 (.int .i64 t)).setCell 6 (.int .i64 yid)).setCell 7 (.int .i64 num)).setCell 8 (.int .i64 m))
                clear S20 T T2 hend
                go_wp2_with fail
                refine bodyPost_ret (results_cell_t rfl _ _ _ _ _ _ rfl HS.out.blk_at Tryz.underlying86 rfl (by kernel_rfl)) rfl ?_
                have hdn : y.bs.drop m = [] := List.eq_nil_of_length_eq_zero (by rw [List.length_drop, ← HMN.out.2]; exact HRL.out.symm)
                have hsy : sentS c y = { y1 with op := false } := by
                  rw [HY1.out]
                  unfold sentS
                  rw [← HMN.out.1, ← HYI.out.2, hdn]
                  rfl
                have hf9 : fl = 9 := by
                  rw [HFL.out.2, ← HFL.out.1]
                  have h2 := HRL.out
                  rw [if_pos (by simp; omega)]
                have hsop : (sentS c y).op = false := by rw [hsy]
                have hid1 : y1.id = y.id := by rw [HY1.out]
                have hen : entOf (sentS c y) = endE y.id := by
                  unfold entOf; rw [if_neg (by rw [hsop]; exact Bool.false_ne_true)]; rfl
                have hey : entOf y = newE y.id := by unfold entOf; rw [if_pos HOP.out]
                have hmf := HW.out.mf.trans ((List.perm_cons_erase HY.out.1).map entOf)
                rw [List.map_cons, hey] at hmf
                have hinv := body_inv HW.out HY.out.1 HSND.out HTT.out (F' := s.F.set i (endE y.id)) (by rw [List.map_cons, hen]; exact perm_set hmf HI.out) (rising_set HW.out.rf HI.out rfl)
                have her : (y1 :: s.M.erase y).erase y1 = s.M.erase y := List.erase_cons_head _ _
                have HSf := HS.out.drop.drop.drop
                simp only [her] at HSf
                have hsy2 : (⟨yid, y1.p, y1.win, y1.num, y1.bs, false⟩ : Sm) = sentS c y := by rw [hsy, HYI.out.1, ← hid1]
                rw [hsy2] at HSf
                rw [← HC'.out, ← HYI.out.1] at hinv
                have hmr := HMN.out.1
                exact hK.out _ _ ⟨G2, { s with F := s.F.set i (endE yid), M := sentS c y :: s.M.erase y, C := C' }, hG1.trans hG2, .inl ⟨y, HY.out.1, HY.out.2.1, HSND.out, .slice AU pl cu, (c.cell - 1 - m).toNat, by rw [← hmr]; exact HSL.out, by rw [← hmr]; omega, by rw [hsop, ← hmr, ← HYI.out.1, ← HYP.out.2, hf9]; rfl, rfl, HC'.out, rfl, rfl, rfl, rfl, rfl, hinv, by simp⟩, HSf⟩
              · have hz0 : ((rl : Int) == 0) = false := beq_eq_false_iff_ne.2 (by omega)
                have S19 := S18.newBlk #[.int .i64 2, .int .i64 t, .int .i64 yid, .int .i64 num, .int .i64 m] 45
                obtain ⟨A8, n8, -, j4⟩ := HJ.out _ _ S19.swap
                have T : Sat G2 _ (blk r #[.int .i64 0, .int .i64 0, .int .i64 0, .slice none 0 0, .int .i64 0, .int .i64 0, .int .i64 0, .int .i64 0, .int .i64 0] 86 :: blk q _ 84 :: blk W7.heap.size _ 45 :: outA o c _ :: l) := Sat.re S19 [3, 2, 0, 1]
                have i0 := T.swap.cell 0
                have i1 := T.swap.cell 1
                have i2 := T.swap.cell 2
                have i3 := T.swap.cell 3
                have T2 := Sat.re T [2, 0, 1]
                have i4 := T2.cell 0
                have i5 := T2.cell 1
                have i6 := T2.cell 2
                have i7 := T2.cell 3
                have i8 := T2.cell 4
                have d0 := (T).cell 0; have d1 := (T).cell 1; have d2 := (T).cell 2; have d3 := (T).cell 3; have d4 := (T).cell 4; have d5 := (T).cell 5; have d6 := (T).cell 6; have d7 := (T).cell 7; have d8 := (T).cell 8; have f0 := (T).frozen 0; have f1 := (T).frozen 1; have f2 := (T).frozen 2; have f3 := (T).frozen 3; have f4 := (T).frozen 4; have f5 := (T).frozen 5; have f6 := (T).frozen 6; have f7 := (T).frozen 7; have f8 := (T).frozen 8
                have HS := Lib.hid (((((((((T.setCell 0 (.int .i64 0)).setCell 1 (.int .i64 fl)).setCell 2 (.int .i64 yid)).setCell 3 (.slice AU pl cu)).setCell 4 (.int .i64 2)).setCell 5 (.int .i64 t)).setCell 6 (.int .i64 yid)).setCell 7 (.int .i64 num)).setCell 8 (.int .i64 m))
                clear S18 S19 T T2
                go_wp2_with fail
                refine bodyPost_ret (results_cell_t rfl _ _ _ _ _ _ rfl HS.out.blk_at Tryz.underlying86 rfl (by kernel_rfl)) rfl ?_
                have hdn : ¬ y.bs.drop m = [] := fun h => by
                  have h1 := congrArg List.length h
                  rw [List.length_drop, ← HMN.out.2] at h1
                  have h2 := HRL.out
                  simp only [List.length_nil] at h1; omega
                have hsy : sentS c y = y1 := by
                  rw [HY1.out]
                  unfold sentS
                  rw [← HMN.out.1, ← HYI.out.2]
                  congr 1
                  cases hb : y.bs.drop m with
                  | nil => exact absurd hb hdn
                  | cons a b => rfl
                have hop1 : y1.op = true := by rw [HY1.out]
                have hf8 : fl = 8 := by
                  rw [HFL.out.2, ← HFL.out.1]
                  have h2 := HRL.out
                  rw [if_neg (by simp; omega)]
                have hen : entOf (sentS c y) = entOf y := by
                  rw [hsy]; unfold entOf; rw [if_pos hop1, if_pos HOP.out, HY1.out]
                have hinv := body_inv HW.out HY.out.1 HSND.out HTT.out (F' := s.F) (by rw [List.map_cons, hen]; exact HW.out.mf.trans ((List.perm_cons_erase HY.out.1).map entOf)) HW.out.rf
                rw [hsy, ← HC'.out] at hinv
                have hmr := HMN.out.1
                exact hK.out _ _ ⟨G2, { s with M := y1 :: s.M.erase y, C := C' }, hG1.trans hG2, .inl ⟨y, HY.out.1, HY.out.2.1, HSND.out, .slice AU pl cu, (c.cell - 1 - m).toNat, by rw [← hmr]; exact HSL.out, by rw [← hmr]; omega, by rw [hsy, hop1, ← hmr, ← HYI.out.1, ← HYP.out.2, hf8]; rfl, by rw [hsy], HC'.out, rfl, rfl, rfl, rfl, rfl, hinv, rfl⟩, HS.out.drop.drop.drop⟩
    · obtain rfl : k = n := by omega
      have T : Sat G1 wr (blk r #[.int .i64 0, .int .i64 0, .int .i64 0, .slice none 0 0, .int .i64 0, .int .i64 0, .int .i64 0, .int .i64 0, .int .i64 0] 86 :: outA o c s :: l) := S4.drop
      have d0 := (T).cell 0; have d1 := (T).cell 1; have d2 := (T).cell 2; have d3 := (T).cell 3; have d4 := (T).cell 4; have d5 := (T).cell 5; have d6 := (T).cell 6; have d7 := (T).cell 7; have d8 := (T).cell 8; have f0 := (T).frozen 0; have f1 := (T).frozen 1; have f2 := (T).frozen 2; have f3 := (T).frozen 3; have f4 := (T).frozen 4; have f5 := (T).frozen 5; have f6 := (T).frozen 6; have f7 := (T).frozen 7; have f8 := (T).frozen 8
      have HS := Lib.hid (((((((((T.setCell 0 (.int .i64 0)).setCell 1 (.int .i64 0)).setCell 2 (.int .i64 0)).setCell 3 (.slice none 0 0)).setCell 4 (.int .i64 0)).setCell 5 (.int .i64 0)).setCell 6 (.int .i64 0)).setCell 7 (.int .i64 0)).setCell 8 (.int .i64 0))
      have HNO : Hid (∀ y ∈ s.M, ownT y.id c.ten = t → ¬ Snd c s t y) := Lib.hid fun y hy ho => by
        have hm : y.id ∈ xs := (HX.out _).2 (List.mem_filter.2 ⟨List.mem_map.2 ⟨y.kp, List.mem_map.2 ⟨y, hy, rfl⟩, rfl⟩, by simp [ho]⟩)
        obtain ⟨j, hj⟩ := List.getElem?_of_mem hm
        have hj2 := (List.getElem?_eq_some_iff.1 hj).1
        exact hno j (by rw [HN.out]; exact hj2) _ hj y hy rfl
      have HG := Lib.hid hG1
      clear S4 T hno hG1
      go_wp2_with fail
      refine bodyPost_ret (results_cell_t rfl _ _ _ _ _ _ rfl HS.out.blk_at Tryz.underlying86 rfl (by kernel_rfl)) rfl ?_
      exact hK.out _ _ ⟨G1, s, HG.out, .inr ⟨HNO.out, rfl, rfl⟩, HS.out.drop⟩
end
end Go.Proofs.YtcecfhfbcdbofaaGreatDoor
set_option linter.unusedSimpArgs false
set_option linter.unusedVariables false
namespace Go.Proofs.YtcecfhfbcdbofaaGreatDoor
open Go.RowKit

def newS (id : Int) (p : Nat) (x : It) : Sm := ⟨id, p, 65535, x.1, x.2.2, !x.2.2.isEmpty⟩
theorem own_tick {tick : Int} {ten t : Nat} (h0 : 0 ≤ tick) (h1 : tick ≤ 1073741823) (t0 : 1 ≤ ten) (t1 : ten ≤ 64) (ht : tick % (ten : Int) = (t : Int)) : idOf tick = 2 * tick + 1 ∧ ownT (2 * tick + 1) ten = t := by
  refine ⟨if_pos ⟨h0, h1⟩, ?_⟩
  unfold ownT ownR
  rw [if_pos (decide_eq_true ⟨by omega, by omega, by omega, by omega, by omega⟩)]
  rw [show (2 * tick + 1) / 2 = tick by omega]
  exact ht
theorem rising_snoc {F : List Ent} {e : Ent} (h : Rising F) (he : ∀ x ∈ F, x.id < e.id) : Rising (F ++ [e]) := by
  unfold Rising at h ⊢
  rw [List.pairwise_append]
  exact ⟨h, List.pairwise_singleton _ _, fun x hx y hy => by rw [List.mem_singleton] at hy; subst hy; exact he x hx⟩
theorem qsz_tail {x : It} {L : List It} : qsz L ≤ qsz (x :: L) := by rw [qsz_cons]; omega
theorem isum_bump {L : List Int} {t : Nat} (ht : t < L.length) : isum (L.set t (liveAt L t + 1)) = isum L + 1 := by
  rw [isum_set _ _ _ ht]
  have : liveAt L t = L.getD t 0 := by unfold liveAt; rw [if_pos (by omega)]; simp
  rw [this]; omega
theorem live_nonneg {L : List Int} (h : ∀ x ∈ L, 0 ≤ x) (t : Int) : 0 ≤ liveAt L t := by
  unfold liveAt
  split
  · rw [List.getD_eq_getElem?_getD]
    rcases Nat.lt_or_ge t.toNat L.length with h1 | h1
    · rw [List.getElem?_eq_getElem h1]; exact h _ (List.getElem_mem h1)
    · rw [List.getElem?_eq_none h1]; exact Int.le_refl _
  · exact Int.le_refl _
/-- The state behind an opening; F' is what the registry holds then. -/
def openS (s : Os) (t : Nat) (id : Int) (p : Nat) (x : It) (L : List It) (F' : List Ent) : Os :=
  { s with Q := s.Q.set t L, F := F', L := s.L.set t (liveAt s.L t + 1), rl := id, M := newS id p x :: s.M }
theorem open_inv {c : Oc} {s : Os} {t : Nat} {tick : Int} {p : Nat} {x : It} {L : List It} {F' : List Ent} (hw : OInv c s) (ht : t < c.ten) (h0 : 0 ≤ tick) (h1 : tick ≤ 1073741823) (hrl : s.rl < 2 * tick + 1) (hl : tick ≤ s.last)
    (hx : s.Q.getD t [] = x :: L) (hfew : s.F.length < 10000) (hF : F'.Perm ((newS (2 * tick + 1) p x :: s.M).map entOf)) (hr : Rising F') : OInv c (openS s t (2 * tick + 1) p x L F') := by
  have hQ := (hw.q.at_ t)
  rw [hx] at hQ
  have hLt : t < s.L.length := by rw [hw.len]; exact ht
  have hFl : F'.length = s.F.length + 1 := by
    rw [hF.length_eq, hw.mf.length_eq, List.length_map, List.length_map, List.length_cons]
  have hMl : s.M.length = s.F.length := by rw [hw.mf.length_eq, List.length_map]
  have hln := live_nonneg hw.ln t
  have hbz : x.2.2.length ≤ qsz (x :: L) := by rw [qsz_cons]; unfold isz; omega
  have hb1 := hw.q.b1
  have hll : liveAt s.L t ≤ 10000 := by
    have h2 := le_isum hw.ln (liveAt s.L t) (by
      unfold liveAt; rw [if_pos (by omega)]
      exact getD_mem (by simpa using hLt))
    have := hw.ls; omega
  exact { t0 := hw.t0, t1 := hw.t1, c0 := hw.c0, c1 := hw.c1
          q := hw.q.set t L (Int.le_trans (by have := @qsz_tail x L; omega) hQ.1) (by have := hQ.2; simp only [List.length_cons] at this; omega)
          ql := by show (s.Q.set t L).length = _; rw [List.length_set]; exact hw.ql
          r := { t0 := hw.r.t0, t1 := hw.r.t1, q0 := hw.r.q0, q1 := hw.r.q1
                 len := by show ((s.L.set _ _).length : Int) = _; rw [List.length_set]; exact hw.r.len
                 few := by show F'.length ≤ _; omega
                 lo := fun y hy => by
                   rcases List.mem_or_eq_of_mem_set hy with hy | rfl
                   · exact hw.r.lo y hy
                   · omega
                 last0 := by show (0 : Int) ≤ 2 * tick + 1; omega }
          rf := hr
          rb := fun y hy => by
            obtain ⟨z, hz, rfl⟩ := List.mem_map.1 (hF.mem_iff.1 hy)
            exact entOf_bound
          cg := hw.cg, cl := hw.cl
          ml := by show (newS _ _ _ :: s.M).length ≤ _; rw [List.length_cons]; omega
          mw := fun y hy => by
            rcases List.mem_cons.1 hy with rfl | hy
            · exact ⟨show (0 : Int) ≤ 65535 by decide, show (65535 : Int) ≤ 65535 by decide, by show x.2.2.length ≤ _; omega⟩
            · exact hw.mw y hy
          mi := fun y hy => by
            rcases List.mem_cons.1 hy with rfl | hy
            · exact ⟨by show (1 : Int) ≤ 2 * tick + 1; omega, by show 2 * tick + 1 ≤ _; omega, by show (2 * tick + 1) % 2 = 1; omega⟩
            · exact hw.mi y hy
          dl := hw.dl, dn := hw.dn, mf := hF
          mo := fun y hy ho => by
            rcases List.mem_cons.1 hy with rfl | hy
            · intro hb
              have e1 : x.2.2 = [] := hb
              have e2 : (!x.2.2.isEmpty) = true := ho
              rw [e1] at e2; cases e2
            · exact hw.mo y hy ho
          ls := by show isum (s.L.set _ _) = _; rw [isum_bump hLt, hw.ls]; show _ = (F'.length : Int); rw [hFl]; simp
          ln := fun y hy => by
            rcases List.mem_or_eq_of_mem_set hy with hy | rfl
            · exact hw.ln y hy
            · omega
          mr := fun y hy => by
            rcases List.mem_cons.1 hy with rfl | hy
            · exact Int.le_refl _
            · exact Int.le_trans (hw.mr y hy) (by show s.rl ≤ 2 * tick + 1; omega)
          rll := by show 2 * tick + 1 < 2 * s.last + 3; omega
          l0 := hw.l0
          qh := fun X hX z hz => by
            rcases List.mem_or_eq_of_mem_set hX with hX | rfl
            · exact hw.qh X hX z hz
            · refine hw.qh (x :: X) ?_ z (List.mem_cons_of_mem _ hz)
              rw [← hx, List.getD_eq_getElem?_getD, List.getElem?_eq_getElem (by rw [hw.ql]; exact ht)]
              exact List.getElem_mem _ }
end Go.Proofs.YtcecfhfbcdbofaaGreatDoor
