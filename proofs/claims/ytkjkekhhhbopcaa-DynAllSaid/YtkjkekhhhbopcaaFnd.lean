/- What Find answers; fields compared. -/
import Derived.Test.YtkjkekhhhbopcaaAllD
set_option linter.unusedSimpArgs false
set_option linter.unusedVariables false
namespace Go.Proofs.Ytkjkekhhhbopcaa
open Go.RowKit Go.Shelf
attribute [local go_sem] Oper.semAt_some

def firstAt (p : Fd → Bool) : List Fd → Nat
  | [] => 0
  | x :: L => if p x then 1 else if firstAt p L = 0 then 0 else firstAt p L + 1
theorem firstAt_snoc (p : Fd → Bool) (x : Fd) : ∀ L : List Fd, firstAt p (L ++ [x]) = if firstAt p L ≠ 0 then firstAt p L else if p x then L.length + 1 else 0
  | [] => by simp [firstAt]
  | y :: L => by
    rw [List.cons_append, firstAt, firstAt_snoc p x L, firstAt]
    by_cases h1 : p y = true
    · simp [h1]
    · rw [if_neg h1, if_neg h1]
      by_cases h2 : firstAt p L = 0
      · by_cases h3 : p x = true
        · simp [h2, h3]
        · simp [h2, h3]
      · simp [h2]
theorem firstAt_zero {p : Fd → Bool} : ∀ {L : List Fd}, firstAt p L = 0 → ∀ y ∈ L, p y = false
  | [], _, y, hy => by cases hy
  | x :: L, h, y, hy => by
    rw [firstAt] at h
    by_cases h1 : p x = true
    · rw [if_pos h1] at h; cases h
    · rw [if_neg h1] at h
      have h2 : firstAt p L = 0 := by
        by_cases h2 : firstAt p L = 0
        · exact h2
        · rw [if_neg h2] at h; omega
      rcases List.mem_cons.1 hy with rfl | hy
      · exact eq_false_of_ne_true h1
      · exact firstAt_zero h2 y hy
theorem firstAt_le (p : Fd → Bool) : ∀ L : List Fd, firstAt p L ≤ L.length
  | [] => Nat.le_refl _
  | x :: L => by
    rw [firstAt]
    have := firstAt_le p L
    simp only [List.length_cons]
    split
    · omega
    · split <;> omega
def isN (f : Fd) : Fd → Bool := fun y => decide (y.1 = f.1)
def isF (f : Fd) : Fd → Bool := fun y => decide (y = f)
def findR (L : List Fd) (f : Fd) : Nat × Bool := if firstAt (isF f) L = 0 then (firstAt (isN f) L, false) else (firstAt (isF f) L, true)
theorem firstAt_pre {p : Fd → Bool} {x : Fd} {A B : List Fd} (h : firstAt p A = 0) (hx : p x = true) : firstAt p (A ++ [x] ++ B) = A.length + 1 := by
  induction A with
  | nil => simp [firstAt, hx]
  | cons y A ih =>
    rw [firstAt] at h
    by_cases h1 : p y = true
    · rw [if_pos h1] at h; cases h
    · rw [if_neg h1] at h
      have h2 : firstAt p A = 0 := by
        by_cases h2 : firstAt p A = 0
        · exact h2
        · rw [if_neg h2] at h; omega
      have := ih h2
      rw [List.cons_append, List.cons_append, firstAt, if_neg h1, this]
      simp
theorem firstAt_none {f : Fd} : ∀ {L : List Fd}, (∀ y ∈ L, y ≠ f) → firstAt (isF f) L = 0
  | [], _ => rfl
  | x :: L, h => by
    have h1 : isF f x = false := decide_eq_false (h x (List.mem_cons_self ..))
    have h2 := firstAt_none (f := f) (L := L) fun y hy => h y (List.mem_cons_of_mem _ hy)
    rw [firstAt, h1, h2]; rfl
/-- Two results that lie in cells. -/
theorem results_cc {P : Program} {fn : Func} {p1 p2 : Tmp} {y1 y2 : TypeId} (h : fn.results = #[.cell p1 y1, .cell p2 y2]) (tmps : Array Value) (w : World) (g1 g2 : Nat) (v1 v2 : Value)
    (hp1 : tmps.getD p1 undef = .pointer (some ⟨g1, 0, none⟩)) (hp2 : tmps.getD p2 undef = .pointer (some ⟨g2, 0, none⟩))
    (h1 : ∀ W : World, W.cell? ⟨g1, 0, none⟩ = some v1 → (loadVar y1 ⟨g1, 0, none⟩).run P W = .ok v1 W) (h2 : ∀ W : World, W.cell? ⟨g2, 0, none⟩ = some v2 → (loadVar y2 ⟨g2, 0, none⟩).run P W = .ok v2 W)
    (c1 : w.cell? ⟨g1, 0, none⟩ = some v1) (c2 : w.cell? ⟨g2, 0, none⟩ = some v2) : (results fn tmps).run P w = .ok (.tuple #[v1, v2]) w := by
  have e1 : tmps[p1]?.getD undef = .pointer (some ⟨g1, 0, none⟩) := by simpa using hp1
  have e2 : tmps[p2]?.getD undef = .pointer (some ⟨g2, 0, none⟩) := by simpa using hp2
  simp [results, h, e1, e2, asAddr, h1 w c1, h2 w c2]
theorem bstr_inj {a b : List UInt8} (h : bstr a = bstr b) : a = b := by
  have := congrArg (fun s : ByteArray => s.data.toList) h
  simpa [bstr] using this
theorem eq_fd (x f : Fd) (w : World) : (Op.equalIn 10000 23 (.agg #[.string (bstr x.1), .string (bstr x.2)]) (.agg #[.string (bstr f.1), .string (bstr f.2)])).run Try.prog w = .ok (decide (x = f)) w := by
  have u3 := Try.underlying9
  have a3 := Try.isAgg9
  have z3 := Try.sizeOf9
  obtain ⟨x1, x2⟩ := x
  obtain ⟨f1, f2⟩ := f
  rw [show (10000 : Nat) = 9999 + 1 from rfl, Op.equalIn]
  simp only [Sem.run_bind, run_underlying Try.underlying23, Result.andThen_ok]
  by_cases e1 : x1 = f1
  · by_cases e2 : x2 = f2
    · subst e1; subst e2
      rw [decide_eq_true rfl]
      go_simp
    · rw [decide_eq_false (by simp [e2])]
      subst e1
      go_simp
      rw [bstr_list, bstr_list]
      exact e2
  · rw [decide_eq_false (by simp [e1])]
    go_simp
    rw [bstr_list, bstr_list]
    exact fun h => absurd h e1

def findB (f : Fd) (r3 r4 r5 r6 : Nat) (l : List Asrt) (pre : List Fd) : List Asrt := pur (∀ y ∈ pre, y ≠ f) :: blk r3 #[.string (bstr f.1), .string (bstr f.2)] 23 :: blk r4 #[.int .i64 ((firstAt (isN f) pre : Nat))] 3 :: blk r5 #[.bool (false)] 4 :: blk r6 #[.int .i64 ((pre.length : Nat))] 3 :: l
def findX (f : Fd) (r3 r4 r5 r6 : Nat) (l : List Asrt) (c : Code) (pre : List Fd) : List Asrt := pur (c = .ret ∧ ∃ pre', pre = pre' ++ [f] ∧ ∀ y ∈ pre', y ≠ f) :: blk r3 #[.string (bstr f.1), .string (bstr f.2)] 23 :: blk r4 #[.int .i64 ((pre.length : Nat))] 3 :: blk r5 #[.bool (true)] 4 :: blk r6 #[.int .i64 ((pre.length : Nat))] 3 :: l
section
variable {G : Gnd} {w : World} {l : List Asrt} {p : Nat} {Z F : List Fd} {lim : Int}
set_option maxHeartbeats 8000000 in
set_option maxRecDepth 100000 in
theorem tb_find (H : Sat G w (tbA p Z F lim :: l)) (hz : Z.length ≤ 10000) (hf : F.length ≤ 10000) (f : Fd) : Calls Try.prog 21 #[.pointer (some ⟨p, 0, none⟩), .agg #[.string (bstr f.1), .string (bstr f.2)]] w fun e w' => e = .returned (.tuple #[.int .i64 (findR F.reverse f).1, .bool (findR F.reverse f).2]) ∧ ∃ G', G.le G' ∧ Sat G' w' (tbA p Z F lim :: l) := by
  refine calls_any fun K hK => ?_
  have S1 := (((H.newBlk #[.string (bstr f.1), .string (bstr f.2)] 23).newBlk #[.int .i64 0] 3).newBlk #[.bool false] 4).newBlk #[.int .i64 0] 3
  simp only [World.size_alloc] at S1
  refine calls_marks Try.func21 rfl ?_
  simp only [Try.ntmps21, List.size_toArray, List.length_cons, List.length_nil, Nat.reduceAdd, Nat.reduceSub, Array.replicate_succ, Array.replicate_zero, List.push_toArray, List.append_toArray, List.nil_append, List.cons_append]
  clear H
  go_upto_region 2 with fail
  generalize w.heap.size + 1 + 1 + 1 = r6 at *
  generalize w.heap.size + 1 + 1 = r5 at *
  generalize w.heap.size + 1 = r4 at *
  generalize w.heap.size = r3 at *
  refine wp_world S1 fun w2 S2 => ?_
  have S3 := S2.re [4, 3, 2, 1, 0]
  have ha := tb_all S3 (.pointer (some ⟨p, 0, none⟩)) rfl
  clear S1 S2 S3
  go_wp2_with fail
  (with_reducible refine ha.mono ?_)
  clear ha
  rintro e w3 ⟨b, rfl, S4⟩
  go_wp2_with fail
  have hseq := all_gives (p := p) (Z := Z) (F := F) (lim := lim) b hz hf
  have S5 : Sat G w3 ([blk b #[.pointer (some ⟨p, 0, none⟩)] 24, tbA p Z F lim] ++ (pur (∀ y ∈ ([] : List Fd), y ≠ f) :: blk r3 #[.string (bstr f.1), .string (bstr f.2)] 23 :: blk r4 #[.int .i64 ((firstAt (isN f) [] : Nat))] 3 :: blk r5 #[.bool (false)] 4 :: blk r6 #[.int .i64 ((([] : List Fd).length : Nat))] 3 :: l)) := by
    have T := Sat.re (L := blk b #[.pointer (some ⟨p, 0, none⟩)] 24 :: tbA p Z F lim :: blk r3 #[.string (bstr f.1), .string (bstr f.2)] 23 :: blk r4 #[.int .i64 ((firstAt (isN f) [] : Nat))] 3 :: blk r5 #[.bool (false)] 4 :: blk r6 #[.int .i64 ((([] : List Fd).length : Nat))] 3 :: l) S4 [0, 1, 2, 3, 4, 5]
    exact (Sat.pur_iff.2 ⟨(fun y h => by cases h), T⟩).re [1, 2, 0]
  refine wp_range rfl (enters_of Try.func31 (by kernel_rfl) rfl) hseq (fun _ => rfl)
    (findB f r3 r4 r5 r6 l) (findX f r3 r4 r5 r6 l) S5 ?round ?done ?stop
  case round =>
    intro l2 pre x W A' G1 K hpre hG1 S7 hK
    have S8 := (S7.newBlk #[.string (bstr x.1), .string (bstr x.2)] 23).perm List.perm_middle.symm
    unfold fencs
    gi_wp2
    refine hK _ _ _ S8 ?_
    intro A'' W2 S9
    generalize W.heap.size = q at *
    have S10 := S9.perm List.perm_append_comm
    obtain ⟨hne, S11⟩ := Sat.pur_iff.1 (Sat.swap S10)
    obtain ⟨i0, hi0⟩ : ∃ i0, i0 = firstAt (isN f) pre := ⟨_, rfl⟩
    obtain ⟨n0, hn0⟩ : ∃ n0, n0 = pre.length := ⟨_, rfl⟩
    have hsn := firstAt_snoc (isN f) x pre
    have hlen : (pre ++ [x]).length = n0 + 1 := by rw [hn0]; simp
    have hnb : n0 ≤ 10000 := by
      have := hpre.length_le
      rw [hlen, List.length_reverse] at this
      omega
    rw [← hi0, ← hn0] at hsn
    have S12 : Sat G1 W2 (blk r6 #[.int .i64 n0] 3 :: blk r4 #[.int .i64 i0] 3 :: blk r5 #[.bool false] 4 :: blk q #[.string (bstr x.1), .string (bstr x.2)] 23 :: blk r3 #[.string (bstr f.1), .string (bstr f.2)] 23 :: (l ++ A'')) := by
      rw [hi0, hn0]; exact S11.re [4, 2, 3, 0, 1]
    have HCL : Hid (∀ (W : World) (u4 u5 u6 : Value) (φ : Prop), φ → Sat G1 W (blk r6 #[u6] 3 :: blk r4 #[u4] 3 :: blk r5 #[u5] 4 :: blk q #[.string (bstr x.1), .string (bstr x.2)] 23 :: blk r3 #[.string (bstr f.1), .string (bstr f.2)] 23 :: (l ++ A'')) → Sat G1 W (A'' ++ (pur φ :: blk r3 #[.string (bstr f.1), .string (bstr f.2)] 23 :: blk r4 #[u4] 3 :: blk r5 #[u5] 4 :: blk r6 #[u6] 3 :: l))) := Lib.hid fun W u4 u5 u6 φ hφ S => by
      have T := (S.re [3, 4, 1, 2, 0]).drop
      exact (Sat.pur_iff.2 ⟨hφ, T⟩).perm (List.perm_append_comm (l₁ := pur φ :: blk r3 #[.string (bstr f.1), .string (bstr f.2)] 23 :: blk r4 #[u4] 3 :: blk r5 #[u5] 4 :: blk r6 #[u6] 3 :: l) (l₂ := A''))
    have HNE := Lib.hid hne
    have HSN := Lib.hid hsn
    have HLEN := Lib.hid hlen
    have HN0 := Lib.hid hn0
    have he := eq_fd x f
    have b1 := bstr_list x.1
    have b2 := bstr_list f.1
    have c6 : W2.cell? ⟨r6, 0, none⟩ = _ := S12.cell 0
    have f6 : W2.frozen? ⟨r6, 0, none⟩ = _ := S12.frozen 0
    have c4 : W2.cell? ⟨r4, 0, none⟩ = _ := (Sat.swap S12).cell 0
    have f4 : W2.frozen? ⟨r4, 0, none⟩ = _ := (Sat.swap S12).frozen 0
    have f5 : W2.frozen? ⟨r5, 0, none⟩ = _ := (Sat.pull2 S12).frozen 0
    have c5 : W2.cell? ⟨r5, 0, none⟩ = _ := (Sat.pull2 S12).cell 0
    have q0 : W2.cell? ⟨q, 0, none⟩ = _ := (Sat.pull3 S12).cell 0
    have q1 : W2.cell? ⟨q, 1, none⟩ = _ := (Sat.pull3 S12).cell 1
    have g0 : W2.cell? ⟨r3, 0, none⟩ = _ := (S12.re [4, 0, 1, 2, 3]).cell 0
    have g1 : W2.cell? ⟨r3, 1, none⟩ = _ := (S12.re [4, 0, 1, 2, 3]).cell 1
    have hw1 : IntKind.i64.wrap ((n0 : Int) + 1) = ((n0 + 1 : Nat) : Int) := by rw [IntWalk.i64_in _ (by omega)]; omega
    have S13 := S12.setCell 0 (.int .i64 ((n0 + 1 : Nat) : Int))
    have d64 : r6 ≠ r4 := S12.ne
    have d65 : r6 ≠ r5 := (S12.re [0, 2, 1]).ne
    have d45 : r4 ≠ r5 := (S12.re [1, 2, 0]).ne
    have d6q : r6 ≠ q := (S12.re [0, 3, 1, 2]).ne
    have d63 : r6 ≠ r3 := (S12.re [0, 4, 1, 2, 3]).ne
    by_cases hxf : x = f
    · rw [decide_eq_true hxf] at he
      have S14 := (S13.re [1, 0]).setCell 0 (.int .i64 ((n0 + 1 : Nat) : Int))
      have S15 := (S14.re [2, 0, 1]).setCell 0 (.bool true)
      have HS : Hid (Sat G1 _ (A'' ++ findX f r3 r4 r5 r6 l .ret (pre ++ [x]))) := Lib.hid (by
        unfold findX
        rw [hlen]
        exact HCL.out _ _ _ _ _ ⟨rfl, pre, by rw [hxf], hne⟩ (S15.re [2, 1, 0]))
      clear S7 S8 S9 S10 S11 S12 S13 S14 S15 hK hne hsn hlen hn0 hi0 hxf
      gi_wp2
      exact ⟨G1, Gnd.le.rfl', HS.out⟩
    · rw [decide_eq_false hxf] at he
      have hne2 : ∀ y ∈ pre ++ [x], y ≠ f := fun y hy => by
        rcases List.mem_append.1 hy with h | h
        · exact hne y h
        · rw [List.mem_singleton.1 h]; exact hxf
      by_cases hnm : x.1 = f.1
      · have hnm2 : (x.1 == f.1) = true := beq_iff_eq.2 hnm
        have hisn : isN f x = true := decide_eq_true hnm
        by_cases hi : i0 = 0
        · subst hi
          have S14 := (S13.re [1, 0]).setCell 0 (.int .i64 ((n0 + 1 : Nat) : Int))
          have HS : Hid (Sat G1 _ (A'' ++ findB f r3 r4 r5 r6 l (pre ++ [x]))) := Lib.hid (by
            unfold findB
            rw [hsn, hlen, hisn]
            exact HCL.out _ _ _ _ _ hne2 (S14.re [1, 0]))
          clear S7 S8 S9 S10 S11 S12 S13 S14 hK hne hsn hlen hn0 hi0 hne2 hnm
          gi_wp2
          exact ⟨G1, Gnd.le.rfl', HS.out⟩
        · have HS : Hid (Sat G1 _ (A'' ++ findB f r3 r4 r5 r6 l (pre ++ [x]))) := Lib.hid (by
            unfold findB
            rw [hsn, hlen, if_pos hi]
            exact HCL.out _ _ _ _ _ hne2 S13)
          have hi1 : ((i0 : Int) == 0) = false := beq_eq_false_iff_ne.2 (by omega)
          clear S7 S8 S9 S10 S11 S12 S13 hK hne hsn hlen hn0 hi0 hne2 hnm
          gi_wp2
          exact ⟨G1, Gnd.le.rfl', HS.out⟩
      · have hnm2 : (x.1 == f.1) = false := beq_eq_false_iff_ne.2 hnm
        have hisn : isN f x = false := decide_eq_false hnm
        have HS : Hid (Sat G1 _ (A'' ++ findB f r3 r4 r5 r6 l (pre ++ [x]))) := Lib.hid (by
          unfold findB
          have e : firstAt (isN f) (pre ++ [x]) = i0 := by rw [hsn, hisn]; split <;> simp_all
          rw [e, hlen]
          exact HCL.out _ _ _ _ _ hne2 S13)
        clear S7 S8 S9 S10 S11 S12 S13 hK hne hsn hlen hn0 hi0 hne2
        gi_wp2
        exact ⟨G1, Gnd.le.rfl', HS.out⟩
  case done =>
    intro D W6 G1 hG1 S7
    have S8 : Sat G1 W6 (obj D (.deferred (some [])) :: blk b #[.pointer (some ⟨p, 0, none⟩)] 24 :: tbA p Z F lim :: pur (∀ y ∈ F.reverse, y ≠ f) :: blk r3 #[.string (bstr f.1), .string (bstr f.2)] 23 :: blk r4 #[.int .i64 ((firstAt (isN f) F.reverse : Nat))] 3 :: blk r5 #[.bool (false)] 4 :: blk r6 #[.int .i64 ((F.reverse.length : Nat))] 3 :: l) := S7
    obtain ⟨hne, S9⟩ := Sat.pur_iff.1 (S8.re [3, 0, 1, 2])
    have hfr : findR F.reverse f = (firstAt (isN f) F.reverse, false) := by unfold findR; rw [if_pos (firstAt_none hne)]
    rw [hfr] at hK
    generalize firstAt (isN f) F.reverse = i0 at *
    have S10 := S9.re [4, 5, 0, 1, 2, 3]
    have c4 := S10.cell 0
    have f4 := S10.frozen 0
    have f5 := S10.swap.frozen 0
    have c5 := S10.swap.cell 0
    have d45 := S10.ne
    have S11 := ((S10.setCell 0 (.int .i64 i0)).swap).setCell 0 (.bool false)
    have HS := Lib.hid (Sat.re S11 [2, 0, 1])
    clear S7 S8 S9 S10 S11 hne hfr S4 S5 hseq
    go_wp2_with fail
    refine marks_end HS.out rfl fun W7 S8 => ?_
    have e5 := S8.cell 0
    have e4 := S8.swap.cell 0
    exact ⟨_, results_cc rfl _ _ r4 r5 (.int .i64 i0) (.bool false) rfl rfl (fun W h => by go_simp) (fun W h => by go_simp) e4 e5, hK.out _ _ ⟨rfl, G1, hG1, (S8.re [0, 1, 2, 4, 5, 3]).drop.drop.drop.drop.drop⟩⟩
  case stop =>
    intro D c pre W6 G1 hpre hG1 S7
    have S8 : Sat G1 W6 (obj D (.deferred (some [])) :: blk b #[.pointer (some ⟨p, 0, none⟩)] 24 :: tbA p Z F lim :: pur (c = .ret ∧ ∃ pre', pre = pre' ++ [f] ∧ ∀ y ∈ pre', y ≠ f) :: blk r3 #[.string (bstr f.1), .string (bstr f.2)] 23 :: blk r4 #[.int .i64 ((pre.length : Nat))] 3 :: blk r5 #[.bool (true)] 4 :: blk r6 #[.int .i64 ((pre.length : Nat))] 3 :: l) := S7
    obtain ⟨⟨rfl, pre', rfl, hne⟩, S9⟩ := Sat.pur_iff.1 (S8.re [3, 0, 1, 2])
    obtain ⟨rest, hrest⟩ := hpre
    have hfa : firstAt (isF f) F.reverse = (pre' ++ [f]).length := by
      rw [← hrest, firstAt_pre (firstAt_none hne) (by simp [isF])]
      simp
    have hfr : findR F.reverse f = ((pre' ++ [f]).length, true) := by
      unfold findR
      rw [if_neg (by rw [hfa]; simp), hfa]
    rw [hfr] at hK
    generalize (pre' ++ [f]).length = i0 at *
    have S10 := S9.re [0, 5, 4, 1, 2, 3]
    have HS := Lib.hid S10
    clear S7 S8 S9 S10 hne hfr S4 S5 hseq hfa hrest
    go_wp2_with fail
    refine marks_end HS.out rfl fun W7 S8 => ?_
    have e5 := S8.cell 0
    have e4 := S8.swap.cell 0
    exact ⟨_, results_cc rfl _ _ r4 r5 (.int .i64 i0) (.bool true) rfl rfl (fun W h => by go_simp) (fun W h => by go_simp) e4 e5, hK.out _ _ ⟨rfl, G1, hG1, (S8.re [0, 1, 2, 4, 5, 3]).drop.drop.drop.drop.drop⟩⟩
end
end Go.Proofs.Ytkjkekhhhbopcaa
