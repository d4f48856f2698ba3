/- Lists of bytes as arguments. outbound's progress (OutboundSoon), in plain Lean: each slot of a tenant takes one cell, or one head, off what waits. OutboundSoon: what waits at the start, and how the ticks are counted. The walk of the law OutboundSoon. -/
import Derived.Test.YtcecfhfbcdbofaaGreatDoorLawNew
import Derived.Deep.Cut
import Derived.Deep.QuietTactic
import Derived.BigQuiet
set_option linter.unusedSimpArgs false
set_option linter.unusedVariables false
namespace Go.Proofs.YtcecfhfbcdbofaaGreatDoor
open Go.RowKit

/-- Chunks of bytes that nobody turns. -/
def RBs (R : Hp) (v : Value) (bss : List (List UInt8)) : Prop :=
  ∃ A c, v = .slice A bss.length c ∧ bss.length ≤ 140737488351232 ∧ ∀ i b, bss[i]? = some b → ∃ a u, A = some a ∧ Go.Proofs.YtcecfhfbcdbofaaGreatDoor.cellR R (a.add i) = some u ∧ SlB (Go.Proofs.YtcecfhfbcdbofaaGreatDoor.cellR R) u b ∧ b.length ≤ 140737488351232
theorem chunks_of {R : Hp} {v : Value} {l : List D} (h : RdSl R 24 (.sl 1 (.int .u8)) v l) : ∃ bss, RBs R v bss := by
  obtain ⟨A, c, hv, hlc, hc, hb, _, hel⟩ := h.form
  have key : ∀ i, i < l.length → ∃ b : List UInt8, ∃ a u, A = some a ∧ Go.Proofs.YtcecfhfbcdbofaaGreatDoor.cellR R (a.add i) = some u ∧ SlB (Go.Proofs.YtcecfhfbcdbofaaGreatDoor.cellR R) u b ∧ b.length ≤ 140737488351232 := fun i hi => by
    obtain ⟨a, hA, es, he, hcl, hr⟩ := hel i l[i] (List.getElem?_eq_getElem hi)
    obtain ⟨u, rfl⟩ : ∃ u, es = [u] := by
      match es, he with
      | [u], _ => exact ⟨u, rfl⟩
    obtain ⟨d, hd⟩ : ∃ d, l[i] = .sl d := by
      cases hx : l[i] <;> rw [hx] at hr <;> simp only [Rd] at hr
      exact ⟨_, rfl⟩
    rw [hd] at hr
    have h3' : RdSl R 1 (.int .u8) u d := by simpa only [RdSl, Rd] using hr
    obtain ⟨bs, -, hbl, hs⟩ := slb_of h3'
    have h0 := hcl 0 (by simp [Ty.size])
    simp only [Ty.size, Nat.mul_one, Nat.add_zero] at h0
    exact ⟨bs, a, u, hA, h0, hs, hbl⟩
  obtain ⟨bss, hl, hbs⟩ := list_of_each (Q := fun i (b : List UInt8) => ∃ a u, A = some a ∧ Go.Proofs.YtcecfhfbcdbofaaGreatDoor.cellR R (a.add i) = some u ∧ SlB (Go.Proofs.YtcecfhfbcdbofaaGreatDoor.cellR R) u b ∧ b.length ≤ 140737488351232) l.length key
  exact ⟨bss, A, c, by rw [hl]; exact hv, by omega, hbs⟩
end Go.Proofs.YtcecfhfbcdbofaaGreatDoor
set_option linter.unusedSimpArgs false
set_option linter.unusedVariables false
namespace Go.Proofs.YtcecfhfbcdbofaaGreatDoor
open Go.RowKit

/-- How many cells n bytes take. -/
def cN (c : Oc) (n : Nat) : Nat := (n + (c.cell.toNat - 2)) / (c.cell.toNat - 1)
theorem cN_zero {c : Oc} (hc : 16 ≤ c.cell) : cN c 0 = 0 := by
  unfold cN
  exact Nat.div_eq_of_lt (by omega)
theorem cN_pos {c : Oc} {n : Nat} (hc : 16 ≤ c.cell) (hn : 0 < n) : 1 ≤ cN c n := by
  unfold cN
  rw [Nat.le_div_iff_mul_le (by omega)]
  omega
theorem cN_drop {c : Oc} {n : Nat} (hc : 16 ≤ c.cell) (hn : 0 < n) : cN c (n - min (c.cell.toNat - 1) n) + 1 = cN c n := by
  obtain ⟨m, hm⟩ : ∃ m, m = c.cell.toNat - 1 := ⟨_, rfl⟩
  have e2 : c.cell.toNat - 2 = m - 1 := by omega
  have hm0 : 0 < m := by omega
  unfold cN
  rw [← hm, e2]
  rcases Nat.lt_or_ge m n with h | h
  · rw [Nat.min_eq_left (by omega), ← Nat.add_div_right _ hm0]
    congr 1
    omega
  · rw [Nat.min_eq_right h, Nat.sub_self, Nat.div_eq_of_lt (by omega : 0 + (m - 1) < m)]
    rw [show n + (m - 1) = n - 1 + m by omega, Nat.add_div_right _ hm0, Nat.div_eq_of_lt (by omega : n - 1 < m)]
/-- What waits in a queue: a slot for each head, and one for each cell. -/
def qc (c : Oc) : List It → Nat
  | [] => 0
  | x :: X => 1 + cN c x.2.2.length + qc c X
theorem qc_append (c : Oc) (X Y : List It) : qc c (X ++ Y) = qc c X + qc c Y := by
  induction X with
  | nil => simp [qc]
  | cons x X ih => simp only [List.cons_append, qc, ih]; omega
def mc (c : Oc) (T : Nat) (y : Sm) : Nat := if ownT y.id c.ten = T then cN c y.bs.length else 0
def sc (c : Oc) (T : Nat) (M : List Sm) : Nat := (M.map (mc c T)).sum
theorem sc_cons (c : Oc) (T : Nat) (y : Sm) (M : List Sm) : sc c T (y :: M) = mc c T y + sc c T M := by simp [sc]
theorem sc_perm {c : Oc} {T : Nat} {M N : List Sm} (h : M.Perm N) : sc c T M = sc c T N := (h.map _).sum_nat
theorem sc_erase {c : Oc} {T : Nat} {M : List Sm} {y : Sm} (hy : y ∈ M) : sc c T M = mc c T y + sc c T (M.erase y) := by
  rw [sc_perm (List.perm_cons_erase hy), sc_cons]
theorem sc_mem {c : Oc} {T : Nat} {M : List Sm} {y : Sm} (hy : y ∈ M) : mc c T y ≤ sc c T M := by rw [sc_erase hy]; omega
theorem sc_none {c : Oc} {T : Nat} {M : List Sm} (h : ∀ y ∈ M, mc c T y = 0) : sc c T M = 0 := by
  induction M with
  | nil => rfl
  | cons y M ih => rw [sc_cons, h y (List.mem_cons_self ..), ih fun z hz => h z (List.mem_cons_of_mem _ hz)]
/-- The invariant of the progress: r slots of tenant T are enough. -/
structure Prog (c : Oc) (s : Os) (T r : Nat) : Prop where
  cost : qc c (s.Q.getD T []) + sc c T s.M = r
  win : ∀ y ∈ s.M, ownT y.id c.ten = T → (cN c y.bs.length : Int) * c.cell ≤ y.win
  opn : ∀ y ∈ s.M, y.op = !y.bs.isEmpty
  cr : (r : Int) * c.cell ≤ crLeft s.C T
  crm : crLeft s.C T ≤ 65535
  cuts : ∀ t, s.D.getD t [] = []
  wit : (∃ x ∈ s.Q.getD T [], x.1 = 7) ∨ ∃ y ∈ s.M, ownT y.id c.ten = T ∧ y.op = true ∧ y.num = 7
theorem crLeft_set_ne {L : List Int} {t T : Nat} {v : Int} (h : t ≠ T) : crLeft (L.set t v) T = crLeft L T := by
  unfold crLeft
  rw [List.length_set]
  split
  · rw [List.getD_eq_getElem?_getD, List.getD_eq_getElem?_getD, List.getElem?_set_ne (by simpa using h)]
  · rfl
theorem crLeft_set {L : List Int} {T : Nat} {d : Int} (h : T < L.length) : crLeft (L.set T (L.getD T 0 - d)) T = crLeft L T - d := by
  have hh : crHas L.length (T : Int) = true := decide_eq_true (by omega)
  unfold crLeft
  rw [List.length_set, if_pos hh, if_pos hh]
  rw [Int.toNat_natCast, List.getD_eq_getElem?_getD, List.getElem?_set_self (by simpa using h)]
  rfl
theorem Prog.pos {c : Oc} {s : Os} {T r : Nat} (hc : 16 ≤ c.cell) (hp : Prog c s T r) : 1 ≤ r := by
  rw [← hp.cost]
  rcases hp.wit with ⟨x, hx, -⟩ | ⟨y, hy, hyt, hyo, -⟩
  · cases hq : s.Q.getD T [] with
    | nil => rw [hq] at hx; cases hx
    | cons a X => simp only [qc]; omega
  · have h1 := sc_mem (c := c) (T := T) hy
    have h2 := hp.opn y hy
    rw [hyo] at h2
    have h3 : 0 < y.bs.length := by
      cases hb : y.bs with
      | nil => rw [hb] at h2; cases h2
      | cons b B => simp
    have h4 := cN_pos hc h3
    unfold mc at h1
    rw [if_pos hyt] at h1
    omega
theorem mem_erase_or {M : List Sm} {y z : Sm} (h : z ∈ M) : z = y ∨ z ∈ M.erase y := by
  by_cases e : z = y
  · exact .inl e
  · exact .inr ((List.mem_erase_of_ne e).2 h)
theorem Prog.atLast {c : Oc} {s : Os} {T r : Nat} {k : Int} (hp : Prog c s T r) : Prog c { s with last := k } T r := ⟨hp.cost, hp.win, hp.opn, hp.cr, hp.crm, hp.cuts, hp.wit⟩
theorem sentS_op (c : Oc) (y : Sm) : (sentS c y).op = !(sentS c y).bs.isEmpty := rfl
theorem sentS_len (c : Oc) (y : Sm) : (sentS c y).bs.length = y.bs.length - min (c.cell.toNat - 1) y.bs.length := List.length_drop
/-- A slot of the tenant: the watched item is over, or a slot less is to come. -/
theorem prog_own {c : Oc} {s s' : Os} {T r : Nat} {tick : Int} {d : Dv} (hw : OInv c s) (hT : T < c.ten) (h0 : 0 ≤ tick) (h1 : tick ≤ 1073741823) (htk : tick % (c.ten : Int) = (T : Int)) (hp : Prog c s T r) (hstr : liveAt s.L T < c.str) (h : StepR c s T tick d s') :
    (d.1 = 3 ∧ d.2.2.2.1 = 7) ∨ ∃ r', r = r' + 1 ∧ Prog c s' T r' := by
  have hc := hw.c0
  have hr1 := hp.pos hc
  have hsnd : ∀ y ∈ s.M, ownT y.id c.ten = T → y.op = true → Snd c s T y := fun y hy hyt hyo => by
    have ho := hp.opn y hy
    rw [hyo] at ho
    have hb : 0 < y.bs.length := by
      cases hb : y.bs with
      | nil => rw [hb] at ho; cases ho
      | cons b B => simp
    have h2 := cN_pos (c := c) hc hb
    have h3 := hp.win y hy hyt
    have h4 : c.cell ≤ (cN c y.bs.length : Int) * c.cell := by
      have := Int.mul_le_mul_of_nonneg_right (show (1 : Int) ≤ (cN c y.bs.length : Int) by omega) (show 0 ≤ c.cell by omega)
      omega
    have h5 : c.cell ≤ (r : Int) * c.cell := by
      have := Int.mul_le_mul_of_nonneg_right (show (1 : Int) ≤ (r : Int) by omega) (show 0 ≤ c.cell by omega)
      omega
    refine ⟨hyo, ?_, Int.le_trans h5 hp.cr⟩
    unfold winCan
    rw [decide_eq_true (show 0 < c.cell by omega), decide_eq_true (show c.cell ≤ y.win by omega)]
    simp
  rcases h with ⟨x, X, hx, -⟩ | ⟨-, y, hy, hyt, hs, rfl, hM, hC, hQ, hL, hrl, hD, hlast, hF⟩ | ⟨-, hno, x, L, p, F', hx, hlv, rfl, rfl⟩ | ⟨-, hno, hor, rfl, rfl⟩
  · rw [hp.cuts T] at hx; cases hx
  · have ho := hp.opn y hy
    rw [hs.1] at ho
    have hb : 0 < y.bs.length := by
      cases hb : y.bs with
      | nil => rw [hb] at ho; cases ho
      | cons b B => simp
    have hdrop := cN_drop (c := c) hc hb
    by_cases hdone : (sentS c y).op = false ∧ y.num = 7
    · refine .inl ⟨?_, hdone.2⟩
      show (if (sentS c y).op then (2 : Int) else 3) = 3
      rw [hdone.1]; rfl
    refine .inr ⟨r - 1, by omega, ?_⟩
    have hcost := hp.cost
    rw [sc_erase hy] at hcost
    have hm1 : mc c T y = cN c y.bs.length := if_pos hyt
    have hm2 : mc c T (sentS c y) = cN c (y.bs.length - min (c.cell.toNat - 1) y.bs.length) := by
      unfold mc
      rw [if_pos (show ownT (sentS c y).id c.ten = T from hyt), sentS_len]
    refine { cost := ?_, win := ?_, opn := ?_, cr := ?_, crm := ?_, cuts := ?_, wit := ?_ }
    · rw [hM, hQ, sc_cons, hm2]; omega
    · intro z hz hzt
      rw [hM] at hz
      rcases List.mem_cons.1 hz with rfl | hz
      · rw [sentS_len]
        have h3 := hp.win y hy hyt
        rw [← hdrop] at h3
        show _ ≤ y.win - c.cell
        have e : ((cN c (y.bs.length - min (c.cell.toNat - 1) y.bs.length) + 1 : Nat) : Int) * c.cell = (cN c (y.bs.length - min (c.cell.toNat - 1) y.bs.length) : Int) * c.cell + c.cell := by
          rw [Int.natCast_add, Int.add_mul]; simp
        rw [e] at h3
        omega
      · exact hp.win z (List.mem_of_mem_erase hz) hzt
    · intro z hz
      rw [hM] at hz
      rcases List.mem_cons.1 hz with rfl | hz
      · exact sentS_op c y
      · exact hp.opn z (List.mem_of_mem_erase hz)
    · rw [hC, crLeft_set (by rw [hw.cl]; exact hT)]
      have := hp.cr
      have e : ((r - 1 : Nat) : Int) * c.cell = (r : Int) * c.cell - c.cell := by
        rw [show ((r - 1 : Nat) : Int) = (r : Int) - 1 by omega, Int.sub_mul]; simp
      rw [e]; omega
    · rw [hC, crLeft_set (by rw [hw.cl]; exact hT)]
      have := hp.crm
      omega
    · rw [hD]; exact hp.cuts
    · rw [hQ]
      rcases hp.wit with hx | ⟨z, hz, hzt, hzo, hzn⟩
      · exact .inl hx
      · refine .inr ?_
        rw [hM]
        rcases mem_erase_or (y := y) hz with rfl | hz
        · refine ⟨sentS c z, List.mem_cons_self .., hzt, ?_, hzn⟩
          cases hso : (sentS c z).op with
          | true => rfl
          | false => exact absurd ⟨hso, hzn⟩ hdone
        · exact ⟨z, List.mem_cons_of_mem _ hz, hzt, hzo, hzn⟩
  · obtain ⟨-, hown⟩ := own_tick h0 h1 hw.t0 hw.t1 htk
    by_cases hdone : x.2.2.isEmpty = true ∧ x.1 = 7
    · refine .inl ⟨?_, hdone.2⟩
      show (if x.2.2.isEmpty then (3 : Int) else 1) = 3
      rw [if_pos hdone.1]
    have hcost := hp.cost
    rw [hx] at hcost
    simp only [qc] at hcost
    have hTQ : T < s.Q.length := by rw [hw.ql]; exact hT
    have hQ' : (s.Q.set T L).getD T [] = L := by rw [List.getD_eq_getElem?_getD, List.getElem?_set_self (by simpa using hTQ)]; rfl
    refine .inr ⟨r - 1, by omega, ?_⟩
    have hmn : mc c T (newS (2 * tick + 1) p x) = cN c x.2.2.length := if_pos hown
    have hcell : (r : Int) * c.cell ≤ 65535 := Int.le_trans hp.cr hp.crm
    refine { cost := ?_, win := ?_, opn := ?_, cr := ?_, crm := hp.crm, cuts := hp.cuts, wit := ?_ }
    · show qc c ((s.Q.set T L).getD T []) + sc c T (newS (2 * tick + 1) p x :: s.M) = r - 1
      rw [hQ', sc_cons, hmn]; omega
    · intro z hz hzt
      rcases List.mem_cons.1 hz with rfl | hz
      · show (cN c x.2.2.length : Int) * c.cell ≤ 65535
        have := Int.mul_le_mul_of_nonneg_right (show (cN c x.2.2.length : Int) ≤ (r : Int) by omega) (show 0 ≤ c.cell by omega)
        omega
      · exact hp.win z hz hzt
    · intro z hz
      rcases List.mem_cons.1 hz with rfl | hz
      · rfl
      · exact hp.opn z hz
    · have := Int.mul_le_mul_of_nonneg_right (show ((r - 1 : Nat) : Int) ≤ (r : Int) by omega) (show 0 ≤ c.cell by omega)
      exact Int.le_trans this hp.cr
    · show (∃ y ∈ (s.Q.set T L).getD T [], y.1 = 7) ∨ ∃ y ∈ newS (2 * tick + 1) p x :: s.M, _
      rw [hQ']
      rcases hp.wit with ⟨y, hy, hyn⟩ | ⟨z, hz, hzz⟩
      · rw [hx] at hy
        rcases List.mem_cons.1 hy with rfl | hy
        · refine .inr ⟨newS (2 * tick + 1) p y, List.mem_cons_self .., hown, ?_, hyn⟩
          show (!y.2.2.isEmpty) = true
          cases hb : y.2.2.isEmpty with
          | false => rfl
          | true => exact absurd ⟨hb, hyn⟩ hdone
        · exact .inl ⟨y, hy, hyn⟩
      · exact .inr ⟨z, List.mem_cons_of_mem _ hz, hzz⟩
  · exfalso
    have hQ : s'.Q.getD T [] = [] := by
      rcases hor with h | h
      · omega
      · exact h
    have hM : sc c T s'.M = 0 := sc_none fun y hy => by
      unfold mc
      by_cases hyt : ownT y.id c.ten = T
      · rw [if_pos hyt]
        have ho := hp.opn y hy
        cases hyo : y.op with
        | true => exact absurd (hsnd y hy hyt hyo) (hno y hy hyt)
        | false =>
          rw [hyo] at ho
          have : y.bs = [] := by cases hb : y.bs with
            | nil => rfl
            | cons b B => rw [hb] at ho; cases ho
          rw [this]; exact cN_zero hc
      · exact if_neg hyt
    have := hp.cost
    rw [hQ, hM] at this
    simp only [qc] at this
    omega
/-- A slot of another tenant. -/
theorem prog_other {c : Oc} {s s' : Os} {T t r : Nat} {tick : Int} {d : Dv} (hw : OInv c s) (ht : t ≠ T) (h0 : 0 ≤ tick) (h1 : tick ≤ 1073741823) (htk : tick % (c.ten : Int) = (t : Int)) (hp : Prog c s T r) (h : StepR c s t tick d s') : Prog c s' T r := by
  have hc := hw.c0
  rcases h with ⟨x, X, hx, -⟩ | ⟨-, y, hy, hyt, hs, rfl, hM, hC, hQ, hL, hrl, hD, hlast, hF⟩ | ⟨-, hno, x, L, p, F', hx, hlv, rfl, rfl⟩ | ⟨-, hno, hor, rfl, rfl⟩
  · rw [hp.cuts t] at hx; cases hx
  · have hne : ¬ ownT y.id c.ten = (T : Int) := by rw [hyt]; omega
    have hcost := hp.cost
    rw [sc_erase hy] at hcost
    have hm1 : mc c T y = 0 := if_neg hne
    have hm2 : mc c T (sentS c y) = 0 := if_neg (show ¬ ownT (sentS c y).id c.ten = T from hne)
    refine { cost := ?_, win := ?_, opn := ?_, cr := ?_, crm := ?_, cuts := ?_, wit := ?_ }
    · rw [hM, hQ, sc_cons, hm2]; omega
    · intro z hz hzt
      rw [hM] at hz
      rcases List.mem_cons.1 hz with rfl | hz
      · exact absurd hzt hne
      · exact hp.win z (List.mem_of_mem_erase hz) hzt
    · intro z hz
      rw [hM] at hz
      rcases List.mem_cons.1 hz with rfl | hz
      · exact sentS_op c y
      · exact hp.opn z (List.mem_of_mem_erase hz)
    · rw [hC, crLeft_set_ne ht]; exact hp.cr
    · rw [hC, crLeft_set_ne ht]; exact hp.crm
    · rw [hD]; exact hp.cuts
    · rw [hQ]
      rcases hp.wit with hx | ⟨z, hz, hzt, hzz⟩
      · exact .inl hx
      · refine .inr ⟨z, ?_, hzt, hzz⟩
        rw [hM]
        rcases mem_erase_or (y := y) hz with rfl | hz
        · exact absurd hzt hne
        · exact List.mem_cons_of_mem _ hz
  · obtain ⟨-, hown⟩ := own_tick h0 h1 hw.t0 hw.t1 htk
    have hne : ¬ ownT (2 * tick + 1) c.ten = (T : Int) := by rw [hown]; omega
    have hQ' : (s.Q.set t L).getD T [] = s.Q.getD T [] := by rw [List.getD_eq_getElem?_getD, List.getElem?_set_ne ht, ← List.getD_eq_getElem?_getD]
    have hmn : mc c T (newS (2 * tick + 1) p x) = 0 := if_neg hne
    refine { cost := ?_, win := ?_, opn := ?_, cr := hp.cr, crm := hp.crm, cuts := hp.cuts, wit := ?_ }
    · show qc c ((s.Q.set t L).getD T []) + sc c T (newS (2 * tick + 1) p x :: s.M) = r
      rw [hQ', sc_cons, hmn, ← hp.cost]; omega
    · intro z hz hzt
      rcases List.mem_cons.1 hz with rfl | hz
      · exact absurd hzt hne
      · exact hp.win z hz hzt
    · intro z hz
      rcases List.mem_cons.1 hz with rfl | hz
      · rfl
      · exact hp.opn z hz
    · show (∃ y ∈ (s.Q.set t L).getD T [], y.1 = 7) ∨ ∃ y ∈ newS (2 * tick + 1) p x :: s.M, _
      rw [hQ']
      rcases hp.wit with hx | ⟨z, hz, hzz⟩
      · exact .inl hx
      · exact .inr ⟨z, List.mem_cons_of_mem _ hz, hzz⟩
  · exact hp
end Go.Proofs.YtcecfhfbcdbofaaGreatDoor
set_option linter.unusedSimpArgs false
set_option linter.unusedVariables false
namespace Go.Proofs.YtcecfhfbcdbofaaGreatDoor
open Go.RowKit

/-- How many of the first k ticks are tenant T's. -/
def cnt (n T k : Nat) : Nat := (k + (n - 1 - T)) / n
theorem cnt_zero {n T : Nat} (h : T < n) : cnt n T 0 = 0 := Nat.div_eq_of_lt (by omega)
theorem cnt_end {n T r : Nat} (h : T < n) : cnt n T (r * n) = r := by
  unfold cnt
  rw [Nat.add_comm, Nat.add_mul_div_right _ _ (by omega), Nat.div_eq_of_lt (by omega)]
  omega
theorem cnt_hit {n T k : Nat} (h : T < n) (hk : k % n = T) : cnt n T (k + 1) = cnt n T k + 1 := by
  unfold cnt
  have e := Nat.div_add_mod k n
  rw [hk] at e
  rw [show k + 1 + (n - 1 - T) = 0 + (k / n + 1) * n by rw [Nat.add_mul, Nat.mul_comm (k / n)]; omega, Nat.add_mul_div_right _ _ (by omega)]
  rw [show k + (n - 1 - T) = (n - 1) + k / n * n by rw [Nat.mul_comm (k / n)]; omega, Nat.add_mul_div_right _ _ (by omega), Nat.div_eq_of_lt (by omega : n - 1 < n)]
  simp
theorem cnt_miss {n T k : Nat} (h : T < n) (hk : k % n ≠ T) : cnt n T (k + 1) = cnt n T k := by
  unfold cnt
  have e := Nat.div_add_mod k n
  have hm := Nat.mod_lt k (show n > 0 by omega)
  obtain ⟨m, hmm⟩ : ∃ m, m = k % n := ⟨_, rfl⟩
  rw [← hmm] at e hk hm
  rcases Nat.lt_or_ge m T with hl | hl
  · rw [show k + 1 + (n - 1 - T) = (m + 1 + (n - 1 - T)) + k / n * n by rw [Nat.mul_comm (k / n)]; omega, Nat.add_mul_div_right _ _ (by omega), Nat.div_eq_of_lt (by omega : m + 1 + (n - 1 - T) < n)]
    rw [show k + (n - 1 - T) = (m + (n - 1 - T)) + k / n * n by rw [Nat.mul_comm (k / n)]; omega, Nat.add_mul_div_right _ _ (by omega), Nat.div_eq_of_lt (by omega : m + (n - 1 - T) < n)]
  · rw [show k + 1 + (n - 1 - T) = (m - T) + (k / n + 1) * n by rw [Nat.add_mul, Nat.mul_comm (k / n)]; omega, Nat.add_mul_div_right _ _ (by omega), Nat.div_eq_of_lt (by omega : m - T < n)]
    rw [show k + (n - 1 - T) = (m - T - 1) + (k / n + 1) * n by rw [Nat.add_mul, Nat.mul_comm (k / n)]; omega, Nat.add_mul_div_right _ _ (by omega), Nat.div_eq_of_lt (by omega : m - T - 1 < n)]
/-- One item's slots, in bytes. -/
theorem cost1 {c : Oc} {n : Nat} (h0 : 16 ≤ c.cell) (h1 : c.cell ≤ 256) (hn : n ≤ 400) : cN c n ≤ 27 ∧ (1 + (cN c n : Int)) * c.cell ≤ 937 := by
  obtain ⟨m, hm⟩ : ∃ m, m = c.cell.toNat - 1 := ⟨_, rfl⟩
  have e2 : c.cell.toNat - 2 = m - 1 := by omega
  have ec : c.cell = (m : Int) + 1 := by omega
  have hd : cN c n = (n + (m - 1)) / m := by unfold cN; rw [← hm, e2]
  have h27 : cN c n ≤ 27 := by
    rw [hd]
    refine Nat.le_of_lt_succ ((Nat.div_lt_iff_lt_mul (by omega)).2 ?_)
    omega
  have hmul : cN c n * m ≤ n + (m - 1) := by rw [hd]; exact Nat.div_mul_le_self _ _
  refine ⟨h27, ?_⟩
  rw [ec]
  have e3 : (1 + (cN c n : Int)) * ((m : Int) + 1) = ((cN c n * m : Nat) : Int) + (cN c n : Int) + (m : Int) + 1 := by
    rw [Int.add_mul, Int.one_mul, Int.mul_add, Int.mul_one, Int.natCast_mul]; omega
  rw [e3]
  omega
theorem clCells_eq {c : Oc} {n : Nat} (h0 : 16 ≤ c.cell) : clCells n c.cell = (cN c n : Int) := by
  obtain ⟨m, hm⟩ : ∃ m, m = c.cell.toNat - 1 := ⟨_, rfl⟩
  have e2 : c.cell.toNat - 2 = m - 1 := by omega
  have ec : c.cell - 1 = (m : Int) := by omega
  have hd : cN c n = (n + (m - 1)) / m := by unfold cN; rw [← hm, e2]
  have hm0 : 0 < m := by omega
  unfold clCells
  rw [hd, ec]
  by_cases hn : (n : Int) < 1
  · rw [if_pos (.inl hn)]
    obtain rfl : n = 0 := by omega
    rw [Nat.div_eq_of_lt (by omega)]; rfl
  rw [if_neg (by omega)]
  have hq : (n : Int) / (m : Int) = ((n / m : Nat) : Int) := rfl
  have hr : (n : Int) % (m : Int) = ((n % m : Nat) : Int) := rfl
  rw [hq, hr]
  have e := Nat.div_add_mod n m
  have hlt := Nat.mod_lt n hm0
  by_cases hz : n % m = 0
  · rw [if_neg (by omega)]
    rw [show n + (m - 1) = (m - 1) + n / m * m by rw [Nat.mul_comm (n / m)]; omega, Nat.add_mul_div_right _ _ hm0, Nat.div_eq_of_lt (by omega : m - 1 < m)]
    omega
  · rw [if_pos (by omega)]
    rw [show n + (m - 1) = (n % m - 1) + (n / m + 1) * m by rw [Nat.add_mul, Nat.mul_comm (n / m)]; omega, Nat.add_mul_div_right _ _ hm0, Nat.div_eq_of_lt (by omega : n % m - 1 < m)]
    omega
theorem putQ_other {Q : List (List It)} {B I t : Int} {x : It} {T : Nat} (h : t ≠ (T : Int)) : (putQ Q B I t x).1.getD T [] = Q.getD T [] := by
  unfold putQ
  split
  · rfl
  · split
    · rfl
    · show (Q.set t.toNat _).getD T [] = _
      rw [List.getD_eq_getElem?_getD, List.getElem?_set_ne (by omega), ← List.getD_eq_getElem?_getD]
theorem putQ_own {Q : List (List It)} {B I : Int} {x : It} {T : Nat} (hT : T < Q.length) (hi : ((Q.getD T []).length : Int) < I) (hb : (qsz (Q.getD T []) : Int) + isz x ≤ B) : putQ Q B I T x = (Q.set T (Q.getD T [] ++ [x]), 0) := by
  have hq : qAt Q (T : Int) = Q.getD T [] := by unfold qAt; rw [if_pos (by omega), Int.toNat_natCast]
  unfold putQ
  rw [hq, if_neg (by omega), if_neg (by omega), Int.toNat_natCast]
theorem live_le {c : Oc} {s : Os} (hw : OInv c s) {T : Nat} (hT : T < c.ten) : liveAt s.L T ≤ s.F.length := by
  have h := le_isum hw.ln (liveAt s.L T) (by
    unfold liveAt; rw [if_pos (by omega)]
    exact getD_mem (by rw [Int.toNat_natCast, hw.len]; exact hT))
  rw [hw.ls] at h
  exact h
end Go.Proofs.YtcecfhfbcdbofaaGreatDoor
set_option linter.unusedSimpArgs false
set_option linter.unusedVariables false
namespace Go.Proofs.YtcecfhfbcdbofaaGreatDoor
open Go.RowKit
attribute [local go_sem] Oper.semAt_some

theorem rd_cfg {R : Hp} {d : D} {c : List Value} (h : Rd R (.agg [.int .i64, .int .i64, .int .i64, .int .i64, .int .i64]) d c) : ∃ t z b i q : Int, c = [.int .i64 t, .int .i64 z, .int .i64 b, .int .i64 i, .int .i64 q] := by
  obtain ⟨ds, rfl⟩ : ∃ ds, d = .agg ds := by cases d <;> (try simp only [Rd] at h) <;> exact ⟨_, rfl⟩
  simp only [Rd] at h
  obtain ⟨_, _, c0, _, rfl, rfl, _, r0, h⟩ := rdAll_cons h
  obtain ⟨_, _, c1, _, rfl, rfl, _, r1, h⟩ := rdAll_cons h
  obtain ⟨_, _, c2, _, rfl, rfl, _, r2, h⟩ := rdAll_cons h
  obtain ⟨_, _, c3, _, rfl, rfl, _, r3, h⟩ := rdAll_cons h
  obtain ⟨_, _, c4, _, rfl, rfl, _, r4, h⟩ := rdAll_cons h
  obtain rfl := rdAll_nil h
  obtain ⟨m0, rfl⟩ := rd_int1 r0
  obtain ⟨m1, rfl⟩ := rd_int1 r1
  obtain ⟨m2, rfl⟩ := rd_int1 r2
  obtain ⟨m3, rfl⟩ := rd_int1 r3
  obtain ⟨m4, rfl⟩ := rd_int1 r4
  exact ⟨m0, m1, m2, m3, m4, rfl⟩
theorem rd_bss {R : Hp} {d : D} {c : List Value} (hl : c.length = 1) (h : Rd R (Ty.sl 24 (.sl 1 (.int .u8))) d c) : ∃ v bss, c = [v] ∧ RBs R v bss := by
  obtain ⟨l, rfl⟩ : ∃ l, d = .sl l := by cases d <;> (try simp only [Rd] at h) <;> exact ⟨_, rfl⟩
  obtain ⟨v, rfl⟩ : ∃ v, c = [v] := by
    match c, hl with
    | [v], _ => exact ⟨v, rfl⟩
  have h3' : RdSl R 24 (.sl 1 (.int .u8)) v l := h
  obtain ⟨bss, hb⟩ := chunks_of h3'
  exact ⟨v, bss, rfl, hb⟩
theorem arg_bss {w : World} {v : Value} {d : D} (h : ArgV w (Ty.sl 24 (.sl 1 (.int .u8))) v d) : ∃ bss, RBs (Gnd.of w).ro v bss := by
  obtain ⟨l, h⟩ := arg_sl h
  exact chunks_of h
theorem arg_soon {w : World} {v : Value} {d : D} (h : ArgV w (Ty.agg [(Ty.agg [.int .i64, .int .i64, .int .i64, .int .i64, .int .i64]), .int .i64, (Ty.sl 24 (.sl 1 (.int .u8))), (Ty.sl 1 (.int .u8))]) v d) : ∃ (t z b i q T : Int) (va vb : Value) (bss : List (List UInt8)) (bd : List UInt8), v = .agg #[.int .i64 t, .int .i64 z, .int .i64 b, .int .i64 i, .int .i64 q, .int .i64 T, va, vb] ∧ RBs (Gnd.of w).ro va bss ∧ SlB (Go.Proofs.YtcecfhfbcdbofaaGreatDoor.cellR (Gnd.of w).ro) vb bd ∧ bd.length ≤ 140737488351232 := by
  obtain ⟨cs, rfl, h⟩ := h
  obtain ⟨ds, rfl⟩ : ∃ ds, d = .agg ds := by cases d <;> (try simp only [Rd] at h) <;> exact ⟨_, rfl⟩
  simp only [Rd] at h
  obtain ⟨_, _, c0, _, rfl, e0, _, r0, h⟩ := rdAll_cons h
  obtain ⟨_, _, c1, _, rfl, rfl, _, r1, h⟩ := rdAll_cons h
  obtain ⟨_, _, c2, _, rfl, rfl, l2, r2, h⟩ := rdAll_cons h
  obtain ⟨_, _, c3, _, rfl, rfl, l3, r3, h⟩ := rdAll_cons h
  obtain rfl := rdAll_nil h
  obtain ⟨t, z, b, i, q, rfl⟩ := rd_cfg r0
  obtain ⟨m1, rfl⟩ := rd_int1 r1
  obtain ⟨va, bss, rfl, hva⟩ := rd_bss l2 r2
  obtain ⟨vb, bd, rfl, hvb, hbl⟩ := rd_bytes1 l3 r3
  exact ⟨t, z, b, i, q, m1, va, vb, bss, bd, by rw [show cs = #[.int .i64 t, .int .i64 z, .int .i64 b, .int .i64 i, .int .i64 q, .int .i64 m1, va, vb] from Array.toList_inj.1 (by rw [e0]; rfl)], hva, hvb, hbl⟩
theorem rep_getD {α : Type} {n T : Nat} : (List.replicate n ([] : List α)).getD T [] = [] := by
  rw [List.getD_eq_getElem?_getD, List.getElem?_replicate]
  split <;> rfl
theorem crp {n T : Nat} (h1 : n ≤ 8) (hT : T < n) : 8191 ≤ crLeft (parts 65535 n) T ∧ crLeft (parts 65535 n) T ≤ 65535 := by
  have hl : (parts 65535 n).length = n := by unfold parts; rw [List.length_map, List.length_range]
  have e : crLeft (parts 65535 n) T = part 65535 n T := by
    unfold crLeft
    rw [hl, if_pos (show crHas n (T : Int) = true from decide_eq_true (by omega)), Int.toNat_natCast]
    unfold parts
    rw [List.getD_eq_getElem?_getD, List.getElem?_map, List.getElem?_range hT]; rfl
  rw [e]
  refine ⟨?_, part_lt 65535 n T (by decide) (by decide) (by omega) hT⟩
  have h : (8191 : Int) ≤ 65535 / (n : Int) := (Int.le_ediv_iff_mul_le (by omega)).2 (by omega)
  unfold part
  split <;> omega
/-- A submission that is taken. -/
theorem sub_own {c : Oc} {s : Os} {T : Nat} {num : Int} {b : List UInt8} (hw : OInv c s) (hT : T < c.ten) (hi : ((s.Q.getD T []).length : Int) < c.itm) (hb : (qsz (s.Q.getD T []) : Int) + (1 + b.length) ≤ c.byt) : subS c s T (num, [1], b) = ({ s with Q := s.Q.set T (s.Q.getD T [] ++ [(num, [1], b)]) }, 0) := by
  have hc := hw.c0
  unfold subS
  rw [if_neg (by show ¬ (1 < 1 ∨ c.cell < ((1 : Nat) : Int)); omega)]
  rw [putQ_own (by rw [hw.ql]; exact hT) hi (by show (qsz (s.Q.getD T []) : Int) + ((1 + b.length : Nat) : Int) ≤ c.byt; omega)]
theorem sub_other {c : Oc} {s : Os} {t : Int} {num : Int} {b : List UInt8} (hw : OInv c s) : (subS c s t (num, [1], b)).1 = { s with Q := (putQ s.Q c.byt c.itm t (num, [1], b)).1 } := by
  have hc := hw.c0
  unfold subS
  rw [if_neg (by show ¬ (1 < 1 ∨ c.cell < ((1 : Nat) : Int)); omega)]
set_option maxHeartbeats 8000000 in
set_option maxRecDepth 100000 in
theorem outboundSoon_walk (w : World) (v0 v1 : Value) (h0 : ∃ d, ArgV w (Ty.agg [(Ty.agg [.int .i64, .int .i64, .int .i64, .int .i64, .int .i64]), .int .i64, (Ty.sl 24 (.sl 1 (.int .u8))), (Ty.sl 1 (.int .u8))]) v0 d) (h1 : ∃ d, ArgV w (Ty.sl 24 (.sl 1 (.int .u8))) v1 d) (htab : TabW w) :
    Calls Tryz.prog 6 #[v0, v1] w fun e w' => e = .returned (.bool true) ∧ Below w.heap.size w w' := by
  refine calls_any fun K hK => ?_
  obtain ⟨_, h0⟩ := h0
  obtain ⟨t, z, b, i_, q, T, va, vb, bss, bd, rfl, hva, hvb, hbl⟩ := arg_soon h0
  obtain ⟨_, h1⟩ := h1
  obtain ⟨css, hcs⟩ := arg_bss h1
  clear h0 h1
  have HT := Lib.hid (TabG.of htab)
  clear htab
  obtain ⟨VA, ca, rfl, -, hae⟩ := hva
  obtain ⟨VC, cc, rfl, -, hce⟩ := hcs
  obtain ⟨VB, cb, rfl, -⟩ := hvb.form
  have HAE := Lib.hid hae
  have HCE := Lib.hid hce
  have HVB := Lib.hid (And.intro hvb hbl)
  clear hae hce hvb hbl
  obtain ⟨m, hm⟩ : ∃ m, m = bss.length := ⟨_, rfl⟩
  obtain ⟨mc_, hmc⟩ : ∃ m, m = css.length := ⟨_, rfl⟩
  obtain ⟨bl, hbl⟩ : ∃ m, m = bd.length := ⟨_, rfl⟩
  rw [← hm, ← hmc, ← hbl]
  have HM := Lib.hid (And.intro hm (And.intro hmc hbl))
  have S1 := ((Sat.start w).newBlk #[.int .i64 t, .int .i64 z, .int .i64 b, .int .i64 i_, .int .i64 q, .int .i64 T, .slice VA m ca, .slice VB bl cb] 63).newBlk #[.int .i64 t, .int .i64 z, .int .i64 1048576, .int .i64 4096, .int .i64 65536] 23
  simp only [World.size_alloc] at S1
  clear hm hmc hbl
  go_enter Tryz.func6, Tryz.ntmps6
  go_upto_region 3 with (fail)
  generalize w.heap.size + 1 = pc at S1 ⊢
  generalize w.heap.size = pa at S1 ⊢
  refine wp_world S1 fun w1 S2 => ?_
  clear S1
  have k0 := (S2).cell 0; have k1 := (S2).cell 1; have k2 := (S2).cell 2; have k3 := (S2).cell 3; have k4 := (S2).cell 4; have a5 := (S2).swap.cell 5; have a6 := (S2).swap.cell 6; have a7 := (S2).swap.cell 7
  have hmy := law_may S2 t z 1048576 4096 65536
  obtain ⟨mb, hmb⟩ : ∃ x, x = mayB t z 1048576 4096 65536 := ⟨_, rfl⟩
  rw [← hmb] at hmy
  have HMB := Lib.hid hmb
  clear hmb S2
  go_wp2_with fail
  (with_reducible refine hmy.mono ?_)
  rintro e w2 ⟨rfl, S3⟩
  clear hmy k0 k1 k2 k3 k4 a5 a6 a7
  have k0 := (S3).cell 0; have k1 := (S3).cell 1; have k2 := (S3).cell 2; have k3 := (S3).cell 3; have k4 := (S3).cell 4; have a5 := (S3).swap.cell 5; have a6 := (S3).swap.cell 6; have a7 := (S3).swap.cell 7
  have HS9 := Lib.hid S3
  have HT9 := HT
  have HG9 := Lib.hid (Gnd.le.rfl' (G := Gnd.of w))
  clear S3
  cases mb with
  | false =>
    go_wp2_with fail
    (with_reducible refine (law_awake HS9.out HT9.out).mono ?_); rintro e w9 ⟨rfl, G9, hG9, S9⟩; go_wp2_with fail; exact hK.out _ _ ⟨rfl, S9.above (HG9.out.trans hG9)⟩
  | true =>
  by_cases g1 : 8 < t
  · skip
    go_wp2_with fail
    (with_reducible refine (law_awake HS9.out HT9.out).mono ?_); rintro e w9 ⟨rfl, G9, hG9, S9⟩; go_wp2_with fail; exact hK.out _ _ ⟨rfl, S9.above (HG9.out.trans hG9)⟩
  by_cases g2 : T < 0
  · skip
    go_wp2_with fail
    (with_reducible refine (law_awake HS9.out HT9.out).mono ?_); rintro e w9 ⟨rfl, G9, hG9, S9⟩; go_wp2_with fail; exact hK.out _ _ ⟨rfl, S9.above (HG9.out.trans hG9)⟩
  by_cases g3 : t ≤ T
  · skip
    go_wp2_with fail
    (with_reducible refine (law_awake HS9.out HT9.out).mono ?_); rintro e w9 ⟨rfl, G9, hG9, S9⟩; go_wp2_with fail; exact hK.out _ _ ⟨rfl, S9.above (HG9.out.trans hG9)⟩
  by_cases g4 : 6 < m
  · skip
    have g4i : ¬ (m : Int) ≤ 6 := by omega
    go_wp2_with fail
    (with_reducible refine (law_awake HS9.out HT9.out).mono ?_); rintro e w9 ⟨rfl, G9, hG9, S9⟩; go_wp2_with fail; exact hK.out _ _ ⟨rfl, S9.above (HG9.out.trans hG9)⟩
  by_cases g5 : 400 < bl
  · skip
    go_wp2_with fail
    (with_reducible refine (law_awake HS9.out HT9.out).mono ?_); rintro e w9 ⟨rfl, G9, hG9, S9⟩; go_wp2_with fail; exact hK.out _ _ ⟨rfl, S9.above (HG9.out.trans hG9)⟩
  by_cases g6 : 10 < mc_
  · skip
    go_wp2_with fail
    (with_reducible refine (law_awake HS9.out HT9.out).mono ?_); rintro e w9 ⟨rfl, G9, hG9, S9⟩; go_wp2_with fail; exact hK.out _ _ ⟨rfl, S9.above (HG9.out.trans hG9)⟩
  have hm := of_decide_eq_true HMB.out.symm
  obtain ⟨n, rfl⟩ := Int.eq_ofNat_of_zero_le (show 0 ≤ t by omega)
  obtain ⟨T, rfl⟩ := Int.eq_ofNat_of_zero_le (show 0 ≤ T by omega)
  obtain ⟨c, hc⟩ : ∃ c : Oc, c = ⟨n, z, 1048576, 4096, 65536⟩ := ⟨_, rfl⟩
  have hnew := ob_new HS9.out n z 1048576 4096 65536 HMB.out.symm
  rw [← hc] at hnew
  have HB := Lib.hid (show T < n ∧ n ≤ 8 ∧ 16 ≤ z ∧ z ≤ 256 ∧ m ≤ 6 ∧ bl ≤ 400 ∧ mc_ ≤ 10 ∧ c.ten = n ∧ c.cell = z ∧ c.byt = 1048576 ∧ c.itm = 4096 ∧ c.str = 65536 by rw [hc]; exact ⟨by omega, by omega, by omega, by omega, by omega, by omega, by omega, rfl, rfl, rfl, rfl, rfl⟩)
  have HI := Lib.hid (show OInv c (newO n) by rw [hc]; exact new_inv HMB.out.symm)
  clear hc hm
  go_wp2_with fail
  (with_reducible refine hnew.mono ?_)
  rintro e w3 ⟨o, rfl, S4⟩
  clear hnew k0 k1 k2 k3 k4 a5 a6 a7 g1 g2 g3 g4 g5 g6
  have k0 := (S4.drop).cell 0; have k1 := (S4.drop).cell 1; have k2 := (S4.drop).cell 2; have k3 := (S4.drop).cell 3; have k4 := (S4.drop).cell 4; have a5 := (S4.drop).swap.cell 5; have a6 := (S4.drop).swap.cell 6; have a7 := (S4.drop).swap.cell 7
  have hcl := cell_cells bl z (by have := HB.out; omega) (by have := HB.out; omega) w3
  have hx0 : clCells bl z = (cN c bl : Int) := by
    have h := HB.out.2.2.2.2.2.2.2.2.1
    rw [← h]; exact clCells_eq (by have := HB.out; omega)
  rw [hx0] at hcl
  have hx27 := (cost1 (c := c) (n := bl) (by have := HB.out; omega) (by have := HB.out; omega) (by have := HB.out; omega)).1
  obtain ⟨x0, hxx⟩ : ∃ x, x = cN c bl := ⟨_, rfl⟩
  rw [← hxx] at hcl hx27
  have HX0 := Lib.hid hxx
  have HS4 := Lib.hid S4
  have w0_ : IntKind.i64.wrap (1 + (x0 : Int)) = 1 + (x0 : Int) := IntWalk.i64_in _ (by omega)
  clear hx0 hxx S4
  go_wp2_with fail
  (with_reducible refine hcl.mono ?_)
  rintro e w4 ⟨rfl, rfl⟩
  clear hcl
  go_wp2_with fail
  clear k0 k1 k2 k3 k4 a5 a6 a7 w0_
  go_loopw [8, 81] (fun x i wr => ∃ (k : Nat) (G1 : Gnd) (Q : List (List It)), k ≤ m ∧ i = .int .i64 k ∧ x = .int .i64 ((1 + x0 + qc c (Q.getD T []) : Nat) : Int) ∧ Q.length = n ∧ (Q.getD T []).length = k ∧ qsz (Q.getD T []) ≤ 401 * k ∧ (qc c (Q.getD T []) : Int) * z ≤ 937 * k ∧ OInv c { newO n with Q := Q } ∧ (Gnd.of w).le G1 ∧ Sat G1 wr (outA o c { newO n with Q := Q } :: blk pc #[.int .i64 n, .int .i64 z, .int .i64 1048576, .int .i64 4096, .int .i64 65536] 23 :: blk pa #[.int .i64 n, .int .i64 z, .int .i64 b, .int .i64 i_, .int .i64 q, .int .i64 T, .slice VA m ca, .slice VB bl cb] 63 :: [])) (fun _ i _ => m - (intOf i).toNat)
  case atStart =>
    refine ⟨0, Gnd.of w, List.replicate n [], Nat.zero_le _, rfl, ?_, List.length_replicate, ?_, ?_, ?_, HI.out, Gnd.le.rfl', HS4.out⟩
    · rw [show (List.replicate n ([] : List It)).getD T [] = [] from rep_getD]; exact congrArg (Value.int .i64) (by simp only [qc]; omega)
    · rw [rep_getD]; rfl
    · rw [rep_getD]; exact Nat.zero_le _
    · rw [rep_getD]; simp [qc]
  case round =>
    obtain ⟨k, G1, Q, hk, rfl, rfl, hQn, hQk, hQs, hQc, hI1, hG1, S5⟩ := hrel
    have k0 := (S5.drop).cell 0; have k1 := (S5.drop).cell 1; have k2 := (S5.drop).cell 2; have k3 := (S5.drop).cell 3; have k4 := (S5.drop).cell 4; have a5 := (S5.drop).swap.cell 5; have a6 := (S5.drop).swap.cell 6; have a7 := (S5.drop).swap.cell 7
    have hT0 := HB.out.1
    have hqb : qc c (Q.getD T []) ≤ 400 := by
      have h1 := HB.out.2.2.1
      have h2 := HB.out.2.2.2.2.1
      have h3 := Int.mul_le_mul_of_nonneg_left h1 (show (0 : Int) ≤ (qc c (Q.getD T []) : Int) by omega)
      omega
    have hiL : ((({ newO n with Q := Q } : Os).Q.getD T []).length : Int) < c.itm := by
      have h1 := HB.out.2.2.2.2.1
      have h2 := HB.out.2.2.2.2.2.2.2.2.2.2.1
      rw [h2]; show ((Q.getD T []).length : Int) < 4096; omega
    have hTc : T < c.ten := by rw [HB.out.2.2.2.2.2.2.2.1]; exact hT0
    by_cases hlt : k < m
    · obtain ⟨bk, a, u, rfl, hcl, hu, hbl⟩ : ∃ bk a u, VA = some a ∧ Go.Proofs.YtcecfhfbcdbofaaGreatDoor.cellR (Gnd.of w).ro (a.add k) = some u ∧ SlB (Go.Proofs.YtcecfhfbcdbofaaGreatDoor.cellR (Gnd.of w).ro) u bk ∧ bk.length ≤ 140737488351232 := ⟨bss[k]'(by rw [← HM.out.1]; exact hlt), HAE.out k _ (List.getElem?_eq_getElem (by rw [← HM.out.1]; exact hlt))⟩
      have hc0 := S5.cellR (cellR_mono hG1.ro hcl)
      obtain ⟨X, cx, rfl, -, -, -⟩ := hu.form
      obtain ⟨bn, hbn⟩ : ∃ x, x = bk.length := ⟨_, rfl⟩
      rw [← hbn] at hc0 hu hbl
      have HBN := Lib.hid (And.intro hbn (And.intro hu hbl))
      clear hcl hu hbl hbn
      by_cases hlong : 400 < bn
      · have HS9 := Lib.hid S5
        have HT9 := Lib.hid (HT.out.mono hG1)
        have HG9 := Lib.hid hG1
        clear S5 hI1 hG1 hQk hQs hQc hQn hqb hiL hTc
        go_wp2_with fail
        (with_reducible refine (law_awake HS9.out HT9.out).mono ?_); rintro e w9 ⟨rfl, G9, hG9, S9⟩; go_wp2_with fail; exact hK.out _ _ ⟨rfl, S9.above (HG9.out.trans hG9)⟩
      · obtain ⟨G2, hG2, T1, hb1⟩ := slb_of_row (bs := [1]) (N := 1) (S5.newBlk #[.int .u8 1] 5) rfl (by decide)
        have hbb : (qsz (({ newO n with Q := Q } : Os).Q.getD T []) : Int) + (1 + bk.length) ≤ c.byt := by
          have h1 := HB.out.2.2.2.2.1
          have h2 := HB.out.2.2.2.2.2.2.2.2.2.1
          have h3 := HBN.out.1
          rw [h2]; show (qsz (Q.getD T []) : Int) + (1 + bk.length) ≤ 1048576; omega
        have hs := ob_submit T1 hI1 T (100 + k) _ _ [1] bk hb1 (HBN.out.2.1.mono (hG1.trans hG2)) (by decide) (by have := HBN.out.1; have := HBN.out.2.2; omega)
        rw [sub_own hI1 hTc hiL hbb] at hs
        have hI2 := sub_inv hI1 T (100 + k, [1], bk)
        rw [sub_own hI1 hTc hiL hbb] at hI2
        obtain ⟨Q2, hQ2⟩ : ∃ Q2, Q2 = Q.set T (Q.getD T [] ++ [((100 + k : Int), [1], bk)]) := ⟨_, rfl⟩
        change OInv c { newO n with Q := Q.set T (Q.getD T [] ++ [((100 + k : Int), [1], bk)]) } at hI2
        change Calls _ _ _ _ (fun e w' => ∃ G', _ ∧ e = .returned (.int .i64 0) ∧ Sat G' w' (outA o c { newO n with Q := Q.set T (Q.getD T [] ++ [((100 + k : Int), [1], bk)]) } :: _)) at hs
        rw [← hQ2] at hs hI2
        have hg2 : Q2.getD T [] = Q.getD T [] ++ [((100 + k : Int), [1], bk)] := by rw [hQ2, List.getD_eq_getElem?_getD, List.getElem?_set_self (by rw [hQn]; exact hT0)]; rfl
        have hc1 := cost1 (c := c) (n := bn) (by have := HB.out; omega) (by have := HB.out; omega) (by omega)
        have hz := HB.out.2.2.2.2.2.2.2.2.1
        have HQ2 := Lib.hid (show Q2.length = n ∧ (Q2.getD T []).length = k + 1 ∧ qsz (Q2.getD T []) ≤ 401 * (k + 1) ∧ (qc c (Q2.getD T []) : Int) * z ≤ 937 * ((k + 1 : Nat) : Int) ∧ qc c (Q2.getD T []) = qc c (Q.getD T []) + (1 + cN c bn) by
          rw [hg2, qc_append]
          have e1 : qc c [((100 + k : Int), ([1] : List UInt8), bk)] = 1 + cN c bn := by simp only [qc]; rw [← HBN.out.1]; rfl
          rw [e1]
          refine ⟨by rw [hQ2, List.length_set]; exact hQn, by rw [List.length_append, hQk]; rfl, ?_, ?_, rfl⟩
          · rw [qsz_append, qsz_cons, qsz_nil]
            show qsz (Q.getD T []) + (1 + bk.length + 0) ≤ _
            have := HBN.out.1
            omega
          · rw [Int.natCast_add, Int.add_mul]
            have h2 := hc1.2
            rw [hz] at h2
            have h3 : ((1 + cN c bn : Nat) : Int) * z = (1 + (cN c bn : Int)) * z := by rw [Int.natCast_add]; rfl
            rw [h3]; omega)
        have HG2 := Lib.hid (And.intro (hG1.trans hG2) hI2)
        have hcl := fun W => cell_cells bn z (by omega) (by have := HB.out; omega) W
        have hy0 : clCells bn z = (cN c bn : Int) := by rw [← hz]; exact clCells_eq (by have := HB.out; omega)
        simp only [hy0] at hcl
        obtain ⟨y0, hyy⟩ : ∃ x, x = cN c bn := ⟨_, rfl⟩
        rw [← hyy] at hcl hc1
        have HY0 := Lib.hid hyy
        obtain ⟨xq, hxq⟩ : ∃ x, x = 1 + x0 + qc c (Q.getD T []) := ⟨_, rfl⟩
        rw [← hxq]
        have HXQ := Lib.hid hxq
        have hk6 := HB.out.2.2.2.2.1
        have w1_ : IntKind.i64.wrap (100 + (k : Int)) = 100 + (k : Int) := IntWalk.i64_in _ (by omega)
        have w2_ : IntKind.i64.wrap (1 + (y0 : Int)) = 1 + (y0 : Int) := IntWalk.i64_in _ (by omega)
        have w3_ : IntKind.i64.wrap ((xq : Int) + (1 + (y0 : Int))) = (xq : Int) + (1 + (y0 : Int)) := IntWalk.i64_in _ (by omega)
        have hl2 : ¬ (400 < (bn : Int)) := by omega
        clear S5 T1 hb1 hG2 hG1 hI1 hI2 hQn hQk hQs hQc hqb hiL hTc hbb hQ2 hg2 hc1 hz hyy hxq hk6 hlong hy0
        go_wp2_with fail
        (with_reducible refine hs.mono ?_)
        rintro e w7 ⟨G3, hG3, rfl, S7⟩
        clear hs hc0 k0 k1 k2 k3 k4 a5 a6 a7
        have k0 := (S7.drop).cell 0; have k1 := (S7.drop).cell 1; have k2 := (S7.drop).cell 2; have k3 := (S7.drop).cell 3; have k4 := (S7.drop).cell 4; have a5 := (S7.drop).swap.cell 5; have a6 := (S7.drop).swap.cell 6; have a7 := (S7.drop).swap.cell 7
        go_wp2_with fail
        (with_reducible refine (hcl _).mono ?_)
        rintro e w8 ⟨rfl, rfl⟩
        clear hcl
        go_wp2_with fail
        go_roundw
        case rel => exact ⟨k + 1, G3, Q2, by omega, by go_num, congrArg (Value.int .i64) (by rw [HQ2.out.2.2.2.2]; have := HXQ.out; have := HY0.out; omega), HQ2.out.1, HQ2.out.2.1, HQ2.out.2.2.1, HQ2.out.2.2.2.1, HG2.out.2, HG2.out.1.trans hG3, S7⟩
        case measure => simp [intOf]; omega
    · obtain rfl : m = k := by omega
      obtain ⟨G2, hG2, T1, hb1⟩ := slb_of_row (bs := [1]) (N := 1) (S5.newBlk #[.int .u8 1] 5) rfl (by decide)
      have hbb : (qsz (({ newO n with Q := Q } : Os).Q.getD T []) : Int) + (1 + bd.length) ≤ c.byt := by
        have h1 := HB.out.2.2.2.2.1
        have h2 := HB.out.2.2.2.2.2.2.2.2.2.1
        have h3 := HM.out.2.2
        have h4 := HB.out.2.2.2.2.2.1
        rw [h2]; show (qsz (Q.getD T []) : Int) + (1 + bd.length) ≤ 1048576; omega
      have hs := ob_submit T1 hI1 T 7 _ _ [1] bd hb1 (HVB.out.1.mono (hG1.trans hG2)) (by decide) (by have := HVB.out.2; omega)
      rw [sub_own hI1 hTc hiL hbb] at hs
      have hI2 := sub_inv hI1 T (7, [1], bd)
      rw [sub_own hI1 hTc hiL hbb] at hI2
      rw [← HM.out.2.2] at hs
      obtain ⟨Q2, hQ2⟩ : ∃ Q2, Q2 = Q.set T (Q.getD T [] ++ [((7 : Int), [1], bd)]) := ⟨_, rfl⟩
      change OInv c { newO n with Q := Q.set T (Q.getD T [] ++ [((7 : Int), [1], bd)]) } at hI2
      change Calls _ _ _ _ (fun e w' => ∃ G', _ ∧ e = .returned (.int .i64 0) ∧ Sat G' w' (outA o c { newO n with Q := Q.set T (Q.getD T [] ++ [((7 : Int), [1], bd)]) } :: _)) at hs
      rw [← hQ2] at hs hI2
      have hg2 : Q2.getD T [] = Q.getD T [] ++ [((7 : Int), [1], bd)] := by rw [hQ2, List.getD_eq_getElem?_getD, List.getElem?_set_self (by rw [hQn]; exact hT0)]; rfl
      have hc1 := cost1 (c := c) (n := bl) (by have := HB.out; omega) (by have := HB.out; omega) (by have := HB.out; omega)
      have hz := HB.out.2.2.2.2.2.2.2.2.1
      obtain ⟨R, hR⟩ : ∃ x, x = 1 + x0 + qc c (Q.getD T []) := ⟨_, rfl⟩
      rw [← hR]
      obtain ⟨X1, hX1⟩ : ∃ X, X = Q2.getD T [] := ⟨_, rfl⟩
      have HQ2 := Lib.hid (show Q2.length = n ∧ Q2.getD T [] = X1 ∧ qc c X1 = R ∧ (∃ x ∈ X1, x.1 = 7) ∧ (R : Int) * z ≤ 6559 by
        refine ⟨by rw [hQ2, List.length_set]; exact hQn, hX1.symm, ?_, ⟨(7, [1], bd), by rw [hX1, hg2]; simp, rfl⟩, ?_⟩
        · rw [hX1, hg2, qc_append, hR, HX0.out]
          simp only [qc]; rw [← HM.out.2.2]; omega
        · have h2 := hc1.2
          rw [hz] at h2
          have h5 := HB.out.2.2.2.2.1
          rw [hR, HX0.out, Int.natCast_add, Int.add_mul]
          have h3 : ((1 + cN c bl : Nat) : Int) * z = (1 + (cN c bl : Int)) * z := by rw [Int.natCast_add]; rfl
          rw [h3]; omega)
      have HG2 := Lib.hid (And.intro (hG1.trans hG2) hI2)
      have b5 := T1.drop.swap.cell 5
      have b7 := T1.drop.swap.cell 7
      clear S5 T1 hb1 hG2 hG1 hI1 hI2 hQn hQk hQs hQc hqb hiL hTc hbb hQ2 hg2 hc1 hz hR hX1 hx27
      go_wp2_with fail
      (with_reducible refine hs.mono ?_)
      rintro e w7 ⟨G3, hG3, rfl, S7⟩
      clear hs k0 k1 k2 k3 k4 a5 a6 a7 b5 b7
      have HG3 := Lib.hid (HG2.out.1.trans hG3)
      clear hG3
      go_wp2_with fail
      go_loopw [127] (fun i wr => ∃ (k : Nat) (G1 : Gnd) (Q : List (List It)), k ≤ mc_ ∧ i = .int .i64 k ∧ Q.length = n ∧ Q.getD T [] = X1 ∧ OInv c { newO n with Q := Q } ∧ (Gnd.of w).le G1 ∧ Sat G1 wr (outA o c { newO n with Q := Q } :: blk pc #[.int .i64 n, .int .i64 z, .int .i64 1048576, .int .i64 4096, .int .i64 65536] 23 :: blk pa #[.int .i64 n, .int .i64 z, .int .i64 b, .int .i64 i_, .int .i64 q, .int .i64 T, .slice VA m ca, .slice VB bl cb] 63 :: [])) (fun i _ => mc_ - (intOf i).toNat)
      case atStart => exact ⟨0, G3, Q2, Nat.zero_le _, rfl, HQ2.out.1, HQ2.out.2.1, HG2.out.2, HG3.out, S7⟩
      case round =>
        clear S7
        obtain ⟨k, G1, Q, hk, rfl, hQn, hQT, hI1, hG1, S5⟩ := hrel
        have k0 := (S5.drop).cell 0; have k1 := (S5.drop).cell 1; have k2 := (S5.drop).cell 2; have k3 := (S5.drop).cell 3; have k4 := (S5.drop).cell 4; have a5 := (S5.drop).swap.cell 5; have a6 := (S5.drop).swap.cell 6; have a7 := (S5.drop).swap.cell 7
        by_cases hlt : k < mc_
        · obtain ⟨bk, a, u, rfl, hcl, hu, hbl⟩ : ∃ bk a u, VC = some a ∧ Go.Proofs.YtcecfhfbcdbofaaGreatDoor.cellR (Gnd.of w).ro (a.add k) = some u ∧ SlB (Go.Proofs.YtcecfhfbcdbofaaGreatDoor.cellR (Gnd.of w).ro) u bk ∧ bk.length ≤ 140737488351232 := ⟨css[k]'(by rw [← HM.out.2.1]; exact hlt), HCE.out k _ (List.getElem?_eq_getElem (by rw [← HM.out.2.1]; exact hlt))⟩
          have hc0 := S5.cellR (cellR_mono hG1.ro hcl)
          obtain ⟨X, cx, rfl, -, -, -⟩ := hu.form
          obtain ⟨bn, hbn⟩ : ∃ x, x = bk.length := ⟨_, rfl⟩
          rw [← hbn] at hc0 hu hbl
          have HBN := Lib.hid (And.intro hbn (And.intro hu hbl))
          have HQ := Lib.hid (And.intro hQn (And.intro hQT (And.intro hI1 hG1)))
          have hmc10 := HB.out.2.2.2.2.2.2.1
          have hn1 : 1 ≤ n := by have := HB.out.1; omega
          have hn8 := HB.out.2.1
          have hmod : Int.tmod (k : Int) (n : Int) = ((k % n : Nat) : Int) := by
            rw [Int.tmod_eq_emod_of_nonneg (by omega)]; rfl
          have hn0 : ((n : Int) == 0) = false := by simp; omega
          have HS5 := Lib.hid S5
          clear hcl hu hbl hbn hQn hQT hI1 hG1 S5
          obtain ⟨km, hkm⟩ : ∃ x, x = k % n := ⟨_, rfl⟩
          rw [← hkm] at hmod
          have hmod2 : (k : Int) % (n : Int) = (km : Int) := by rw [hkm]; rfl
          clear hkm
          by_cases hlong : 400 < bn
          · have hl1 : decide ((bn : Int) ≤ 400) = false := decide_eq_false (by omega)
            have hl2 : decide (bn ≤ 400) = false := decide_eq_false (by omega)
            go_wp2_with fail
            go_quiet (fail)
            go_wp2_with fail
            go_roundw
            case rel => exact ⟨k + 1, G1, Q, by omega, by go_num, HQ.out.1, HQ.out.2.1, HQ.out.2.2.1, HQ.out.2.2.2, HS5.out.drewQ _⟩
            case measure => simp [intOf]; omega
          have hl1 : (bn : Int) ≤ 400 := by omega
          by_cases hkt : km = T
          · rw [hkt] at hmod hmod2
            go_wp2_with fail
            go_quiet (fail)
            go_wp2_with fail
            go_roundw
            case rel => exact ⟨k + 1, G1, Q, by omega, by go_num, HQ.out.1, HQ.out.2.1, HQ.out.2.2.1, HQ.out.2.2.2, HS5.out.drewQ _⟩
            case measure => simp [intOf]; omega
          have hne : ((km : Int) == (T : Int)) = false := by simp; omega
          have hne2 : ¬ ((km : Int) = (T : Int)) := by omega
          go_wp2_with fail
          go_quiet (fail)
          go_upto_region 22 with (fail)
          refine wp_world (HS5.out.drewQ _) fun W S6 => ?_
          clear k0 k1 k2 k3 k4 a5 a6 a7 hc0 HS5
          have k0 := (S6.drop).cell 0; have k1 := (S6.drop).cell 1; have k2 := (S6.drop).cell 2; have k3 := (S6.drop).cell 3; have k4 := (S6.drop).cell 4; have a5 := (S6.drop).swap.cell 5; have a6 := (S6.drop).swap.cell 6; have a7 := (S6.drop).swap.cell 7
          obtain ⟨G2, hG2, T1, hb1⟩ := slb_of_row (bs := [1]) (N := 1) (S6.newBlk #[.int .u8 1] 5) rfl (by decide)
          have hs := ob_submit T1 HQ.out.2.2.1 km 0 _ _ [1] bk hb1 (HBN.out.2.1.mono (HQ.out.2.2.2.trans hG2)) (by decide) (by have := HBN.out.1; have := HBN.out.2.2; omega)
          obtain ⟨er, her⟩ : ∃ x, x = (subS c { newO n with Q := Q } km (0, [1], bk)).2 := ⟨_, rfl⟩
          rw [← her] at hs
          have hI2 := sub_inv HQ.out.2.2.1 km (0, [1], bk)
          rw [sub_other HQ.out.2.2.1] at hs hI2
          obtain ⟨Q2, hQ2⟩ : ∃ Q2, Q2 = (putQ Q c.byt c.itm km (0, [1], bk)).1 := ⟨_, rfl⟩
          change OInv c { newO n with Q := (putQ Q c.byt c.itm km (0, [1], bk)).1 } at hI2
          change Calls _ _ _ _ (fun e w' => ∃ G', _ ∧ e = .returned (.int .i64 er) ∧ Sat G' w' (outA o c { newO n with Q := (putQ Q c.byt c.itm km (0, [1], bk)).1 } :: _)) at hs
          rw [← hQ2] at hs hI2
          have HQ2' := Lib.hid (show Q2.length = n ∧ Q2.getD T [] = X1 ∧ OInv c { newO n with Q := Q2 } ∧ (Gnd.of w).le G2 from ⟨by rw [hQ2, putQ_len]; exact HQ.out.1, by rw [hQ2, putQ_other hne2]; exact HQ.out.2.1, hI2, HQ.out.2.2.2.trans hG2⟩)
          clear S6 T1 hb1 hG2 hI2 hQ2 her
          go_wp2_with fail
          (with_reducible refine hs.mono ?_)
          rintro e w8 ⟨G3, hG3, rfl, S7⟩
          clear hs
          go_wp2_with fail
          go_roundw
          case rel => exact ⟨k + 1, G3, Q2, by omega, by go_num, HQ2'.out.1, HQ2'.out.2.1, HQ2'.out.2.2.1, HQ2'.out.2.2.2.trans hG3, S7⟩
          case measure => simp [intOf]; omega
        · obtain rfl : mc_ = k := by omega
          have hR410 : R ≤ 410 := by
            have h1 := HB.out.2.2.1
            have h2 := HQ2.out.2.2.2.2
            have h3 := Int.mul_le_mul_of_nonneg_left h1 (show (0 : Int) ≤ (R : Int) by omega)
            omega
          have hn8 := HB.out.2.1
          obtain ⟨N, hN⟩ : ∃ N, N = R * n := ⟨_, rfl⟩
          have hN2 : N ≤ 3280 := by rw [hN]; exact Nat.le_trans (Nat.mul_le_mul hR410 hn8) (by decide)
          have wN_ : IntKind.i64.wrap ((R : Int) * (n : Int)) = (N : Int) := by
            rw [show (R : Int) * (n : Int) = (N : Int) by rw [hN, Int.natCast_mul]]
            exact IntWalk.i64_in _ (by omega)
          have HNN := Lib.hid (And.intro hN hN2)
          have hpr : Prog c { newO n with Q := Q } T R := by
            have hcp := crp HB.out.2.1 HB.out.1
            have hz := HB.out.2.2.2.2.2.2.2.2.1
            refine ⟨?_, (fun y hy => by cases hy), (fun y hy => by cases hy), ?_, hcp.2, (fun t => rep_getD), .inl ?_⟩
            · show qc c (Q.getD T []) + 0 = R
              rw [hQT]; exact HQ2.out.2.2.1
            · show (R : Int) * c.cell ≤ crLeft (parts 65535 n) T
              rw [hz]
              have := HQ2.out.2.2.2.2
              omega
            · show ∃ x ∈ Q.getD T [], x.1 = 7
              rw [hQT]; exact HQ2.out.2.2.2.1
          have HST := Lib.hid (And.intro hpr (And.intro hI1 hG1))
          have HS5 := Lib.hid S5
          clear hpr hI1 hG1 S5 hQT hQn hN hR410
          go_wp2_with fail
          clear wN_
          go_loopw [158] (fun i wr => ∃ (k : Nat) (G1 : Gnd) (s : Os) (r : Nat), k ≤ N ∧ i = .int .i64 k ∧ Prog c s T r ∧ cnt n T k + r = R ∧ s.last + 1 = k ∧ s.F.length ≤ k ∧ OInv c s ∧ (Gnd.of w).le G1 ∧ Sat G1 wr (outA o c s :: blk pc #[.int .i64 n, .int .i64 z, .int .i64 1048576, .int .i64 4096, .int .i64 65536] 23 :: blk pa #[.int .i64 n, .int .i64 z, .int .i64 b, .int .i64 i_, .int .i64 q, .int .i64 T, .slice VA m ca, .slice VB bl cb] 63 :: [])) (fun i _ => N - (intOf i).toNat)
          case atStart => exact ⟨0, G1, _, R, Nat.zero_le _, rfl, HST.out.1, by rw [cnt_zero HB.out.1, Nat.zero_add], rfl, Nat.zero_le _, HST.out.2.1, HST.out.2.2, HS5.out⟩
          case round =>
            clear HS5 HST k0 k1 k2 k3 k4 a5 a6 a7
            obtain ⟨k, G2, s, r, hk, rfl, hp, hcnt, hla, hfe, hI2, hG2, S6⟩ := hrel
            by_cases hlt : k < N
            · have hsl := ob_slot S6 hI2 (HT.out.mono hG2) k (by have := HNN.out.2; omega)
              have hlt2 : (k : Int) < (N : Int) := by omega
              have HP := Lib.hid (And.intro hp (And.intro hcnt (And.intro hla (And.intro hfe (And.intro hI2 hG2)))))
              clear hp hcnt hla hfe hI2 hG2 S6
              go_wp2_with fail
              (with_reducible refine hsl.mono ?_)
              clear hsl
              rintro e w8 ⟨G3, s', hG3, hR, hI', S7⟩
              rcases hR with ⟨hb, -⟩ | ⟨-, hle, -⟩ | ⟨-, -, tt, d, u, bs_, ht, -, hu, hlen, rfl, hst⟩
              · exfalso
                have hNN := HNN.out.2
                unfold tickOk at hb
                have h0 : (0 : Int) ≤ k := by omega
                have h1 : (k : Int) ≤ 1073741823 := by omega
                rw [decide_eq_true h0, decide_eq_true h1] at hb
                cases hb
              · exfalso
                have := HP.out.2.2.1
                omega
              · have hcn := HB.out.2.2.2.2.2.2.2.1
                have hd2 := step_ten hst
                have hlast := step_last hst
                have hstk : k % n = tt := by
                  rw [hcn] at ht
                  have : ((k % n : Nat) : Int) = (tt : Int) := ht
                  omega
                have hfew := step_few (s := { s with last := (k : Int) }) hst (last_inv HP.out.2.2.2.2.1 (by have := HP.out.2.2.1; omega)) hI'
                change s'.last = (k : Int) at hlast
                change s'.F.length ≤ s.F.length + 1 at hfew
                have hNN := HNN.out.2
                have hla' : s'.last + 1 = ((k + 1 : Nat) : Int) := by omega
                have hfe' : s'.F.length ≤ k + 1 := by have := HP.out.2.2.2.1; omega
                have hin := last_inv HP.out.2.2.2.2.1 (tick := (k : Int)) (by have := HP.out.2.2.1; omega)
                have hpo : (tt = T → (d.1 = 3 ∧ d.2.2.2.1 = 7) ∨ ∃ r', r = r' + 1 ∧ Prog c s' T r') ∧ (tt ≠ T → Prog c s' T r) := by
                  refine ⟨fun he => ?_, fun he => prog_other hin he (by omega) (by omega) ht HP.out.1.atLast hst⟩
                  subst he
                  refine prog_own hin (by rw [hcn]; exact HB.out.1) (by omega) (by omega) ht HP.out.1.atLast ?_ hst
                  have h1 := live_le HP.out.2.2.2.2.1 (T := tt) (by rw [hcn]; exact HB.out.1)
                  have h2 := HP.out.2.2.2.1
                  have h3 := HB.out.2.2.2.2.2.2.2.2.2.2.2
                  show liveAt s.L tt < c.str
                  rw [h3]; omega
                have HO := Lib.hid (And.intro hpo (And.intro hstk (And.intro hla' (And.intro hfe' (And.intro hI' (HP.out.2.2.2.2.2.trans hG3))))))
                by_cases htT : T = tt
                · subst htT
                  obtain ⟨d1, d2, d3, d4, d5⟩ := d
                  simp only at hd2 ⊢
                  subst hd2
                  have S8 := S7.newBlk #[.int .i64 d1, .int .i64 (T : Int), .int .i64 d3, .int .i64 d4, .int .i64 d5] 45
                  have e0 := S8.cell 0
                  have e1 := S8.cell 1
                  have e3 := S8.cell 3
                  have k0 := (S8.drop.drop).cell 0; have k1 := (S8.drop.drop).cell 1; have k2 := (S8.drop.drop).cell 2; have k3 := (S8.drop.drop).cell 3; have k4 := (S8.drop.drop).cell 4; have a5 := (S8.drop.drop).swap.cell 5; have a6 := (S8.drop.drop).swap.cell 6; have a7 := (S8.drop.drop).swap.cell 7
                  have HS8 := Lib.hid S8
                  clear hst hu hlen ht hlast hfew hla' hfe' hin hpo hI' hG3 S7 S8 hcn hstk hlt2
                  by_cases h7 : d4 = 7
                  · by_cases h3 : d1 = 3
                    · subst h7 h3
                      have HS9 := Lib.hid HS8.out
                      have HT9 := Lib.hid (HT.out.mono HO.out.2.2.2.2.2)
                      have HG9 := Lib.hid HO.out.2.2.2.2.2
                      go_wp2_with fail
                      (with_reducible refine (law_awake HS9.out HT9.out).mono ?_); rintro e w9 ⟨rfl, G9, hG9, S9⟩; go_wp2_with fail; exact hK.out _ _ ⟨rfl, S9.above (HG9.out.trans hG9)⟩
                    · obtain ⟨r', hr', hp'⟩ := (HO.out.1.1 rfl).resolve_left (fun hc => h3 hc.1)
                      have HP' := Lib.hid (And.intro hr' hp')
                      clear hp' hr'
                      have h3b : (d1 == 3) = false := by simpa using h3
                      subst h7
                      go_wp2_with fail
                      go_roundw
                      case rel => exact ⟨k + 1, G3, s', r', by omega, by go_num, HP'.out.2, by rw [cnt_hit HB.out.1 HO.out.2.1]; have := HP.out.2.1; have := HP'.out.1; omega, HO.out.2.2.1, HO.out.2.2.2.1, HO.out.2.2.2.2.1, HO.out.2.2.2.2.2, HS8.out.drop⟩
                      case measure => simp [intOf]; omega
                  · obtain ⟨r', hr', hp'⟩ := (HO.out.1.1 rfl).resolve_left (fun hc => h7 hc.2)
                    have HP' := Lib.hid (And.intro hr' hp')
                    clear hp' hr'
                    have h7b : (d4 == 7) = false := by simpa using h7
                    go_wp2_with fail
                    go_roundw
                    case rel => exact ⟨k + 1, G3, s', r', by omega, by go_num, HP'.out.2, by rw [cnt_hit HB.out.1 HO.out.2.1]; have := HP.out.2.1; have := HP'.out.1; omega, HO.out.2.2.1, HO.out.2.2.2.1, HO.out.2.2.2.2.1, HO.out.2.2.2.2.2, HS8.out.drop⟩
                    case measure => simp [intOf]; omega
                · have htT : tt ≠ T := fun h => htT h.symm
                  obtain ⟨d1, d2, d3, d4, d5⟩ := d
                  simp only at hd2 ⊢
                  subst hd2
                  have S8 := S7.newBlk #[.int .i64 d1, .int .i64 (tt : Int), .int .i64 d3, .int .i64 d4, .int .i64 d5] 45
                  have e0 := S8.cell 0
                  have e1 := S8.cell 1
                  have e3 := S8.cell 3
                  have k0 := (S8.drop.drop).cell 0; have k1 := (S8.drop.drop).cell 1; have k2 := (S8.drop.drop).cell 2; have k3 := (S8.drop.drop).cell 3; have k4 := (S8.drop.drop).cell 4; have a5 := (S8.drop.drop).swap.cell 5; have a6 := (S8.drop.drop).swap.cell 6; have a7 := (S8.drop.drop).swap.cell 7
                  have HS8 := Lib.hid S8
                  clear hst hu hlen ht hlast hfew hla' hfe' hin hpo hI' hG3 S7 S8 hcn hstk hlt2
                  have hbt : ((tt : Int) == (T : Int)) = false := by simp; omega
                  have hbt2 : ¬ ((tt : Int) = (T : Int)) := by omega
                  have HP' := Lib.hid (HO.out.1.2 htT)
                  go_wp2_with fail
                  go_roundw
                  case rel => exact ⟨k + 1, G3, s', r, by omega, by go_num, HP'.out, by rw [cnt_miss HB.out.1 (by rw [HO.out.2.1]; exact htT)]; exact HP.out.2.1, HO.out.2.2.1, HO.out.2.2.2.1, HO.out.2.2.2.2.1, HO.out.2.2.2.2.2, HS8.out.drop⟩
                  case measure => simp [intOf]; omega
            · exfalso
              obtain rfl : N = k := by omega
              have h1 := hp.pos hI2.c0
              have h2 := cnt_end (r := R) HB.out.1
              rw [← HNN.out.1] at h2
              omega
end Go.Proofs.YtcecfhfbcdbofaaGreatDoor
