/- The walk of the law FrameRow. -/
import Derived.Test.YtjhhabaeaekejaaAllLaw
import Derived.Test.YtjhhabaeaekejaaFb
set_option linter.unusedSimpArgs false
set_option linter.unusedVariables false
namespace Go.Proofs.Ytjhhabaeaekejaa
open Go.RowKit

structure FrD where
  t : Int
  f : Int
  s : Int
  v : Value
  bs : List UInt8
def FrD.bytes (d : FrD) : List UInt8 := frBytes d.t.toNat d.f.toNat d.s.toNat d.bs
/-- A slice of frames that nobody turns. -/
def RFrs (R : Hp) (v : Value) (fl : List FrD) : Prop :=
  ∃ A c, v = .slice A fl.length c ∧ fl.length ≤ 140737488351232 ∧ ∀ i d, fl[i]? = some d → ∃ a b off, A = some a ∧ a.add (i * 4) = ⟨b, off, none⟩ ∧ cellR R ⟨b, off, none⟩ = some (.int .i64 d.t) ∧ cellR R ⟨b, off + 1, none⟩ = some (.int .i64 d.f) ∧ cellR R ⟨b, off + 2, none⟩ = some (.int .i64 d.s) ∧ cellR R ⟨b, off + 3, none⟩ = some d.v ∧ SlB (cellR R) d.v d.bs ∧ d.bs.length ≤ 140737488351232
theorem frames_of {R : Hp} {v : Value} {l : List D} (h : RdSl R 48 (Ty.agg [.int .i64, .int .i64, .int .i64, .sl 1 (.int .u8)]) v l) : ∃ fl, RFrs R v fl := by
  obtain ⟨A, c, hv, hlc, hc, hb, _, hel⟩ := h.form
  have key : ∀ i, i < l.length → ∃ d : FrD, ∃ a b off, A = some a ∧ a.add (i * 4) = ⟨b, off, none⟩ ∧ cellR R ⟨b, off, none⟩ = some (.int .i64 d.t) ∧ cellR R ⟨b, off + 1, none⟩ = some (.int .i64 d.f) ∧ cellR R ⟨b, off + 2, none⟩ = some (.int .i64 d.s) ∧ cellR R ⟨b, off + 3, none⟩ = some d.v ∧ SlB (cellR R) d.v d.bs ∧ d.bs.length ≤ 140737488351232 := fun i hi => by
    obtain ⟨a, hA, es, he, hcl, hr⟩ := hel i l[i] (List.getElem?_eq_getElem hi)
    obtain ⟨t, f, s, X, bs, cx, rfl, -, -, -, hl, hs⟩ := rd_frame hr
    have hz : ∀ j, j < 4 → cellR R (a.add (i * 4 + j)) = [Value.int .i64 t, .int .i64 f, .int .i64 s, .slice X bs.length cx][j]? := fun j hj => hcl j hj
    obtain ⟨b, off, hab⟩ : ∃ b off, a.add (i * 4) = ⟨b, off, none⟩ := by
      have h0 := hz 0 (by omega)
      rcases hx : a.add (i * 4) with ⟨b, off, sp⟩
      cases sp with
      | none => exact ⟨b, off, rfl⟩
      | some s =>
        rw [Nat.add_zero, hx] at h0
        simp only [cellR] at h0
        split at h0 <;> simp at h0
    have hj : ∀ j, a.add (i * 4 + j) = ⟨b, off + j, none⟩ := fun j => by
      rw [← add_add_all, hab]; unfold Addr.add; split <;> simp_all
    exact ⟨⟨t, f, s, _, bs⟩, a, b, off, hA, hab, by have h0 := hz 0 (by omega); rw [Nat.add_zero, hab] at h0; exact h0, by rw [← hj 1]; exact hz 1 (by omega), by rw [← hj 2]; exact hz 2 (by omega), by rw [← hj 3]; exact hz 3 (by omega), hs, hl⟩
  obtain ⟨fl, hl, hfl⟩ := list_of_each (Q := fun i (d : FrD) => ∃ a b off, A = some a ∧ a.add (i * 4) = ⟨b, off, none⟩ ∧ cellR R ⟨b, off, none⟩ = some (.int .i64 d.t) ∧ cellR R ⟨b, off + 1, none⟩ = some (.int .i64 d.f) ∧ cellR R ⟨b, off + 2, none⟩ = some (.int .i64 d.s) ∧ cellR R ⟨b, off + 3, none⟩ = some d.v ∧ SlB (cellR R) d.v d.bs ∧ d.bs.length ≤ 140737488351232) l.length key
  exact ⟨fl, A, c, by rw [hl]; exact hv, by omega, hfl⟩
/-- May all of them be? -/
def Right200 (fl : List FrD) : Prop := ∀ d ∈ fl, frRight d.t d.f d.s d.bs.length = true ∧ d.bs.length ≤ 200
def flat (fl : List FrD) : List UInt8 := (fl.map FrD.bytes).flatten
theorem head_of {d : FrD} {r : List UInt8} (h : frRight d.t d.f d.s d.bs.length = true ∧ d.bs.length ≤ 200) :
    headE (d.bytes ++ r) 200 = 0 ∧ hdN (d.bytes ++ r) = d.bs.length ∧ (hdT (d.bytes ++ r) : Int) = d.t ∧ (hdF (d.bytes ++ r) : Int) = d.f ∧ (hdS (d.bytes ++ r) : Int) = d.s ∧ ((d.bytes ++ r).drop 9).take d.bs.length = d.bs ∧ (d.bytes ++ r).drop (9 + d.bs.length) = r := by
  obtain ⟨h1, h2⟩ := h
  replace h1 := of_decide_eq_true h1
  obtain ⟨e1, e2, e3, e4, e5, e6⟩ := fr_head d.t.toNat d.f.toNat d.s.toNat d.bs (by omega) (by omega) (by omega) (by omega) r
  have hl := frBytes_length d.t.toNat d.f.toNat d.s.toNat d.bs
  unfold FrD.bytes
  refine ⟨?_, e1, by rw [e2]; omega, by rw [e3]; omega, by rw [e4]; omega, e5, e6⟩
  unfold headE
  rw [e1, List.length_append, hl, if_neg (by omega), if_neg (by omega), if_neg (by omega)]
theorem flat_cons (d : FrD) (fl : List FrD) (z : List UInt8) : flat (d :: fl) ++ z = d.bytes ++ (flat fl ++ z) := by simp [flat]
theorem eat_flat (fl : List FrD) (z : List UInt8) (h : Right200 fl) : ∀ k, k ≤ fl.length → eat (flat fl ++ z) k = flat (fl.drop k) ++ z
  | 0, _ => by simp [eat]
  | k + 1, hk => by
    have ih := eat_flat fl z h k (by omega)
    have hd : fl.drop k = fl[k] :: fl.drop (k + 1) := List.drop_eq_getElem_cons (by omega)
    rw [hd] at ih
    rw [flat_cons] at ih
    obtain ⟨_, h1, _, _, _, _, h6⟩ := head_of (r := flat (fl.drop (k + 1)) ++ z) (h _ (List.getElem_mem (by omega : k < fl.length)))
    simp only [eat]
    rw [ih, h1, h6]
theorem eats_flat (fl : List FrD) (z : List UInt8) (h : Right200 fl) : Eats (flat fl ++ z) 200 fl.length := fun i hi => by
  rw [eat_flat fl z h i (by omega), List.drop_eq_getElem_cons hi]
  rw [flat_cons]
  exact (head_of (h _ (List.getElem_mem hi))).1
theorem eat_end (fl : List FrD) (z : List UInt8) (h : Right200 fl) (hz : z.length ≤ 8) : eat (flat fl ++ z) fl.length = z ∧ headE (eat (flat fl ++ z) fl.length) 200 = 16 := by
  have e : eat (flat fl ++ z) fl.length = z := by rw [eat_flat fl z h _ (Nat.le_refl _), List.drop_length]; simp [flat]
  exact ⟨e, by rw [e]; unfold headE; rw [if_pos (by omega)]⟩
theorem flat_snoc (fl : List FrD) (d : FrD) : flat (fl ++ [d]) = flat fl ++ d.bytes := by simp [flat]
set_option maxHeartbeats 4000000 in
set_option maxRecDepth 100000 in
theorem frameRow_walk (w : World) (v0 v1 : Value) (h0 : ∃ d, ArgV w (.sl 48 (Ty.agg [.int .i64, .int .i64, .int .i64, .sl 1 (.int .u8)])) v0 d) (h1 : ∃ d, ArgV w (.int .i64) v1 d) :
    Calls Try.prog 8 #[v0, v1] w fun e w' => e = .returned (.bool true) ∧ Below w.heap.size w w' := by
  refine calls_any fun K hK => ?_
  obtain ⟨_, h0⟩ := h0
  obtain ⟨l, h0⟩ := arg_sl h0
  obtain ⟨fl, A, c, rfl, hfl, hel⟩ := frames_of h0
  obtain ⟨_, h1⟩ := h1
  obtain ⟨n, rfl, hn⟩ := arg_int h1
  clear h0 h1 l hn
  change ∀ i d, fl[i]? = some d → ∃ a b off, A = some a ∧ a.add (i * 4) = ⟨b, off, none⟩ ∧ cellR (Gnd.of w).ro _ = _ ∧ cellR (Gnd.of w).ro _ = _ ∧ cellR (Gnd.of w).ro _ = _ ∧ cellR (Gnd.of w).ro _ = _ ∧ SlB (cellR (Gnd.of w).ro) _ _ ∧ _ at hel
  have HEL := Lib.hid hel
  clear hel
  have S0 := (Sat.start w).ownNil 5 1
  go_enter Try.func8, Try.ntmps8
  go_wp2_with fail
  go_loopw [5, 17] (fun x i wr => ∃ (k : Nat) (G : Gnd), k ≤ fl.length ∧ i = .int .i64 k ∧ (Gnd.of w).le G ∧ Right200 (fl.take k) ∧ (flat (fl.take k)).length ≤ 1709 ∧ Sat G wr [ownS 5 1 x (flat (fl.take k)).length ((flat (fl.take k)).map byteV)]) (fun _ i _ => fl.length - (intOf i).toNat)
  case atStart => exact ⟨0, _, Nat.zero_le _, rfl, Gnd.le.rfl', fun d hd => by simp at hd, by simp [flat], by simpa [flat] using S0⟩
  case round =>
    obtain ⟨k, G, hk, rfl, hG, hR, hln, S1⟩ := hrel
    clear S0
    obtain ⟨O, co, rfl, hco1, hco2, -⟩ := S1.ownForm
    by_cases hlt : k < fl.length
    · obtain ⟨a, b, off, rfl, ha, p0, p1, p2, p3, hs, hbl⟩ := HEL.out k fl[k] (List.getElem?_eq_getElem hlt)
      have q0 := S1.cellR (cellR_mono hG.ro p0)
      have q1 := S1.cellR (cellR_mono hG.ro p1)
      have q2 := S1.cellR (cellR_mono hG.ro p2)
      have q3 := S1.cellR (cellR_mono hG.ro p3)
      have hsn : fl.take (k + 1) = fl.take k ++ [fl[k]] := List.take_succ_eq_append_getElem hlt
      have HSN := Lib.hid hsn
      have HRR := Lib.hid hR
      have hs1 := hs.mono hG
      clear p0 p1 p2 p3 hs hsn hR
      generalize fl[k] = d at *
      obtain ⟨dt, df, ds, dv, db⟩ := d
      simp only at q0 q1 q2 q3 hs1 hbl
      obtain ⟨X, cx, rfl, -, -, -⟩ := hs1.form
      have S2 := (S1.newBlk #[.int .i64 dt, .int .i64 df, .int .i64 ds, .slice X db.length cx] 24)
      go_upto_region 5 with fail
      generalize wr.heap.size = p at S2 ⊢
      refine wp_world S2 fun W S3 => ?_
      clear S1 S2 q0 q1 q2 q3
      have c0 : W.cell? ⟨p, 0, none⟩ = some (.int .i64 dt) := S3.cell 0
      have c1 : W.cell? ⟨p, 1, none⟩ = some (.int .i64 df) := S3.cell 1
      have c2 : W.cell? ⟨p, 2, none⟩ = some (.int .i64 ds) := S3.cell 2
      have c3 : W.cell? ⟨p, 3, none⟩ = some (.slice X db.length cx) := S3.cell 3
      by_cases g1 : 200 < (db.length : Int)
      · go_wp2_with fail
        (with_reducible refine (law_awake2 _).mono ?_); rintro e w9 ⟨rfl, hb9⟩; go_wp2_with fail; exact hK.out _ _ ⟨rfl, ((S3.drop.drop).below hb9).above hG⟩
      by_cases g2 : 1500 < ((flat (fl.take k)).length : Int)
      · go_wp2_with fail
        (with_reducible refine (law_awake2 _).mono ?_); rintro e w9 ⟨rfl, hb9⟩; go_wp2_with fail; exact hK.out _ _ ⟨rfl, ((S3.drop.drop).below hb9).above hG⟩
      have hrt := law_right S3 dt df ds X db.length cx
      cases hr : frRight dt df ds db.length with
      | false =>
        rw [hr] at hrt
        clear S3
        go_wp2_with fail
        (with_reducible refine hrt.mono ?_)
        clear hrt c0 c1 c2 c3
        rintro e w4 ⟨rfl, S4⟩
        go_wp2_with fail
        (with_reducible refine (law_awake2 _).mono ?_); rintro e w9 ⟨rfl, hb9⟩; go_wp2_with fail; exact hK.out _ _ ⟨rfl, ((S4.drop.drop).below hb9).above hG⟩
      | true =>
        rw [hr] at hrt
        clear S3
        go_wp2_with fail
        (with_reducible refine hrt.mono ?_)
        clear hrt c0 c1 c2 c3
        rintro e w4 ⟨rfl, S4⟩
        have c0 : w4.cell? ⟨p, 0, none⟩ = some (.int .i64 dt) := S4.cell 0
        have c1 : w4.cell? ⟨p, 1, none⟩ = some (.int .i64 df) := S4.cell 1
        have c2 : w4.cell? ⟨p, 2, none⟩ = some (.int .i64 ds) := S4.cell 2
        have c3 : w4.cell? ⟨p, 3, none⟩ = some (.slice X db.length cx) := S4.cell 3
        have hby := frame_bytes_any S4.drop dt df ds _ db hs1
        clear S4
        go_wp2_with fail
        (with_reducible refine hby.mono ?_)
        clear hby c0 c1 c2 c3
        rintro e w5 ⟨G2, u, er, hG2, S5, rfl, ⟨h, -⟩ | ⟨-, rfl, hu⟩⟩
        · rw [hr] at h; cases h
        obtain ⟨Y, cy, rfl, hy1, hy2, hy3⟩ := hu.form
        have hul := (hu.sat S5).1
        have hfb := frBytes_length dt.toNat df.toNat ds.toNat db
        have hbnd : (flat (fl.take k)).length + (frBytes dt.toNat df.toNat ds.toNat db).length ≤ 140737488355328 := by omega
        have HFB := Lib.hid hfb
        clear hfb
        go_wp2_with (at_builtin; refine st_app S5 rfl _ _ rfl rfl rfl hul hy3 hbnd ?_; intro v' w' S')
        have hfb := HFB.out
        go_roundw
        case rel => exact ⟨k + 1, G2, by omega, by go_num, hG.trans hG2, by
          rw [HSN.out]
          intro d hd
          rcases List.mem_append.1 hd with h | h
          · exact HRR.out d h
          · obtain rfl := List.mem_singleton.1 h
            exact ⟨hr, by show db.length ≤ 200; omega⟩, by rw [HSN.out, flat_snoc, List.length_append]; show _ + (frBytes dt.toNat df.toNat ds.toNat db).length ≤ 1709; omega, by
          rw [HSN.out, flat_snoc, List.length_append, List.map_append]; exact S'⟩
        case measure => simp [intOf]; omega
    · obtain rfl : k = fl.length := by omega
      rw [List.take_length] at hR hln S1 ⊢
      rw [List.take_length] at hco1
      by_cases n0 : n < 0
      ·
        have hmk : ∀ w, (Instr.makeSlice 22 (.int .i64 0) (.int .i64 0)).run Try.prog w = .ok (.slice (some ⟨w.heap.size, 0, none⟩) 0 0) (w.alloc (.cells (madeCells #[.int .u8 0] 0) 5)) := run_make_row' (P := Try.prog) 22 5 (.int .u8 0) 1 Try.underlying22 info_u8 rfl .i64 .i64 0 (by omega) (by omega)
        have hzl : (List.replicate 0 (0 : UInt8)).length = 0 := List.length_replicate
        have hzm : (madeCells #[Value.int .u8 0] 0).toList = (List.replicate 0 (0 : UInt8)).map byteV := by rw [toList_madeCells_one, List.map_replicate]; rfl
        have S2 : Sat G (wr.alloc (.cells (madeCells #[.int .u8 0] 0) 5)) (ownS 5 1 (.slice (some ⟨wr.heap.size, 0, none⟩) 0 0) (List.replicate 0 (0 : UInt8)).length ((List.replicate 0 (0 : UInt8)).map byteV) :: [ownS 5 1 (.slice O (flat fl).length co) (flat fl).length ((flat fl).map byteV)]) := by
          rw [hzl, ← hzm]
          exact (S1.newBlk (madeCells #[.int .u8 0] 0) 5).ownBlk (size := 1) 0 (by rw [← Array.length_toList, hzm, List.length_map, hzl, Nat.mul_one]) (Nat.le_trans (show 0 ≤ 8 by omega) (by decide))
        obtain ⟨G3, hG3, S3, htl⟩ := S2.ownFrz
        clear S1 S2
        obtain ⟨e1, e2⟩ := eat_end fl (List.replicate 0 0) hR (by rw [hzl]; omega)
        have hEf := eats_flat fl (List.replicate 0 0) hR
        have hZ8 : 0 ≤ 8 := by omega
        generalize List.replicate 0 (0 : UInt8) = zb at *
        have hbnd : (flat fl).length + zb.length ≤ 140737488355328 := by omega
        have HZL := Lib.hid hzl
        have htf : some (⟨wr.heap.size, 0, none⟩ : Addr) = none → 0 = 0 := fun h => by cases h
        have htv := fun (W : World) (l : List Asrt) (SW : Sat G3 W l) => (htl.sat SW).1
        have E1 := Lib.hid e1
        have E2 := Lib.hid e2
        clear hzl hzm e1 e2 hco1 hco2
        go_upto_region 13 with fail
        refine wp_world S3 fun W3 S4 => ?_
        clear S3
        have htw := htv _ _ S4
        rw [show Value.slice (some ⟨wr.heap.size, 0, none⟩) 0 0 = Value.slice (some ⟨wr.heap.size, 0, none⟩) zb.length 0 by rw [HZL.out]] at htw
        go_wp2_with (at_builtin; refine st_app S4 rfl _ _ rfl rfl (by show Value.slice (some _) 0 0 = _; rw [HZL.out]) htw htf hbnd ?_; intro v' w' S')
        rw [← List.length_append, ← List.map_append] at S'
        obtain ⟨G4, hG4, S5, hv'⟩ := S'.ownFrz
        have hall := frame_all S5 v' (flat fl ++ zb) 200 hv' (by have := HZL.out; rw [List.length_append]; omega)
        clear S' S4 htw htv hmk
        (with_reducible refine hall.mono ?_)
        clear hall S5
        rintro e w5 ⟨G5, M, hG5, S6, hM, hcs⟩
        have hh1 := hM.le (K := fl.length) (by rw [E2.out]; decide)
        have hh2 : fl.length ≤ M := hEf.le (K := M) (by rcases hcs with h | h <;> rw [h.1] <;> decide)
        obtain rfl : M = fl.length := by omega
        rcases hcs with ⟨hE, v1, v2, rfl, hfr, hrest⟩ | ⟨hE, -⟩
        rotate_left
        · have := E2.out
          rw [hE] at this
          exact absurd this (by decide)
        rw [E1.out] at hrest
        obtain ⟨F, cf, rfl, hf1, hf2, hfe⟩ := hfr
        obtain ⟨B, cb, rfl, -, -, -⟩ := hrest.form
        have hf3 : cf ≤ 9223372036854775807 := hf2
        have HFE := Lib.hid hfe
        have hzl := HZL.out
        have hG := ((hG.trans hG3).trans hG4).trans hG5
        clear hfe hM hEf hE hh1 hh2 hrest htl hv'
        go_wp2_with fail
        go_loopw [77] (fun i wr => ∃ k : Nat, k ≤ fl.length ∧ i = .int .i64 k ∧ Sat G5 wr []) (fun i _ => fl.length - (intOf i).toNat)
        case atStart => exact ⟨0, Nat.zero_le _, rfl, S6⟩
        case round =>
          obtain ⟨k, hk2, rfl, S8⟩ := hrel
          clear S6
          by_cases hkl : k < fl.length
          · obtain ⟨a, b, off, rfl, ha, p0, p1, p2, p3, hs, hbl⟩ := HEL.out k fl[k] (List.getElem?_eq_getElem hkl)
            replace p0 := cellR_mono hG.ro p0
            replace p1 := cellR_mono hG.ro p1
            replace p2 := cellR_mono hG.ro p2
            replace p3 := cellR_mono hG.ro p3
            have hs1 := hs.mono hG
            obtain ⟨g, e1, u, f0, f1, f2, f3, hu⟩ := HFE.out k hkl
            subst e1
            replace f0 : cellR G5.ro ⟨g, k * 4, none⟩ = some (.int .i64 (hdT (eat (flat fl ++ zb) k))) := f0
            replace f1 : cellR G5.ro ⟨g, k * 4 + 1, none⟩ = some (.int .i64 (hdF (eat (flat fl ++ zb) k))) := f1
            replace f2 : cellR G5.ro ⟨g, k * 4 + 2, none⟩ = some (.int .i64 (hdS (eat (flat fl ++ zb) k))) := f2
            replace f3 : cellR G5.ro ⟨g, k * 4 + 3, none⟩ = some u := f3
            have hek := eat_flat fl zb hR k (by omega)
            rw [List.drop_eq_getElem_cons hkl, flat_cons] at hek
            obtain ⟨-, x1, x2, x3, x4, x5, -⟩ := head_of (r := flat (fl.drop (k + 1)) ++ zb) (hR _ (List.getElem_mem hkl))
            rw [hek, x2] at f0
            rw [hek, x3] at f1
            rw [hek, x4] at f2
            rw [hek, x1, x5] at hu
            clear x1 x2 x3 x4 x5 hek hs
            generalize fl[k] = d at *
            obtain ⟨dt, df, ds, dv, db⟩ := d
            simp only at f0 f1 f2 hu p0 p1 p2 p3 hs1
            obtain ⟨X, cx, rfl, -, -, -⟩ := hs1.form
            obtain ⟨Y, cy, rfl, -, -, -⟩ := hu.form
            go_upto_region 19 with fail
            refine wp_act fun a0 ha0 => ?_
            have HSZ : a0.tmps.size = 92 := by rw [ha0]; rfl
            have E0 : a0.eval (.tmp 0) = .slice (some a) fl.length c := by rw [ha0]; rfl
            have E11 : a0.eval (.tmp 11) = .slice (some ⟨g, 0, none⟩) fl.length cf := by rw [ha0]; rfl
            have E14 : a0.eval (.tmp 14) = .int .i64 k := by rw [ha0]; rfl
            refine wp_region_sat (by kernel_rfl) 10 (by kernel_rfl) [[], [], [0, 1], [2], [], [], [4, 5], [6], [3, 7], [8]] (by kernel_rfl) (by kernel_rfl) [(0, 80, .slice (some ⟨g, 0, none⟩) fl.length cf), (1, 81, .int .i64 k), (2, 82, .pointer (some ⟨g, k * 4, none⟩)), (3, 83, .agg #[.int .i64 dt, .int .i64 df, .int .i64 ds, .slice Y db.length cy]), (4, 84, .slice (some a) fl.length c), (5, 85, .int .i64 k), (6, 86, .pointer (some ⟨b, off, none⟩)), (7, 87, .agg #[.int .i64 dt, .int .i64 df, .int .i64 ds, .slice X db.length cx]), (8, 88, .bool true), (9, 89, .bool false)] (fun _ => []) (by kernel_rfl) S8 ?_ ?_
            · refine ⟨?_, ?_, ?_, ?_, ?_, ?_, ?_, ?_, ?_, ?_, trivial⟩
              · intro f W h0 hd S
                refine wpOp_run (v := .slice (some ⟨g, 0, none⟩) fl.length cf) rfl rfl (fun ρ hρ => ?_) ⟨(acts_some 0 rfl (by kernel_rfl) (by kernel_rfl)).symm, S⟩
                have e0 : ρ (.tmp 11) = .slice (some ⟨g, 0, none⟩) fl.length cf := by rw [hρ]; exact (acts_eval_tmp 11 (by kernel_rfl)).trans E11
                clear hρ
                go_simp
              · intro f W h1 hd S
                refine wpOp_run (v := .int .i64 k) rfl rfl (fun ρ hρ => ?_) ⟨(acts_some 1 rfl (by kernel_rfl) (by kernel_rfl)).symm, S⟩
                have e0 : ρ (.tmp 14) = .int .i64 k := by rw [hρ]; exact (acts_eval_tmp 14 (by kernel_rfl)).trans E14
                clear hρ
                go_simp
              · intro f W h2 hd S
                refine wpOp_run (v := .pointer (some ⟨g, k * 4, none⟩)) rfl rfl (fun ρ hρ => ?_) ⟨(acts_some 2 rfl (by kernel_rfl) (by kernel_rfl)).symm, S⟩
                have e0 : ρ (.tmp 80) = .slice (some ⟨g, 0, none⟩) fl.length cf := by rw [hρ]; exact acts_eval_hit 0 rfl hd.1 (by rw [HSZ]; rfl) (by kernel_rfl)
                have e1 : ρ (.tmp 81) = .int .i64 k := by rw [hρ]; exact acts_eval_hit 1 rfl hd.2.1 (by rw [HSZ]; rfl) (by kernel_rfl)
                clear hρ
                go_simp
              · intro f W h3 hd S
                refine wpOp_run (v := .agg #[.int .i64 dt, .int .i64 df, .int .i64 ds, .slice Y db.length cy]) rfl rfl (fun ρ hρ => ?_) ⟨(acts_some 3 rfl (by kernel_rfl) (by kernel_rfl)).symm, S⟩
                have e0 : ρ (.tmp 82) = .pointer (some ⟨g, k * 4, none⟩) := by rw [hρ]; exact acts_eval_hit 2 rfl hd.1 (by rw [HSZ]; rfl) (by kernel_rfl)
                clear hρ
                (have d0 := S.cellR f0; have d1 := S.cellR f1; have d2 := S.cellR f2; have d3 := S.cellR f3)
                go_simp
              · intro f W h4 hd S
                refine wpOp_run (v := .slice (some a) fl.length c) rfl rfl (fun ρ hρ => ?_) ⟨(acts_some 4 rfl (by kernel_rfl) (by kernel_rfl)).symm, S⟩
                have e0 : ρ (.tmp 0) = .slice (some a) fl.length c := by rw [hρ]; exact (acts_eval_tmp 0 (by kernel_rfl)).trans E0
                clear hρ
                go_simp
              · intro f W h5 hd S
                refine wpOp_run (v := .int .i64 k) rfl rfl (fun ρ hρ => ?_) ⟨(acts_some 5 rfl (by kernel_rfl) (by kernel_rfl)).symm, S⟩
                have e0 : ρ (.tmp 14) = .int .i64 k := by rw [hρ]; exact (acts_eval_tmp 14 (by kernel_rfl)).trans E14
                clear hρ
                go_simp
              · intro f W h6 hd S
                refine wpOp_run (v := .pointer (some ⟨b, off, none⟩)) rfl rfl (fun ρ hρ => ?_) ⟨(acts_some 6 rfl (by kernel_rfl) (by kernel_rfl)).symm, S⟩
                have e0 : ρ (.tmp 84) = .slice (some a) fl.length c := by rw [hρ]; exact acts_eval_hit 4 rfl hd.1 (by rw [HSZ]; rfl) (by kernel_rfl)
                have e1 : ρ (.tmp 85) = .int .i64 k := by rw [hρ]; exact acts_eval_hit 5 rfl hd.2.1 (by rw [HSZ]; rfl) (by kernel_rfl)
                clear hρ
                go_simp
              · intro f W h7 hd S
                refine wpOp_run (v := .agg #[.int .i64 dt, .int .i64 df, .int .i64 ds, .slice X db.length cx]) rfl rfl (fun ρ hρ => ?_) ⟨(acts_some 7 rfl (by kernel_rfl) (by kernel_rfl)).symm, S⟩
                have e0 : ρ (.tmp 86) = .pointer (some ⟨b, off, none⟩) := by rw [hρ]; exact acts_eval_hit 6 rfl hd.1 (by rw [HSZ]; rfl) (by kernel_rfl)
                clear hρ
                (have d0 := S.cellR p0; have d1 := S.cellR p1; have d2 := S.cellR p2; have d3 := S.cellR p3)
                go_simp
              · intro f W h8 hd S
                refine wpOp_call rfl rfl (fun ρ hρ => ?_) (frame_equal S dt df ds dt df ds _ _ db db (fun W SW ↦ (hu.sat SW).1) (fun W SW ↦ (hs1.sat SW).1)) ?_
                · skip
                  have e0 : ρ (.tmp 83) = .agg #[.int .i64 dt, .int .i64 df, .int .i64 ds, .slice Y db.length cy] := by rw [hρ]; exact acts_eval_hit 3 rfl hd.1 (by rw [HSZ]; rfl) (by kernel_rfl)
                  have e1 : ρ (.tmp 87) = .agg #[.int .i64 dt, .int .i64 df, .int .i64 ds, .slice X db.length cx] := by rw [hρ]; exact acts_eval_hit 7 rfl hd.2.1 (by rw [HSZ]; rfl) (by kernel_rfl)
                  have ef : ρ (.func 14) = .func (.func 14) #[] #[] := by rw [hρ]; rfl
                  clear hρ
                  go_simp
                · (rintro e W' ⟨rfl, S'⟩; rw [decide_eq_true ⟨rfl, rfl, rfl, rfl⟩]; exact ⟨_, rfl, (acts_some 8 rfl (by kernel_rfl) (by kernel_rfl)).symm, S'⟩)
              · intro f W h9 hd S
                refine wpOp_run (v := .bool false) rfl rfl (fun ρ hρ => ?_) ⟨(acts_some 9 rfl (by kernel_rfl) (by kernel_rfl)).symm, S⟩
                have e0 : ρ (.tmp 88) = .bool true := by rw [hρ]; exact acts_eval_hit 8 rfl hd.1 (by rw [HSZ]; rfl) (by kernel_rfl)
                clear hρ
                go_simp
            intro W8 S9
            subst ha0
            simp only [acts, if_true, Act.put, List.setIfInBounds_toArray, List.set_cons_succ, List.set_cons_zero]
            clear S8 HSZ E0 E11 E14
            go_wp2_with fail
            go_roundw
            case rel => exact ⟨k + 1, by omega, by go_num, S9⟩
            case measure => simp [intOf]; omega
          · go_wp2_with fail
            (with_reducible refine (law_awake2 _).mono ?_); rintro e w9 ⟨rfl, hb9⟩; go_wp2_with fail; exact hK.out _ _ ⟨rfl, ((S8).below hb9).above hG⟩
      by_cases n8 : 8 < n
      ·
        have hmk : ∀ w, (Instr.makeSlice 22 (.int .i64 8) (.int .i64 8)).run Try.prog w = .ok (.slice (some ⟨w.heap.size, 0, none⟩) 8 8) (w.alloc (.cells (madeCells #[.int .u8 0] 8) 5)) := run_make_row' (P := Try.prog) 22 5 (.int .u8 0) 1 Try.underlying22 info_u8 rfl .i64 .i64 8 (by omega) (by omega)
        have hzl : (List.replicate 8 (0 : UInt8)).length = 8 := List.length_replicate
        have hzm : (madeCells #[Value.int .u8 0] 8).toList = (List.replicate 8 (0 : UInt8)).map byteV := by rw [toList_madeCells_one, List.map_replicate]; rfl
        have S2 : Sat G (wr.alloc (.cells (madeCells #[.int .u8 0] 8) 5)) (ownS 5 1 (.slice (some ⟨wr.heap.size, 0, none⟩) 8 8) (List.replicate 8 (0 : UInt8)).length ((List.replicate 8 (0 : UInt8)).map byteV) :: [ownS 5 1 (.slice O (flat fl).length co) (flat fl).length ((flat fl).map byteV)]) := by
          rw [hzl, ← hzm]
          exact (S1.newBlk (madeCells #[.int .u8 0] 8) 5).ownBlk (size := 1) 8 (by rw [← Array.length_toList, hzm, List.length_map, hzl, Nat.mul_one]) (Nat.le_trans (show 8 ≤ 8 by omega) (by decide))
        obtain ⟨G3, hG3, S3, htl⟩ := S2.ownFrz
        clear S1 S2
        obtain ⟨e1, e2⟩ := eat_end fl (List.replicate 8 0) hR (by rw [hzl]; omega)
        have hEf := eats_flat fl (List.replicate 8 0) hR
        have hZ8 : 8 ≤ 8 := by omega
        generalize List.replicate 8 (0 : UInt8) = zb at *
        have hbnd : (flat fl).length + zb.length ≤ 140737488355328 := by omega
        have HZL := Lib.hid hzl
        have htf : some (⟨wr.heap.size, 0, none⟩ : Addr) = none → 8 = 0 := fun h => by cases h
        have htv := fun (W : World) (l : List Asrt) (SW : Sat G3 W l) => (htl.sat SW).1
        have E1 := Lib.hid e1
        have E2 := Lib.hid e2
        clear hzl hzm e1 e2 hco1 hco2
        go_upto_region 13 with fail
        refine wp_world S3 fun W3 S4 => ?_
        clear S3
        have htw := htv _ _ S4
        rw [show Value.slice (some ⟨wr.heap.size, 0, none⟩) 8 8 = Value.slice (some ⟨wr.heap.size, 0, none⟩) zb.length 8 by rw [HZL.out]] at htw
        go_wp2_with (at_builtin; refine st_app S4 rfl _ _ rfl rfl (by show Value.slice (some _) 8 8 = _; rw [HZL.out]) htw htf hbnd ?_; intro v' w' S')
        rw [← List.length_append, ← List.map_append] at S'
        obtain ⟨G4, hG4, S5, hv'⟩ := S'.ownFrz
        have hall := frame_all S5 v' (flat fl ++ zb) 200 hv' (by have := HZL.out; rw [List.length_append]; omega)
        clear S' S4 htw htv hmk
        (with_reducible refine hall.mono ?_)
        clear hall S5
        rintro e w5 ⟨G5, M, hG5, S6, hM, hcs⟩
        have hh1 := hM.le (K := fl.length) (by rw [E2.out]; decide)
        have hh2 : fl.length ≤ M := hEf.le (K := M) (by rcases hcs with h | h <;> rw [h.1] <;> decide)
        obtain rfl : M = fl.length := by omega
        rcases hcs with ⟨hE, v1, v2, rfl, hfr, hrest⟩ | ⟨hE, -⟩
        rotate_left
        · have := E2.out
          rw [hE] at this
          exact absurd this (by decide)
        rw [E1.out] at hrest
        obtain ⟨F, cf, rfl, hf1, hf2, hfe⟩ := hfr
        obtain ⟨B, cb, rfl, -, -, -⟩ := hrest.form
        have hf3 : cf ≤ 9223372036854775807 := hf2
        have HFE := Lib.hid hfe
        have hzl := HZL.out
        have hG := ((hG.trans hG3).trans hG4).trans hG5
        clear hfe hM hEf hE hh1 hh2 hrest htl hv'
        go_wp2_with fail
        go_loopw [77] (fun i wr => ∃ k : Nat, k ≤ fl.length ∧ i = .int .i64 k ∧ Sat G5 wr []) (fun i _ => fl.length - (intOf i).toNat)
        case atStart => exact ⟨0, Nat.zero_le _, rfl, S6⟩
        case round =>
          obtain ⟨k, hk2, rfl, S8⟩ := hrel
          clear S6
          by_cases hkl : k < fl.length
          · obtain ⟨a, b, off, rfl, ha, p0, p1, p2, p3, hs, hbl⟩ := HEL.out k fl[k] (List.getElem?_eq_getElem hkl)
            replace p0 := cellR_mono hG.ro p0
            replace p1 := cellR_mono hG.ro p1
            replace p2 := cellR_mono hG.ro p2
            replace p3 := cellR_mono hG.ro p3
            have hs1 := hs.mono hG
            obtain ⟨g, e1, u, f0, f1, f2, f3, hu⟩ := HFE.out k hkl
            subst e1
            replace f0 : cellR G5.ro ⟨g, k * 4, none⟩ = some (.int .i64 (hdT (eat (flat fl ++ zb) k))) := f0
            replace f1 : cellR G5.ro ⟨g, k * 4 + 1, none⟩ = some (.int .i64 (hdF (eat (flat fl ++ zb) k))) := f1
            replace f2 : cellR G5.ro ⟨g, k * 4 + 2, none⟩ = some (.int .i64 (hdS (eat (flat fl ++ zb) k))) := f2
            replace f3 : cellR G5.ro ⟨g, k * 4 + 3, none⟩ = some u := f3
            have hek := eat_flat fl zb hR k (by omega)
            rw [List.drop_eq_getElem_cons hkl, flat_cons] at hek
            obtain ⟨-, x1, x2, x3, x4, x5, -⟩ := head_of (r := flat (fl.drop (k + 1)) ++ zb) (hR _ (List.getElem_mem hkl))
            rw [hek, x2] at f0
            rw [hek, x3] at f1
            rw [hek, x4] at f2
            rw [hek, x1, x5] at hu
            clear x1 x2 x3 x4 x5 hek hs
            generalize fl[k] = d at *
            obtain ⟨dt, df, ds, dv, db⟩ := d
            simp only at f0 f1 f2 hu p0 p1 p2 p3 hs1
            obtain ⟨X, cx, rfl, -, -, -⟩ := hs1.form
            obtain ⟨Y, cy, rfl, -, -, -⟩ := hu.form
            go_upto_region 19 with fail
            refine wp_act fun a0 ha0 => ?_
            have HSZ : a0.tmps.size = 92 := by rw [ha0]; rfl
            have E0 : a0.eval (.tmp 0) = .slice (some a) fl.length c := by rw [ha0]; rfl
            have E11 : a0.eval (.tmp 11) = .slice (some ⟨g, 0, none⟩) fl.length cf := by rw [ha0]; rfl
            have E14 : a0.eval (.tmp 14) = .int .i64 k := by rw [ha0]; rfl
            refine wp_region_sat (by kernel_rfl) 10 (by kernel_rfl) [[], [], [0, 1], [2], [], [], [4, 5], [6], [3, 7], [8]] (by kernel_rfl) (by kernel_rfl) [(0, 80, .slice (some ⟨g, 0, none⟩) fl.length cf), (1, 81, .int .i64 k), (2, 82, .pointer (some ⟨g, k * 4, none⟩)), (3, 83, .agg #[.int .i64 dt, .int .i64 df, .int .i64 ds, .slice Y db.length cy]), (4, 84, .slice (some a) fl.length c), (5, 85, .int .i64 k), (6, 86, .pointer (some ⟨b, off, none⟩)), (7, 87, .agg #[.int .i64 dt, .int .i64 df, .int .i64 ds, .slice X db.length cx]), (8, 88, .bool true), (9, 89, .bool false)] (fun _ => []) (by kernel_rfl) S8 ?_ ?_
            · refine ⟨?_, ?_, ?_, ?_, ?_, ?_, ?_, ?_, ?_, ?_, trivial⟩
              · intro f W h0 hd S
                refine wpOp_run (v := .slice (some ⟨g, 0, none⟩) fl.length cf) rfl rfl (fun ρ hρ => ?_) ⟨(acts_some 0 rfl (by kernel_rfl) (by kernel_rfl)).symm, S⟩
                have e0 : ρ (.tmp 11) = .slice (some ⟨g, 0, none⟩) fl.length cf := by rw [hρ]; exact (acts_eval_tmp 11 (by kernel_rfl)).trans E11
                clear hρ
                go_simp
              · intro f W h1 hd S
                refine wpOp_run (v := .int .i64 k) rfl rfl (fun ρ hρ => ?_) ⟨(acts_some 1 rfl (by kernel_rfl) (by kernel_rfl)).symm, S⟩
                have e0 : ρ (.tmp 14) = .int .i64 k := by rw [hρ]; exact (acts_eval_tmp 14 (by kernel_rfl)).trans E14
                clear hρ
                go_simp
              · intro f W h2 hd S
                refine wpOp_run (v := .pointer (some ⟨g, k * 4, none⟩)) rfl rfl (fun ρ hρ => ?_) ⟨(acts_some 2 rfl (by kernel_rfl) (by kernel_rfl)).symm, S⟩
                have e0 : ρ (.tmp 80) = .slice (some ⟨g, 0, none⟩) fl.length cf := by rw [hρ]; exact acts_eval_hit 0 rfl hd.1 (by rw [HSZ]; rfl) (by kernel_rfl)
                have e1 : ρ (.tmp 81) = .int .i64 k := by rw [hρ]; exact acts_eval_hit 1 rfl hd.2.1 (by rw [HSZ]; rfl) (by kernel_rfl)
                clear hρ
                go_simp
              · intro f W h3 hd S
                refine wpOp_run (v := .agg #[.int .i64 dt, .int .i64 df, .int .i64 ds, .slice Y db.length cy]) rfl rfl (fun ρ hρ => ?_) ⟨(acts_some 3 rfl (by kernel_rfl) (by kernel_rfl)).symm, S⟩
                have e0 : ρ (.tmp 82) = .pointer (some ⟨g, k * 4, none⟩) := by rw [hρ]; exact acts_eval_hit 2 rfl hd.1 (by rw [HSZ]; rfl) (by kernel_rfl)
                clear hρ
                (have d0 := S.cellR f0; have d1 := S.cellR f1; have d2 := S.cellR f2; have d3 := S.cellR f3)
                go_simp
              · intro f W h4 hd S
                refine wpOp_run (v := .slice (some a) fl.length c) rfl rfl (fun ρ hρ => ?_) ⟨(acts_some 4 rfl (by kernel_rfl) (by kernel_rfl)).symm, S⟩
                have e0 : ρ (.tmp 0) = .slice (some a) fl.length c := by rw [hρ]; exact (acts_eval_tmp 0 (by kernel_rfl)).trans E0
                clear hρ
                go_simp
              · intro f W h5 hd S
                refine wpOp_run (v := .int .i64 k) rfl rfl (fun ρ hρ => ?_) ⟨(acts_some 5 rfl (by kernel_rfl) (by kernel_rfl)).symm, S⟩
                have e0 : ρ (.tmp 14) = .int .i64 k := by rw [hρ]; exact (acts_eval_tmp 14 (by kernel_rfl)).trans E14
                clear hρ
                go_simp
              · intro f W h6 hd S
                refine wpOp_run (v := .pointer (some ⟨b, off, none⟩)) rfl rfl (fun ρ hρ => ?_) ⟨(acts_some 6 rfl (by kernel_rfl) (by kernel_rfl)).symm, S⟩
                have e0 : ρ (.tmp 84) = .slice (some a) fl.length c := by rw [hρ]; exact acts_eval_hit 4 rfl hd.1 (by rw [HSZ]; rfl) (by kernel_rfl)
                have e1 : ρ (.tmp 85) = .int .i64 k := by rw [hρ]; exact acts_eval_hit 5 rfl hd.2.1 (by rw [HSZ]; rfl) (by kernel_rfl)
                clear hρ
                go_simp
              · intro f W h7 hd S
                refine wpOp_run (v := .agg #[.int .i64 dt, .int .i64 df, .int .i64 ds, .slice X db.length cx]) rfl rfl (fun ρ hρ => ?_) ⟨(acts_some 7 rfl (by kernel_rfl) (by kernel_rfl)).symm, S⟩
                have e0 : ρ (.tmp 86) = .pointer (some ⟨b, off, none⟩) := by rw [hρ]; exact acts_eval_hit 6 rfl hd.1 (by rw [HSZ]; rfl) (by kernel_rfl)
                clear hρ
                (have d0 := S.cellR p0; have d1 := S.cellR p1; have d2 := S.cellR p2; have d3 := S.cellR p3)
                go_simp
              · intro f W h8 hd S
                refine wpOp_call rfl rfl (fun ρ hρ => ?_) (frame_equal S dt df ds dt df ds _ _ db db (fun W SW ↦ (hu.sat SW).1) (fun W SW ↦ (hs1.sat SW).1)) ?_
                · skip
                  have e0 : ρ (.tmp 83) = .agg #[.int .i64 dt, .int .i64 df, .int .i64 ds, .slice Y db.length cy] := by rw [hρ]; exact acts_eval_hit 3 rfl hd.1 (by rw [HSZ]; rfl) (by kernel_rfl)
                  have e1 : ρ (.tmp 87) = .agg #[.int .i64 dt, .int .i64 df, .int .i64 ds, .slice X db.length cx] := by rw [hρ]; exact acts_eval_hit 7 rfl hd.2.1 (by rw [HSZ]; rfl) (by kernel_rfl)
                  have ef : ρ (.func 14) = .func (.func 14) #[] #[] := by rw [hρ]; rfl
                  clear hρ
                  go_simp
                · (rintro e W' ⟨rfl, S'⟩; rw [decide_eq_true ⟨rfl, rfl, rfl, rfl⟩]; exact ⟨_, rfl, (acts_some 8 rfl (by kernel_rfl) (by kernel_rfl)).symm, S'⟩)
              · intro f W h9 hd S
                refine wpOp_run (v := .bool false) rfl rfl (fun ρ hρ => ?_) ⟨(acts_some 9 rfl (by kernel_rfl) (by kernel_rfl)).symm, S⟩
                have e0 : ρ (.tmp 88) = .bool true := by rw [hρ]; exact acts_eval_hit 8 rfl hd.1 (by rw [HSZ]; rfl) (by kernel_rfl)
                clear hρ
                go_simp
            intro W8 S9
            subst ha0
            simp only [acts, if_true, Act.put, List.setIfInBounds_toArray, List.set_cons_succ, List.set_cons_zero]
            clear S8 HSZ E0 E11 E14
            go_wp2_with fail
            go_roundw
            case rel => exact ⟨k + 1, by omega, by go_num, S9⟩
            case measure => simp [intOf]; omega
          · go_wp2_with fail
            (with_reducible refine (law_awake2 _).mono ?_); rintro e w9 ⟨rfl, hb9⟩; go_wp2_with fail; exact hK.out _ _ ⟨rfl, ((S8).below hb9).above hG⟩
      ·
        obtain ⟨z, rfl⟩ : ∃ z : Nat, n = z := ⟨n.toNat, by omega⟩
        have hmk : ∀ w, (Instr.makeSlice 22 (.int .i64 z) (.int .i64 z)).run Try.prog w = .ok (.slice (some ⟨w.heap.size, 0, none⟩) z z) (w.alloc (.cells (madeCells #[.int .u8 0] z) 5)) := run_make_row' (P := Try.prog) 22 5 (.int .u8 0) 1 Try.underlying22 info_u8 rfl .i64 .i64 z (by omega) (by omega)
        have hzl : (List.replicate z (0 : UInt8)).length = z := List.length_replicate
        have hzm : (madeCells #[Value.int .u8 0] z).toList = (List.replicate z (0 : UInt8)).map byteV := by rw [toList_madeCells_one, List.map_replicate]; rfl
        have S2 : Sat G (wr.alloc (.cells (madeCells #[.int .u8 0] z) 5)) (ownS 5 1 (.slice (some ⟨wr.heap.size, 0, none⟩) z z) (List.replicate z (0 : UInt8)).length ((List.replicate z (0 : UInt8)).map byteV) :: [ownS 5 1 (.slice O (flat fl).length co) (flat fl).length ((flat fl).map byteV)]) := by
          rw [hzl, ← hzm]
          exact (S1.newBlk (madeCells #[.int .u8 0] z) 5).ownBlk (size := 1) z (by rw [← Array.length_toList, hzm, List.length_map, hzl, Nat.mul_one]) (Nat.le_trans (show z ≤ 8 by omega) (by decide))
        obtain ⟨G3, hG3, S3, htl⟩ := S2.ownFrz
        clear S1 S2
        obtain ⟨e1, e2⟩ := eat_end fl (List.replicate z 0) hR (by rw [hzl]; omega)
        have hEf := eats_flat fl (List.replicate z 0) hR
        have hZ8 : z ≤ 8 := by omega
        generalize List.replicate z (0 : UInt8) = zb at *
        have hbnd : (flat fl).length + zb.length ≤ 140737488355328 := by omega
        have HZL := Lib.hid hzl
        have htf : some (⟨wr.heap.size, 0, none⟩ : Addr) = none → z = 0 := fun h => by cases h
        have htv := fun (W : World) (l : List Asrt) (SW : Sat G3 W l) => (htl.sat SW).1
        have E1 := Lib.hid e1
        have E2 := Lib.hid e2
        clear hzl hzm e1 e2 hco1 hco2
        go_upto_region 13 with fail
        refine wp_world S3 fun W3 S4 => ?_
        clear S3
        have htw := htv _ _ S4
        rw [show Value.slice (some ⟨wr.heap.size, 0, none⟩) z z = Value.slice (some ⟨wr.heap.size, 0, none⟩) zb.length z by rw [HZL.out]] at htw
        go_wp2_with (at_builtin; refine st_app S4 rfl _ _ rfl rfl (by show Value.slice (some _) z z = _; rw [HZL.out]) htw htf hbnd ?_; intro v' w' S')
        rw [← List.length_append, ← List.map_append] at S'
        obtain ⟨G4, hG4, S5, hv'⟩ := S'.ownFrz
        have hall := frame_all S5 v' (flat fl ++ zb) 200 hv' (by have := HZL.out; rw [List.length_append]; omega)
        clear S' S4 htw htv hmk
        (with_reducible refine hall.mono ?_)
        clear hall S5
        rintro e w5 ⟨G5, M, hG5, S6, hM, hcs⟩
        have hh1 := hM.le (K := fl.length) (by rw [E2.out]; decide)
        have hh2 : fl.length ≤ M := hEf.le (K := M) (by rcases hcs with h | h <;> rw [h.1] <;> decide)
        obtain rfl : M = fl.length := by omega
        rcases hcs with ⟨hE, v1, v2, rfl, hfr, hrest⟩ | ⟨hE, -⟩
        rotate_left
        · have := E2.out
          rw [hE] at this
          exact absurd this (by decide)
        rw [E1.out] at hrest
        obtain ⟨F, cf, rfl, hf1, hf2, hfe⟩ := hfr
        obtain ⟨B, cb, rfl, -, -, -⟩ := hrest.form
        have hf3 : cf ≤ 9223372036854775807 := hf2
        have HFE := Lib.hid hfe
        have hzl := HZL.out
        have hG := ((hG.trans hG3).trans hG4).trans hG5
        clear hfe hM hEf hE hh1 hh2 hrest htl hv'
        go_wp2_with fail
        go_loopw [77] (fun i wr => ∃ k : Nat, k ≤ fl.length ∧ i = .int .i64 k ∧ Sat G5 wr []) (fun i _ => fl.length - (intOf i).toNat)
        case atStart => exact ⟨0, Nat.zero_le _, rfl, S6⟩
        case round =>
          obtain ⟨k, hk2, rfl, S8⟩ := hrel
          clear S6
          by_cases hkl : k < fl.length
          · obtain ⟨a, b, off, rfl, ha, p0, p1, p2, p3, hs, hbl⟩ := HEL.out k fl[k] (List.getElem?_eq_getElem hkl)
            replace p0 := cellR_mono hG.ro p0
            replace p1 := cellR_mono hG.ro p1
            replace p2 := cellR_mono hG.ro p2
            replace p3 := cellR_mono hG.ro p3
            have hs1 := hs.mono hG
            obtain ⟨g, e1, u, f0, f1, f2, f3, hu⟩ := HFE.out k hkl
            subst e1
            replace f0 : cellR G5.ro ⟨g, k * 4, none⟩ = some (.int .i64 (hdT (eat (flat fl ++ zb) k))) := f0
            replace f1 : cellR G5.ro ⟨g, k * 4 + 1, none⟩ = some (.int .i64 (hdF (eat (flat fl ++ zb) k))) := f1
            replace f2 : cellR G5.ro ⟨g, k * 4 + 2, none⟩ = some (.int .i64 (hdS (eat (flat fl ++ zb) k))) := f2
            replace f3 : cellR G5.ro ⟨g, k * 4 + 3, none⟩ = some u := f3
            have hek := eat_flat fl zb hR k (by omega)
            rw [List.drop_eq_getElem_cons hkl, flat_cons] at hek
            obtain ⟨-, x1, x2, x3, x4, x5, -⟩ := head_of (r := flat (fl.drop (k + 1)) ++ zb) (hR _ (List.getElem_mem hkl))
            rw [hek, x2] at f0
            rw [hek, x3] at f1
            rw [hek, x4] at f2
            rw [hek, x1, x5] at hu
            clear x1 x2 x3 x4 x5 hek hs
            generalize fl[k] = d at *
            obtain ⟨dt, df, ds, dv, db⟩ := d
            simp only at f0 f1 f2 hu p0 p1 p2 p3 hs1
            obtain ⟨X, cx, rfl, -, -, -⟩ := hs1.form
            obtain ⟨Y, cy, rfl, -, -, -⟩ := hu.form
            go_upto_region 19 with fail
            refine wp_act fun a0 ha0 => ?_
            have HSZ : a0.tmps.size = 92 := by rw [ha0]; rfl
            have E0 : a0.eval (.tmp 0) = .slice (some a) fl.length c := by rw [ha0]; rfl
            have E11 : a0.eval (.tmp 11) = .slice (some ⟨g, 0, none⟩) fl.length cf := by rw [ha0]; rfl
            have E14 : a0.eval (.tmp 14) = .int .i64 k := by rw [ha0]; rfl
            refine wp_region_sat (by kernel_rfl) 10 (by kernel_rfl) [[], [], [0, 1], [2], [], [], [4, 5], [6], [3, 7], [8]] (by kernel_rfl) (by kernel_rfl) [(0, 80, .slice (some ⟨g, 0, none⟩) fl.length cf), (1, 81, .int .i64 k), (2, 82, .pointer (some ⟨g, k * 4, none⟩)), (3, 83, .agg #[.int .i64 dt, .int .i64 df, .int .i64 ds, .slice Y db.length cy]), (4, 84, .slice (some a) fl.length c), (5, 85, .int .i64 k), (6, 86, .pointer (some ⟨b, off, none⟩)), (7, 87, .agg #[.int .i64 dt, .int .i64 df, .int .i64 ds, .slice X db.length cx]), (8, 88, .bool true), (9, 89, .bool false)] (fun _ => []) (by kernel_rfl) S8 ?_ ?_
            · refine ⟨?_, ?_, ?_, ?_, ?_, ?_, ?_, ?_, ?_, ?_, trivial⟩
              · intro f W h0 hd S
                refine wpOp_run (v := .slice (some ⟨g, 0, none⟩) fl.length cf) rfl rfl (fun ρ hρ => ?_) ⟨(acts_some 0 rfl (by kernel_rfl) (by kernel_rfl)).symm, S⟩
                have e0 : ρ (.tmp 11) = .slice (some ⟨g, 0, none⟩) fl.length cf := by rw [hρ]; exact (acts_eval_tmp 11 (by kernel_rfl)).trans E11
                clear hρ
                go_simp
              · intro f W h1 hd S
                refine wpOp_run (v := .int .i64 k) rfl rfl (fun ρ hρ => ?_) ⟨(acts_some 1 rfl (by kernel_rfl) (by kernel_rfl)).symm, S⟩
                have e0 : ρ (.tmp 14) = .int .i64 k := by rw [hρ]; exact (acts_eval_tmp 14 (by kernel_rfl)).trans E14
                clear hρ
                go_simp
              · intro f W h2 hd S
                refine wpOp_run (v := .pointer (some ⟨g, k * 4, none⟩)) rfl rfl (fun ρ hρ => ?_) ⟨(acts_some 2 rfl (by kernel_rfl) (by kernel_rfl)).symm, S⟩
                have e0 : ρ (.tmp 80) = .slice (some ⟨g, 0, none⟩) fl.length cf := by rw [hρ]; exact acts_eval_hit 0 rfl hd.1 (by rw [HSZ]; rfl) (by kernel_rfl)
                have e1 : ρ (.tmp 81) = .int .i64 k := by rw [hρ]; exact acts_eval_hit 1 rfl hd.2.1 (by rw [HSZ]; rfl) (by kernel_rfl)
                clear hρ
                go_simp
              · intro f W h3 hd S
                refine wpOp_run (v := .agg #[.int .i64 dt, .int .i64 df, .int .i64 ds, .slice Y db.length cy]) rfl rfl (fun ρ hρ => ?_) ⟨(acts_some 3 rfl (by kernel_rfl) (by kernel_rfl)).symm, S⟩
                have e0 : ρ (.tmp 82) = .pointer (some ⟨g, k * 4, none⟩) := by rw [hρ]; exact acts_eval_hit 2 rfl hd.1 (by rw [HSZ]; rfl) (by kernel_rfl)
                clear hρ
                (have d0 := S.cellR f0; have d1 := S.cellR f1; have d2 := S.cellR f2; have d3 := S.cellR f3)
                go_simp
              · intro f W h4 hd S
                refine wpOp_run (v := .slice (some a) fl.length c) rfl rfl (fun ρ hρ => ?_) ⟨(acts_some 4 rfl (by kernel_rfl) (by kernel_rfl)).symm, S⟩
                have e0 : ρ (.tmp 0) = .slice (some a) fl.length c := by rw [hρ]; exact (acts_eval_tmp 0 (by kernel_rfl)).trans E0
                clear hρ
                go_simp
              · intro f W h5 hd S
                refine wpOp_run (v := .int .i64 k) rfl rfl (fun ρ hρ => ?_) ⟨(acts_some 5 rfl (by kernel_rfl) (by kernel_rfl)).symm, S⟩
                have e0 : ρ (.tmp 14) = .int .i64 k := by rw [hρ]; exact (acts_eval_tmp 14 (by kernel_rfl)).trans E14
                clear hρ
                go_simp
              · intro f W h6 hd S
                refine wpOp_run (v := .pointer (some ⟨b, off, none⟩)) rfl rfl (fun ρ hρ => ?_) ⟨(acts_some 6 rfl (by kernel_rfl) (by kernel_rfl)).symm, S⟩
                have e0 : ρ (.tmp 84) = .slice (some a) fl.length c := by rw [hρ]; exact acts_eval_hit 4 rfl hd.1 (by rw [HSZ]; rfl) (by kernel_rfl)
                have e1 : ρ (.tmp 85) = .int .i64 k := by rw [hρ]; exact acts_eval_hit 5 rfl hd.2.1 (by rw [HSZ]; rfl) (by kernel_rfl)
                clear hρ
                go_simp
              · intro f W h7 hd S
                refine wpOp_run (v := .agg #[.int .i64 dt, .int .i64 df, .int .i64 ds, .slice X db.length cx]) rfl rfl (fun ρ hρ => ?_) ⟨(acts_some 7 rfl (by kernel_rfl) (by kernel_rfl)).symm, S⟩
                have e0 : ρ (.tmp 86) = .pointer (some ⟨b, off, none⟩) := by rw [hρ]; exact acts_eval_hit 6 rfl hd.1 (by rw [HSZ]; rfl) (by kernel_rfl)
                clear hρ
                (have d0 := S.cellR p0; have d1 := S.cellR p1; have d2 := S.cellR p2; have d3 := S.cellR p3)
                go_simp
              · intro f W h8 hd S
                refine wpOp_call rfl rfl (fun ρ hρ => ?_) (frame_equal S dt df ds dt df ds _ _ db db (fun W SW ↦ (hu.sat SW).1) (fun W SW ↦ (hs1.sat SW).1)) ?_
                · skip
                  have e0 : ρ (.tmp 83) = .agg #[.int .i64 dt, .int .i64 df, .int .i64 ds, .slice Y db.length cy] := by rw [hρ]; exact acts_eval_hit 3 rfl hd.1 (by rw [HSZ]; rfl) (by kernel_rfl)
                  have e1 : ρ (.tmp 87) = .agg #[.int .i64 dt, .int .i64 df, .int .i64 ds, .slice X db.length cx] := by rw [hρ]; exact acts_eval_hit 7 rfl hd.2.1 (by rw [HSZ]; rfl) (by kernel_rfl)
                  have ef : ρ (.func 14) = .func (.func 14) #[] #[] := by rw [hρ]; rfl
                  clear hρ
                  go_simp
                · (rintro e W' ⟨rfl, S'⟩; rw [decide_eq_true ⟨rfl, rfl, rfl, rfl⟩]; exact ⟨_, rfl, (acts_some 8 rfl (by kernel_rfl) (by kernel_rfl)).symm, S'⟩)
              · intro f W h9 hd S
                refine wpOp_run (v := .bool false) rfl rfl (fun ρ hρ => ?_) ⟨(acts_some 9 rfl (by kernel_rfl) (by kernel_rfl)).symm, S⟩
                have e0 : ρ (.tmp 88) = .bool true := by rw [hρ]; exact acts_eval_hit 8 rfl hd.1 (by rw [HSZ]; rfl) (by kernel_rfl)
                clear hρ
                go_simp
            intro W8 S9
            subst ha0
            simp only [acts, if_true, Act.put, List.setIfInBounds_toArray, List.set_cons_succ, List.set_cons_zero]
            clear S8 HSZ E0 E11 E14
            go_wp2_with fail
            go_roundw
            case rel => exact ⟨k + 1, by omega, by go_num, S9⟩
            case measure => simp [intOf]; omega
          · go_wp2_with fail
            (with_reducible refine (law_awake2 _).mono ?_); rintro e w9 ⟨rfl, hb9⟩; go_wp2_with fail; exact hK.out _ _ ⟨rfl, ((S8).below hb9).above hG⟩
end Go.Proofs.Ytjhhabaeaekejaa
