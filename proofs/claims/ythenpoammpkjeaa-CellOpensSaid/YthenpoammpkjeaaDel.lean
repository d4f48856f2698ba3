/- The walks over slices.IndexFunc and slices.DeleteFunc of frames: the filler goes. -/
import Derived.Test.YthenpoammpkjeaaElt
import Derived.Test.YthenpoammpkjeaaAw
set_option linter.unusedSimpArgs false
set_option linter.unusedVariables false
namespace Go.Proofs.Ythenpoammpkjeaa
open Go.RowKit

/-- A frame: type, flags, stream, payload. -/
abbrev Fr4 := Int × Int × Int × Value
def fc (f : Fr4) : List Value := [.int .i64 f.1, .int .i64 f.2.1, .int .i64 f.2.2.1, f.2.2.2]
theorem fc_len (f : Fr4) : (fc f).length = 4 := rfl
def fill (f : Fr4) : Bool := f.1 == 250
def keep (f : Fr4) : Bool := !fill f
/-- The payloads are slices. -/
def SlF (F : List Fr4) : Prop := ∀ (i : Nat) (f : Fr4), F[i]? = some f → ∃ A n c, f.2.2.2 = Value.slice A n c
theorem is_fill (t fl s : Int) (A : Option Addr) (n c : Nat) (w : World) : Calls Try.prog 31 #[.agg #[.int .i64 t, .int .i64 fl, .int .i64 s, .slice A n c]] w fun e w' => e = .returned (.bool (t == 250)) ∧ Below w.heap.size w w' := by
  refine calls_any fun K hK => ?_
  have BB : ∀ o, Below w.heap.size w (w.alloc o) := fun o => (Below.refl _ _).alloc (Nat.le_refl _) o
  go_enter Try.func31, Try.ntmps31
  go_wp2_with fail
  exact hK.out _ _ ⟨rfl, BB _⟩
/-- What IndexFunc tells: the first filler's place. -/
def IdxRes (F : List Fr4) (e : Ending) : Prop :=
  (e = .returned (.int .i64 (-1)) ∧ ∀ f ∈ F, fill f = false) ∨ (∃ i : Nat, i < F.length ∧ e = .returned (.int .i64 i) ∧ (∀ f ∈ F.take i, fill f = false) ∧ ∃ f, F[i]? = some f ∧ fill f = true)
theorem filter_none {F : List Fr4} (h : ∀ f ∈ F, fill f = false) : F.filter keep = F := List.filter_eq_self.2 fun f hf => by simp [keep, h f hf]
theorem take_snoc {α : Type} {F : List α} {i : Nat} {x : α} (h : F[i]? = some x) : F.take (i + 1) = F.take i ++ [x] := by
  have hi := (List.getElem?_eq_some_iff.1 h).1
  have he := (List.getElem?_eq_some_iff.1 h).2
  rw [List.take_succ_eq_append_getElem hi, he]
section
variable {G : Gnd} {w : World} {l : List Asrt} {g cap : Nat} {cur : Array Value} {F : List Fr4}
set_option maxHeartbeats 1000000 in
theorem idx_frames (S : Sat G w (blk g cur 40 :: l)) (L : Lay fc 4 cap cur F) (hc : cap ≤ maxLen) (hs : SlF F) :
    Calls Try.prog 45 #[.slice (some ⟨g, 0, none⟩) F.length cap, .func (.func 31) #[] #[]] w fun e w' => IdxRes F e ∧ Sat G w' (blk g cur 40 :: l) := by
  refine calls_any fun K hK => ?_
  have hc3 : cap ≤ 9223372036854775807 := hc
  have hlc := L.len
  have HL := Lib.hid L
  have HSF := Lib.hid hs
  clear L hs hc
  go_enter Try.func45, Try.ntmps45
  go_wp2_with fail
  go_loopw [8] (fun i wr => ∃ k : Nat, k ≤ F.length ∧ i = .int .i64 k ∧ (∀ f ∈ F.take k, fill f = false) ∧ Sat G wr (blk g cur 40 :: l)) (fun i _ => F.length - (intOf i).toNat)
  case atStart => exact ⟨0, Nat.zero_le _, rfl, by simp, S⟩
  case round =>
    obtain ⟨k, hk, rfl, hno, S2⟩ := hrel
    clear S
    have HNO := Lib.hid hno
    clear hno
    by_cases hlt : k < F.length
    · have hfk := List.getElem?_eq_getElem hlt
      obtain ⟨A, n, c, hsl⟩ := HSF.out k _ hfk
      have d0 := (S2.cell _).trans (HL.out.get hfk (j := 0) (by decide))
      have d1 := (S2.cell _).trans (HL.out.get hfk (j := 1) (by decide))
      have d2 := (S2.cell _).trans (HL.out.get hfk (j := 2) (by decide))
      have d3 := (S2.cell _).trans (HL.out.get hfk (j := 3) (by decide))
      have HFK := Lib.hid hfk
      clear hfk
      have hff : fill F[k] = (F[k].1 == 250) := rfl
      simp only [fc, List.getElem?_cons_zero, List.getElem?_cons_succ, Nat.add_zero] at d0 d1 d2 d3
      rw [hsl] at d3
      have HFF := Lib.hid hff
      clear hff hsl
      have hcl := is_fill F[k].1 F[k].2.1 F[k].2.2.1 A n c
      generalize hfx : F[k] = fx at *
      have HFX := Lib.hid hfx
      clear hfx
      cases hb : (fx.1 == 250) with
      | true =>
        rw [hb] at hcl
        have HFB : Hid (fill fx = true) := Lib.hid hb
        clear hb
        generalize fx.1 = t at *
        generalize fx.2.1 = fl at *
        generalize fx.2.2.1 = s at *
        go_wp2_with fail
        (with_reducible refine (hcl _).mono ?_)
        rintro e w2 ⟨rfl, hb2⟩
        have S3 := S2.below hb2
        clear S2 hb2 d0 d1 d2 d3
        go_wp2_with fail
        exact hK.out _ _ ⟨.inr ⟨k, hlt, rfl, HNO.out, fx, HFK.out, HFB.out⟩, S3⟩
      | false =>
        rw [hb] at hcl
        have HFB : Hid (fill fx = false) := Lib.hid hb
        clear hb
        generalize fx.1 = t at *
        generalize fx.2.1 = fl at *
        generalize fx.2.2.1 = s at *
        go_wp2_with fail
        (with_reducible refine (hcl _).mono ?_)
        rintro e w2 ⟨rfl, hb2⟩
        have S3 := S2.below hb2
        clear S2 hb2 d0 d1 d2 d3
        go_wp2_with fail
        go_roundw
        case rel => exact ⟨k + 1, by omega, by go_num, fun f hf => by
          rw [take_snoc HFK.out] at hf
          rcases List.mem_append.1 hf with hf | hf
          · exact HNO.out f hf
          · rw [List.mem_singleton.1 hf]; exact HFB.out, S3⟩
        case measure => simp [intOf]; omega
    · obtain rfl : k = F.length := by omega
      rw [List.take_length] at HNO
      go_wp2_with fail
      exact hK.out _ _ ⟨.inl ⟨rfl, HNO.out⟩, S2⟩
end
theorem idx_none (A : Option Addr) (c : Nat) (w : World) : Calls Try.prog 45 #[.slice A 0 c, .func (.func 31) #[] #[]] w fun e w' => e = .returned (.int .i64 (-1)) ∧ w = w' := by
  refine calls_any fun K hK => ?_
  go_enter Try.func45, Try.ntmps45
  go_wp2_with fail
  go_loop [8] (fun i => i = .int .i64 0) (fun _ => 0)
  case atStart => exact rfl
  case round =>
    subst hrel
    go_wp2_with fail
    exact hK.out _ _ ⟨rfl, rfl⟩
/-- How far DeleteFunc is: the first i are what stays of the first j; from j on nothing has turned. -/
structure DelAt (F C : List Fr4) (i j : Nat) : Prop where
  len : C.length = F.length
  lt : i < j
  le : j ≤ F.length
  kept : C.take i = (F.take j).filter keep
  rest : C.drop j = F.drop j
theorem DelAt.at_ {F C : List Fr4} {i j : Nat} (h : DelAt F C i j) (hj : j < F.length) : C[j]? = F[j]? := by
  have := congrArg (fun l => l[0]?) h.rest
  simpa using this
theorem DelAt.skip {F C : List Fr4} {i j : Nat} (h : DelAt F C i j) {f : Fr4} (hf : F[j]? = some f) (hb : fill f = true) : DelAt F C i (j + 1) := by
  have hj := (List.getElem?_eq_some_iff.1 hf).1
  refine ⟨h.len, by have := h.lt; omega, hj, ?_, ?_⟩
  · rw [take_snoc hf, List.filter_append, h.kept]; simp [keep, hb]
  · rw [← List.drop_drop, h.rest, List.drop_drop]
theorem DelAt.move {F C : List Fr4} {i j : Nat} (h : DelAt F C i j) {f : Fr4} (hf : F[j]? = some f) (hb : fill f = false) : DelAt F (C.set i f) (i + 1) (j + 1) := by
  have hj := (List.getElem?_eq_some_iff.1 hf).1
  have hij := h.lt
  have hl := h.len
  refine ⟨by rw [List.length_set]; exact h.len, by omega, hj, ?_, ?_⟩
  · have e : (C.set i f)[i]? = some f := by rw [List.getElem?_set_self (by omega)]
    rw [take_snoc e, take_snoc hf, List.filter_append, ← h.kept, List.take_set_of_le (by omega)]
    simp [keep, hb]
  · rw [List.drop_set_of_lt (by omega), ← List.drop_drop, h.rest, List.drop_drop]
theorem DelAt.start {F : List Fr4} {i : Nat} (hi : i < F.length) (hno : ∀ f ∈ F.take i, fill f = false) {f : Fr4} (hf : F[i]? = some f) (hb : fill f = true) : DelAt F F i (i + 1) := by
  refine ⟨rfl, by omega, hi, ?_, rfl⟩
  rw [take_snoc hf, List.filter_append, filter_none hno]; simp [keep, hb]
section
variable {G : Gnd} {w : World} {l : List Asrt} {F : List Fr4}
set_option maxHeartbeats 4000000 in
set_option maxRecDepth 100000 in
theorem del_frames {v : Value} (H : Sat G w (ownS 40 4 v F.length (encs fc F) :: l)) (hs : SlF F) (hl : F.length ≤ 1000000000) :
    Calls Try.prog 30 #[v, .func (.func 31) #[] #[]] w fun e w' => ∃ v', e = .returned v' ∧ Sat G w' (ownS 40 4 v' (F.filter keep).length (encs fc (F.filter keep)) :: l) := by
  refine calls_any fun K hK => ?_
  by_cases h0 : F.length = 0
  · have e0 : F = [] := List.eq_nil_of_length_eq_zero h0
    subst e0
    obtain ⟨A, c, rfl, -, hc, -⟩ := H.ownSlice
    have hc3 : c ≤ 9223372036854775807 := hc
    have hi := idx_none A c w
    have HH := Lib.hid H
    clear H hc
    go_enter Try.func30, Try.ntmps30
    go_wp2_with fail
    (with_reducible refine hi.mono ?_)
    clear hi
    rintro e w2 ⟨rfl, rfl⟩
    go_wp2_with fail
    exact hK.out _ _ ⟨_, rfl, HH.out⟩
  obtain ⟨g, cap, cur, rfl, hc, L, S⟩ := H.layOpen fc_len (by omega)
  have hi := idx_frames S L hc hs
  have hc3 : cap ≤ 9223372036854775807 := hc
  have hlc := L.len
  have HSF := Lib.hid hs
  have HCL := Lib.hid hc
  have HL := Lib.hid L
  clear L hs hc H
  go_enter Try.func30, Try.ntmps30
  go_wp2_with fail
  (with_reducible refine hi.mono ?_)
  clear hi
  rintro e w2 ⟨hres, S2⟩
  rcases hres with ⟨rfl, hno⟩ | ⟨i, hlt, rfl, hno, f, hf, hb⟩
  · have HNO := Lib.hid hno
    clear hno S
    go_wp2_with fail
    exact hK.out _ _ ⟨_, rfl, by rw [filter_none HNO.out]; exact S2.layClose HL.out HCL.out _ rfl⟩
  · have HD := Lib.hid (DelAt.start hlt hno hf hb)
    clear hno hf hb S
    have hne : ((i : Int) == -1) = false := beq_eq_false_iff_ne.2 (by omega)
    go_wp2_with fail
    go_loopw [5, 6] (fun a b wr => ∃ (i j : Nat) (C : List Fr4) (cur : Array Value), DelAt F C i j ∧ Lay fc 4 cap cur C ∧ a = .int .i64 i ∧ b = .int .i64 j ∧ Sat G wr (blk g cur 40 :: l)) (fun _ b _ => F.length - (intOf b).toNat)
    case atStart => exact ⟨i, i + 1, F, cur, HD.out, HL.out, rfl, by go_num, S2⟩
    case round =>
      obtain ⟨i, j, C, cur, hD, hL, rfl, rfl, S3⟩ := hrel
      clear S2 HD HL
      have hij := hD.lt
      have hjl := hD.le
      have HD := Lib.hid hD
      have HL := Lib.hid hL
      clear hD hL
      by_cases hlt2 : j < F.length
      · have hfj := List.getElem?_eq_getElem hlt2
        obtain ⟨A, n, c, hsl⟩ := HSF.out j _ hfj
        have hcj := (HD.out.at_ hlt2).trans hfj
        have d0 := (S3.cell _).trans (HL.out.get hcj (j := 0) (by decide))
        have d1 := (S3.cell _).trans (HL.out.get hcj (j := 1) (by decide))
        have d2 := (S3.cell _).trans (HL.out.get hcj (j := 2) (by decide))
        have d3 := (S3.cell _).trans (HL.out.get hcj (j := 3) (by decide))
        have HFJ := Lib.hid hfj
        clear hfj hcj
        simp only [fc, List.getElem?_cons_zero, List.getElem?_cons_succ, Nat.add_zero] at d0 d1 d2 d3
        have hcl := is_fill F[j].1 F[j].2.1 F[j].2.2.1 A n c
        generalize hfx : F[j] = fx at *
        clear hfx
        have HPL := Lib.hid (show fc fx = [.int .i64 fx.1, .int .i64 fx.2.1, .int .i64 fx.2.2.1, .slice A n c] by rw [← hsl]; rfl)
        rw [hsl] at d3
        clear hsl
        have S4 := S3.newBlk #[.int .i64 fx.1, .int .i64 fx.2.1, .int .i64 fx.2.2.1, .slice A n c] 40
        cases hb : (fx.1 == 250) with
        | true =>
          rw [hb] at hcl
          have HFB : Hid (fill fx = true) := Lib.hid hb
          clear hb HPL S3
          generalize fx.1 = t at *
          generalize fx.2.1 = fl at *
          generalize fx.2.2.1 = s at *
          go_wp2_with fail
          (with_reducible refine (hcl _).mono ?_)
          rintro e w3 ⟨rfl, hb3⟩
          have S5 := S4.below hb3
          clear S4 hb3 d0 d1 d2 d3
          go_wp2_with fail
          go_roundw
          case rel => exact ⟨i, j + 1, C, cur, HD.out.skip HFJ.out HFB.out, HL.out, rfl, by go_num, S5.drop⟩
          case measure => simp [intOf]; omega
        | false =>
          rw [hb] at hcl
          have HFB : Hid (fill fx = false) := Lib.hid hb
          clear hb S3
          have hCl : C.length = F.length := HD.out.len
          have hroom := HL.out.room (i := i) (by omega)
          have hi2 : i < C.length := by omega
          have HL2 := Lib.hid (HL.out.set hi2 fx)
          rw [HPL.out] at HL2
          clear HPL
          generalize fx.1 = t at *
          generalize fx.2.1 = fl at *
          generalize fx.2.2.1 = s at *
          go_wp2_with fail
          (with_reducible refine (hcl _).mono ?_)
          rintro e w3 ⟨rfl, hb3⟩
          have S5 := S4.below hb3
          clear S4 hb3 d0 d1 d2 d3
          generalize wr.heap.size = z at *
          have d0 := S5.cell 0
          have d1 := S5.cell 1
          have d2 := S5.cell 2
          have d3 := S5.cell 3
          have hsz := HL.out.all
          have hst : i * 4 + 4 ≤ cur.size := hroom
          go_wp2_with (refine st_mid rfl _ _ _ rfl g (i * 4) _ #[.int .i64 t, .int .i64 fl, .int .i64 s, .slice A n c] rfl rfl rfl _ _ S5.swap (by kernel_rfl) hst (by simp [Value.oneCell']) fun W6 S6 => ?_)
          go_roundw
          case rel => exact ⟨i + 1, j + 1, C.set i fx, _, HD.out.move HFJ.out HFB.out, HL2.out, by go_num, by go_num, S6.drop2⟩
          case measure => simp [intOf]; omega
      · obtain rfl : j = F.length := by omega
        have hCl : C.length = F.length := HD.out.len
        have hk : C.take i = F.filter keep := by have := HD.out.kept; rwa [List.take_length] at this
        have hcut := HL.out.cut i (by omega)
        rw [hk] at hcut
        have hil : (F.filter keep).length = i := by rw [← hk, List.length_take]; omega
        have hsz := HL.out.all
        have hroom : i * 4 + (F.length - i) * 4 ≤ cur.size := by omega
        have HCUT := Lib.hid hcut
        have HIL := Lib.hid hil
        clear hcut hil hk
        go_wp2_with (refine st_clear rfl _ 33 rfl 40 (.agg #[.int .i64 0, .int .i64 0, .int .i64 0, .slice none 0 0]) Try.underlying33 (by kernel_rfl) (by simp [Value.cells, Value.oneCell']) g (i * 4) (F.length - i) (cap - i) rfl S3 hroom fun W6 S6 => ?_)
        rw [if_neg (by omega)] at S6
        refine hK.out _ _ ⟨_, rfl, S6.layClose (HCUT.out.keep (by rw [HIL.out]; exact Nat.le_refl _) (by rw [Array.length_toList, zeroCells_length]; exact hroom)) HCL.out _ HIL.out.symm⟩
end
end Go.Proofs.Ythenpoammpkjeaa
