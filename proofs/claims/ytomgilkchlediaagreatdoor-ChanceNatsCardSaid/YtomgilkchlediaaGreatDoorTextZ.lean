/-
  The walk of Text: the text of a natural.
-/
import Derived.Test.YtomgilkchlediaaGreatDoorShelf
import Derived.Test.YtomgilkchlediaaGreatDoorTxtL
import Derived.Test.YtomgilkchlediaaGreatDoorNatE
import Derived.Lib.SmallJoins
import Derived.Lib.Hide
namespace Go.Proofs.YtomgilkchlediaaGreatDoor
open Go.RowKit

theorem gPow10 : Tryz.prog.globalNamed "internal/strconv.uint64pow10" = some 2 := by kernel_rfl
/-- The table that Itoa reads. -/
def Pow10 (w : World) : Prop := Lib.TabIs Tryz.prog w "internal/strconv.uint64pow10" .u64 Lib.pow10Tab
theorem Pow10.grow {w w' : World} (h : Pow10 w) (g : Grow w w') : Pow10 w' := Go.Joins.var_stays gPow10 h g (Nat.le_refl _)
theorem grow_grown (w : World) (k : Nat) (os : Array Obj) : Grow w (Go.Sort.grow (w.drewN k) os) :=
  ⟨rfl, rfl, rfl, by simp [Go.Sort.grow], fun i hi => by
    show (w.heap ++ os)[i]? = _
    rw [Array.getElem?_append_left hi]⟩
theorem grow_bytes (w : World) (s : ByteArray) (t : TypeId) : Grow w (Lib.bytesWorld w t s) :=
  ⟨rfl, rfl, rfl, by rw [Lib.bytesWorld_size]; omega, fun i hi => Lib.bytesWorld_at_old w t s i hi⟩
/-- A string of these bytes. -/
def strB (l : List UInt8) : ByteArray := ⟨l.toArray⟩
theorem strB_size (l : List UInt8) : (strB l).size = l.length := by simp [strB, ByteArray.size]
theorem strB_list (l : List UInt8) : (strB l).data.toList = l := by simp [strB]
theorem strB_append (a b : List UInt8) : strB a ++ strB b = strB (a ++ b) := by
  apply ByteArray.ext
  simp [strB]
/-- It gives a text; old memory is as it was. -/
def GivesS (w : World) (l : List UInt8) (e : Ending) (w' : World) : Prop := e = .returned (.string (strB l)) ∧ Grow w w'
theorem Itoa_any (n : Int) (w : World) (h0 : 0 ≤ n) (h1 : n < 1000000000) (hp : Pow10 w) : Calls Tryz.prog 31 #[.int .i64 n] w (GivesS w (Lib.itoa n)) :=
  (Tryz.strconv_Itoa n (by omega) (by omega) w hp).mono fun e w' ⟨he, k, os, hw⟩ => ⟨he, by rw [hw]; exact grow_grown w k os⟩
theorem Repeat_any (k : Nat) (z : Int) (w : World) (hz : z = (k : Int)) (hk : k ≤ 9) : Calls Tryz.prog 32 #[.string (strB [48]), .int .i64 z] w (GivesS w (Lib.repeatL [48] k)) := by
  subst hz
  exact (Tryz.strings_Repeat (strB [48]) k w (by omega) (by rw [strB_size]; simp; omega)).mono fun e w' ⟨he, hg⟩ => ⟨he, hg⟩
/-- A builder of the call's own. -/
def Bld (w0 : World) (b : Nat) (l : List UInt8) (w : World) : Prop := Lib.IsBuilder 61 5 w0.heap.size b (Lib.strCells (strB l)) w
theorem strCells_append (a b : List UInt8) : Lib.strCells (strB a) ++ Lib.strCells (strB b) = Lib.strCells (strB (a ++ b)) := by
  simp [Lib.strCells, strB]
theorem Bld.fresh {w0 w : World} (h : w0.heap.size ≤ w.heap.size) : Bld w0 w.heap.size [] (w.alloc (.cells #[.pointer none, .slice none 0 0] 61)) :=
  .inl ⟨h, .slice none 0 0, heap_alloc_new w _, World.ownsRow_nil _ _ _ _, by intro e; cases e⟩
theorem Bld.grow {w0 w w' : World} {b : Nat} {l : List UInt8} (h : Bld w0 b l w) (g : Grow w w') : Bld w0 b l w' := by
  have key : ∀ p, Lib.BuilderAt 61 5 w0.heap.size b p (Lib.strCells (strB l)) w → Lib.BuilderAt 61 5 w0.heap.size b p (Lib.strCells (strB l)) w' := fun p ⟨h0, v, hb, ho, hn⟩ => by
    refine ⟨h0, v, g.blk_some hb, ?_, hn⟩
    obtain ⟨h1, h2⟩ := ho
    refine ⟨h1, ?_⟩
    rcases h2 with hz | ⟨g', cap, cur, e, hb', hh, r⟩
    · exact .inl hz
    · exact .inr ⟨g', cap, cur, e, hb', g.blk_some hh, r⟩
  rcases h with h | h
  · exact .inl (key _ h)
  · exact .inr (key _ h)
/-- What writing to it gives. -/
def Wrote (w0 : World) (b : Nat) (l : List UInt8) (n : Int) (_w : World) (e : Ending) (w' : World) : Prop := e = .returned (.tuple #[.int .i64 n, .nilIface]) ∧ Bld w0 b l w' ∧ Grow w0 w'
theorem Write_any {w0 w : World} {b : Nat} {l : List UInt8} (m : List UInt8) (h : Bld w0 b l w) (hg : Grow w0 w) (hl : l.length + m.length ≤ 1000000) : Calls Tryz.prog 33 #[.pointer (some ⟨b, 0, none⟩), .string (strB m)] w (Wrote w0 b (l ++ m) (m.length : Int) w) :=
  (Tryz.Builder_WriteString w0.heap.size b _ (strB m) w h (by rw [Lib.strCells_length, strB_size, strB_size]; omega) hg.size).mono fun e w' ⟨he, hb, hw⟩ =>
    ⟨by rw [he, strB_size], by unfold Bld; rw [← strCells_append]; exact .inr hb, Below.trans hg hw⟩
def Wrote1 (w0 : World) (b : Nat) (l : List UInt8) (e : Ending) (w' : World) : Prop := e = .returned .nilIface ∧ Bld w0 b l w' ∧ Grow w0 w'
theorem WriteZero_any {w0 w : World} {b : Nat} {l : List UInt8} (h : Bld w0 b l w) (hg : Grow w0 w) (hl : l.length ≤ 1000000) : Calls Tryz.prog 34 #[.pointer (some ⟨b, 0, none⟩), .int .u8 48] w (Wrote1 w0 b (l ++ [48])) :=
  (Tryz.Builder_WriteByte w0.heap.size b _ 48 w h (by rw [Lib.strCells_length, strB_size]; omega) hg.size).mono fun e w' ⟨he, hb, hw⟩ =>
    ⟨he, by unfold Bld; rw [← strCells_append]; exact .inr hb, Below.trans hg hw⟩
theorem String_any {w0 w : World} {b : Nat} {l : List UInt8} (h : Bld w0 b l w) (hg : Grow w0 w) : Calls Tryz.prog 35 #[.pointer (some ⟨b, 0, none⟩)] w (GivesS w0 l) :=
  (Tryz.Builder_String_any w0.heap.size b l w (by
    have h' := h
    unfold Bld at h'
    rwa [show Lib.strCells (strB l) = Lib.byteCells l by simp [Lib.strCells, Lib.byteCells, strB]] at h') hg.size).mono fun e w' ⟨he, hw⟩ => ⟨he, Below.trans hg hw⟩
theorem add_strB (a b : List UInt8) (h : a.length + b.length ≤ 1000000) : ∀ W : World, (Op.stringOp .add (strB a) (strB b)).run Tryz.prog W = .ok (.string (strB (a ++ b))) W := fun W => by
  have h := run_string_add_sum (P := Tryz.prog) W (strB a) (strB b) (by rw [strB_size, strB_size]; omega)
  rw [h, strB_append]
theorem check_one (g : Nat) (v1 : Value) (xs : List Int) (w : World) (c0 : w.cell? ⟨g, 0, none⟩ = some v1) (h1 : IsInts w v1 xs) :
    Calls Tryz.prog 30 #[.slice (some ⟨g, 0, none⟩) 1 1] w (Same w (.int .i64 (natErr xs))) := by
  have k1 := checkNat_any v1 xs w h1
  by_cases e1 : natErr xs = 0
  · rw [e1] at k1 ⊢
    have K1 := hid k1
    clear k1 e1
    go_enter Tryz.func30, Tryz.ntmps30
    go_wp2
    go_loop [8] (fun i => i = .int .i64 0 ∨ i = .int .i64 1) (fun i => 1 - (intOf i).toNat)
    case atStart => exact .inl rfl
    case round =>
      rcases hrel with rfl | rfl
      · go_wp2_with (go_at_call 13; refine K1.out.mono ?_; rintro e w' ⟨rfl, rfl⟩)
        exact ⟨.inr rfl, by simp [intOf]⟩
      · go_wp2
        go_ret
        exact ⟨rfl, rfl⟩
  · generalize natErr xs = n1 at *
    have K1 := hid k1
    have hne : (n1 != 0) = true := by simp [e1]
    clear k1
    go_enter Tryz.func30, Tryz.ntmps30
    go_wp2
    go_loop [8] (fun i => i = .int .i64 0) (fun i => 1 - (intOf i).toNat)
    case atStart => rfl
    case round =>
      subst hrel
      go_wp2_with (go_at_call 13; refine K1.out.mono ?_; rintro e w' ⟨rfl, rfl⟩)
      go_ret
      exact ⟨rfl, rfl⟩
/-- What Text hands back. -/
def TextRes (w : World) (zs : List Int) (e : Ending) (w' : World) : Prop := e = .returned (.tuple #[.string (strB (if natErr zs = 0 then textL zs else [])), .int .i64 (natErr zs)]) ∧ Grow w w'
theorem txt_drop {zs : List Int} {k : Nat} (h : k < zs.length) : txtL (zs.drop k) = txtL (zs.drop (k + 1)) ++ if k + 1 < zs.length then padL zs[k] else Lib.itoa zs[k] := by
  rw [List.drop_eq_getElem_cons h]
  by_cases h1 : k + 1 < zs.length
  · rw [if_pos h1, List.drop_eq_getElem_cons h1, txtL]
  · rw [if_neg h1, List.drop_eq_nil_of_le (by omega)]
    rfl
theorem txt_len {zs : List Int} (hd : Dig zs) : (txtL zs).length ≤ 9 * zs.length := by
  have key : ∀ d, 0 ≤ d ∧ d < 1000000000 → (Lib.itoa d).length ≤ 9 ∧ (padL d).length = 9 := fun d hd => by
    obtain ⟨u, rfl⟩ := Int.eq_ofNat_of_zero_le hd.1
    have h1 := (pad_all (u := u) (by omega)).2.2
    obtain ⟨_, _, h3⟩ := dec_all u
    have h9 := nDigits_le (u := u) (by omega)
    rw [itoa_nat]
    exact ⟨by omega, h1⟩
  match zs, hd with
  | [], _ => simp [txtL]
  | [d], hd =>
    have := (key d (hd d (by simp))).1
    simpa [txtL] using this
  | d :: e :: l, hd =>
    have h1 := (key d (hd d (by simp))).2
    have h2 := txt_len (zs := e :: l) hd.cons.2
    rw [txtL, List.length_append, h1, List.length_cons (a := d)]
    omega
termination_by zs.length
set_option maxRecDepth 100000 in
set_option maxHeartbeats 4000000 in
theorem Text_any (v : Value) (zs : List Int) (w : World) (h : IsInts w v zs) (hp : Pow10 w) : Calls Tryz.prog 8 #[v] w (TextRes w zs) := by
  obtain ⟨A, c, rfl, h1, h2, h3⟩ := id h
  unfold maxLen at h2
  have hg1 : Grow w (w.alloc (.cells #[.slice A zs.length c] 24)) := (Grow.refl _).alloc _
  have HC := hid (check_one w.heap.size _ zs (w.alloc (.cells #[.slice A zs.length c] 24)) (by simp) (h.grow hg1))
  by_cases e0 : natErr zs = 0
  · have HF := hid (fun wf (hg : Grow w wf) => (show TextRes w zs (.returned (.tuple #[.string (strB (textL zs)), .int .i64 0])) wf from ⟨by rw [if_pos e0, e0], hg⟩))
    have hok := natErr_ok e0
    have HD := hid hok.1.1
    rw [e0] at HC
    have HR := hid h3
    have HP := hid hp
    have HI := hid h
    have hl40 := hok.2
    clear e0 hok h h3 hp hg1
    go_enter Tryz.func8, Tryz.ntmps8
    go_wp2_with (go_at_call 30; refine HC.out.mono ?_; rintro e w' ⟨rfl, rfl⟩)
    have B0 := hid (show Bld w (w.heap.size + 1) (txtL (zs.drop zs.length)) ((w.alloc (.cells #[.slice A zs.length c] 24)).alloc (.cells #[.pointer none, .slice none 0 0] 61)) by
      rw [List.drop_length, show txtL [] = [] from rfl]
      have := Bld.fresh (w0 := w) (w := w.alloc (.cells #[.slice A zs.length c] 24)) (by simp)
      simpa using this)
    have G0 := hid (show Grow w ((w.alloc (.cells #[.slice A zs.length c] 24)).alloc (.cells #[.pointer none, .slice none 0 0] 61)) from ((Grow.refl _).alloc _).alloc _)
    go_loopw [6] (fun i wr => ∃ (k : Nat) (z : Int), k ≤ zs.length ∧ i = .int .i64 z ∧ z = (k : Int) - 1 ∧ Bld w (w.heap.size + 1) (txtL (zs.drop k)) wr ∧ Grow w wr) (fun i _ => (intOf i + 1).toNat)
    case atStart => exact ⟨zs.length, _, Nat.le_refl _, rfl, rfl, B0.out, G0.out⟩
    case round =>
      obtain ⟨k, z, hk, rfl, hz, hb, hg⟩ := hrel
      have HB := hid hb
      have HG := hid hg
      have HLT := hid (txt_len (zs := zs.drop k) (fun d hd => HD.out d (List.mem_of_mem_drop hd)))
      clear hb hg
      by_cases hk0 : 0 < k
      · obtain ⟨m, rfl⟩ : ∃ m, k = m + 1 := ⟨k - 1, by omega⟩
        obtain rfl : z = (m : Int) := by omega
        have hm : m < zs.length := by omega
        obtain ⟨ad, rfl, _, y⟩ := HR.out.int hm
        have y := HG.out.cell_some y
        have m0 : (0 : Int) ≤ (m : Int) := by omega
        have m1 : (m : Int) < (zs.length : Int) := by omega
        have hn := HD.out.at_ hm
        have TD := hid (txt_drop hm)
        have IT := hid (fun W (hg : Grow w W) => Itoa_any zs[m] W hn.1 hn.2 (HP.out.grow hg))
        have PD := hid (show padL zs[m] = Lib.repeatL [48] (9 - (Lib.itoa zs[m]).length) ++ Lib.itoa zs[m] from rfl)
        have hi9 : (Lib.itoa zs[m]).length ≤ 9 := by
          have := txt_len (zs := [zs[m]]) (fun d hd => by rw [List.mem_singleton] at hd; subst hd; exact hn)
          simpa [txtL] using this
        have hp9 : (padL zs[m]).length = 9 := by
          obtain ⟨u, hu⟩ := Int.eq_ofNat_of_zero_le hn.1
          rw [hu]
          exact (pad_all (u := u) (by omega)).2.2
        generalize padL zs[m] = pd at *
        generalize Lib.itoa zs[m] = l1 at *
        generalize zs[m] = n at *
        have HLT2 := HLT.out
        rw [List.length_drop] at HLT2
        generalize txtL (zs.drop (m + 1)) = cur at *
        obtain ⟨la, hla⟩ : ∃ la, (strB l1).size = la := ⟨_, rfl⟩
        have HLA := hid (hla.symm.trans (strB_size l1))
        clear hz hn
        by_cases hlast : m + 1 < zs.length
        · have t1 : (m : Int) < (zs.length : Int) - 1 := by omega
          have TD2 := hid (show txtL (zs.drop m) = cur ++ pd by rw [TD.out, if_pos hlast])
          have la9 : la ≤ 9 := by have := HLA.out; omega
          have RP := hid (fun W => Repeat_any (9 - la) (9 - (la : Int)) W (by omega) (by omega))
          have AS := add_strB (Lib.repeatL [48] (9 - la)) l1 (by rw [(zeros_all (9 - la)).2.2]; omega)
          have PD2 := hid (show Lib.repeatL [48] (9 - la) ++ l1 = pd by rw [PD.out, HLA.out])
          rw [PD2.out] at AS
          have WR := hid (fun W (hb : Bld w (w.heap.size + 1) cur W) (hg : Grow w W) => Write_any pd hb hg (by omega))
          clear TD PD hi9 hp9 HLT2
          generalize Lib.repeatL [48] (9 - la) = r1 at *
          go_wp2_with (first
            | (go_at_call 31; refine (IT.out _ HG.out).mono ?_; rintro e wA ⟨rfl, gA⟩)
            | (go_at_call 32; refine (RP.out _).mono ?_; rintro e wB ⟨rfl, gB⟩)
            | (go_at_call 33; refine (WR.out _ ((HB.out.grow gA).grow gB) ((HG.out.trans gA).trans gB)).mono ?_; rintro e wC ⟨rfl, bC, gC⟩))
          exact ⟨⟨m, (m : Int) - 1, by omega, rfl, rfl, by rw [TD2.out]; exact bC, gC⟩, by simp only [intOf]; omega⟩
        · have t1 : ¬ (m : Int) < (zs.length : Int) - 1 := by omega
          have TD2 := hid (show txtL (zs.drop m) = cur ++ l1 by rw [TD.out, if_neg hlast])
          have WR := hid (fun W (hb : Bld w (w.heap.size + 1) cur W) (hg : Grow w W) => Write_any l1 hb hg (by omega))
          clear TD PD hi9 hp9 HLT2
          go_wp2_with (first
            | (go_at_call 31; refine (IT.out _ HG.out).mono ?_; rintro e wA ⟨rfl, gA⟩)
            | (go_at_call 33; refine (WR.out _ (HB.out.grow gA) (HG.out.trans gA)).mono ?_; rintro e wC ⟨rfl, bC, gC⟩))
          exact ⟨⟨m, (m : Int) - 1, by omega, rfl, rfl, by rw [TD2.out]; exact bC, gC⟩, by simp only [intOf]; omega⟩
      · obtain rfl : k = 0 := by omega
        obtain rfl : z = -1 := by omega
        have hb := HB.out
        rw [List.drop_zero] at hb
        have HLT2 := HLT.out
        rw [List.drop_zero] at HLT2
        by_cases hz0 : zs.length = 0
        · have hzs : zs = [] := List.eq_nil_of_length_eq_zero hz0
          have HF2 := HF.out
          rw [show textL zs = [48] from by rw [hzs]; rfl] at HF2
          have HF2 := hid HF2
          rw [hzs, show txtL [] = [] from rfl] at hb
          have WZ := hid (WriteZero_any hb HG.out (by simp))
          have e0 : ((zs.length : Int) == 0) = true := by simp [hz0]
          clear hb hz hzs HLT2
          go_wp2_with (first
            | (go_at_call 34; refine WZ.out.mono ?_; rintro e wC ⟨rfl, bC, gC⟩)
            | (go_at_call 35; refine (String_any bC gC).mono ?_; rintro e wD ⟨rfl, gD⟩))
          go_ret2
          exact HF2.out _ gD
        · have hzs : zs ≠ [] := fun e => hz0 (by rw [e]; rfl)
          have HF2 := HF.out
          rw [show textL zs = txtL zs from by unfold textL; rw [if_neg hzs]] at HF2
          have HF2 := hid HF2
          have SR := hid (String_any hb HG.out)
          have e0 : ((zs.length : Int) == 0) = false := by simp; exact fun e => hzs e
          clear hb hz hzs HLT2
          generalize txtL zs = tl at *
          go_wp2_with (go_at_call 35; refine SR.out.mono ?_; rintro e wD ⟨rfl, gD⟩)
          go_ret2
          exact HF2.out _ gD
  · have hne : (natErr zs != 0) = true := by simp [e0]
    have HF := hid (fun wf (hg : Grow w wf) => (show TextRes w zs (.returned (.tuple #[.string (strB []), .int .i64 (natErr zs)])) wf from ⟨by rw [if_neg e0], hg⟩))
    clear e0 h hp h3
    generalize natErr zs = ne at *
    go_enter Tryz.func8, Tryz.ntmps8
    go_wp2_with (go_at_call 30; refine HC.out.mono ?_; rintro e w' ⟨rfl, rfl⟩)
    go_ret2
    exact HF.out _ hg1
end Go.Proofs.YtomgilkchlediaaGreatDoor
