/-
  Parts of the proof: Frame, Frame1, FrmS, FrmH.
-/
import Derived.Test.YthblfhgofopcaaaGreatRows
import Derived.Test.YthblfhgofopcaaaGreatHA01
import Derived.ProofKit
import Derived.OpenShut
import Derived.ShutString
import Derived.ChangeOld
import Derived.Below
import Derived.Lib.SmallJoins
import Derived.Deep.Slices
import Derived.Test.YthblfhgofopcaaaGreatHA19
import Derived.Test.YthblfhgofopcaaaGreatHA24
import Derived.Test.YthblfhgofopcaaaGreatHA10
import Derived.Deep.Fields
import Derived.ChangeSame
set_option linter.all false
namespace Go.Proofs.YthblfhgofopcaaaGreat
open Go.RowKit Go.ChangeShapes Go.WideShapes Go.ChangeAt
theorem ownKnobs : ownKnob Tryz.prog.godebug = none := by kernel_rfl
theorem laidOuts : laidOutB Tryz.prog = true := by kernel_rfl
theorem cellsInt : Tryz.prog.cellsOf 3 = 1 := by kernel_rfl
theorem isInts_of_row {w : World} {x : Addr} {l c : Nat} {zs : List Int} (hl : l ≤ c) (hm : c ≤ maxLen) (hz : zs.length = c) (hcell : ∀ i, i < zs.length → w.cell? (x.add i) = some (.int .i64 (zs.getD i 0))) :
  IsInts w (.slice (some x) l c) (zs.take l) := by
 refine ⟨some x, c, by rw [List.length_take, Nat.min_eq_left (by omega)], by rw [List.length_take]; omega, hm, fun i u hu => ?_⟩
 have hi := (List.getElem?_eq_some_iff.1 hu).1
 simp only [ints, List.length_map, List.length_take] at hi
 have hc := hcell i (by omega)
 refine ⟨x, rfl, ?_, ?_⟩
 ·have := World.block_lt_of_cell? w _ hc
  rwa [block_add] at this
 ·rw [hc, ← hu]
  have h2 : i < zs.length := by omega
  simp [List.getD, h2, show i < l by omega]
section
variable {H : Type} {enc : TypeId × Value → H} {W : World} {spare : Nat → Bool} {held : Bool}
theorem isInts_of_trod {t : TypeId} {fuel : Nat} {v : Value} {x : DataW H × List MemPlace} (ht : Tryz.prog.underlying t = some (.slice 3)) (h : DataW.trod enc Tryz.prog W 0 spare held fuel t [v] = some x) (hs : spare = fun _ => true) :
  ∃ zs, IsInts W v zs ∧ ∀ z ∈ zs, (Lit.int .i64 z).wf = true := by
 subst hs
 rcases open_ints ht Tryz.underlying3 cellsInt h with ⟨hcs, _⟩ | ⟨a, l, c, zs, hcs, _, hl, hm, hz, _, hcell, hwz⟩
 ·simp at hcs
  subst hcs
  exact ⟨[], IsInts.nil, by simp⟩
 ·simp at hcs
  subst hcs
  exact ⟨zs.take l, isInts_of_row hl hm (by simpa using hz) hcell, fun z hz => hwz z (List.mem_of_mem_take hz)⟩
end
end Go.Proofs.YthblfhgofopcaaaGreat

namespace Go.Proofs.YthblfhgofopcaaaGreat
open Go.Joins Go.ChangeShapes Go.WideShapes Go.RowKit Go.Deep
section
variable {H : Type} {enc : TypeId × Value → H} {P : Program} {w : World} {base : Nat} {spare : Nat → Bool} {held : Bool}
theorem open_agg9 {r : Reach} {b0 : Nat} {t : TypeId} {f0 f1 f2 f3 f4 f5 f6 f7 f8 : Field} {v : Value} {d : DataW H} {p : List MemPlace} (hs : P.underlying t = some (.struct #[f0, f1, f2, f3, f4, f5, f6, f7, f8])) (hone : oneCellFields P #[f0, f1, f2, f3, f4, f5, f6, f7, f8] = true) (hC : P.cellsOf t = 9)
  (hv : Value.okWide P w r b0 t v) (h : DataW.Trod enc P w base spare held t v d p) :
  ∃ (v0 v1 v2 v3 v4 v5 v6 v7 v8 : Value) (y0 y1 y2 y3 y4 y5 y6 y7 y8 : DataW H × List MemPlace) (n : Nat), v = .agg #[v0, v1, v2, v3, v4, v5, v6, v7, v8] ∧
   DataW.trod enc P w base spare held n f0.type [v0] = some y0 ∧ DataW.trod enc P w base spare held n f1.type [v1] = some y1 ∧ DataW.trod enc P w base spare held n f2.type [v2] = some y2 ∧ DataW.trod enc P w base spare held n f3.type [v3] = some y3 ∧ DataW.trod enc P w base spare held n f4.type [v4] = some y4 ∧ DataW.trod enc P w base spare held n f5.type [v5] = some y5 ∧ DataW.trod enc P w base spare held n f6.type [v6] = some y6 ∧ DataW.trod enc P w base spare held n f7.type [v7] = some y7 ∧ DataW.trod enc P w base spare held n f8.type [v8] = some y8 := by
 obtain ⟨cs, rfl, hsz⟩ := okWide_struct hs hv
 obtain ⟨l⟩ := cs
 match l, hsz.trans hC with
 | [c0, c1, c2, c3, c4, c5, c6, c7, c8], _ =>
  obtain ⟨fuel, hf⟩ := h
  obtain ⟨xs, n, _, hx, _, hlen, hg⟩ := DataW.trod_struct hs hf
  obtain ⟨o0, k0⟩ := hone_of hone 0 f0 rfl
  obtain ⟨o1, k1⟩ := hone_of hone 1 f1 rfl
  obtain ⟨o2, k2⟩ := hone_of hone 2 f2 rfl
  obtain ⟨o3, k3⟩ := hone_of hone 3 f3 rfl
  obtain ⟨o4, k4⟩ := hone_of hone 4 f4 rfl
  obtain ⟨o5, k5⟩ := hone_of hone 5 f5 rfl
  obtain ⟨o6, k6⟩ := hone_of hone 6 f6 rfl
  obtain ⟨o7, k7⟩ := hone_of hone 7 f7 rfl
  obtain ⟨o8, k8⟩ := hone_of hone 8 f8 rfl
  match xs, hlen with
  | [y0, y1, y2, y3, y4, y5, y6, y7, y8], _ =>
   exact ⟨c0, c1, c2, c3, c4, c5, c6, c7, c8, y0, y1, y2, y3, y4, y5, y6, y7, y8, n, rfl, by simpa [Value.cells, o0, k0] using hg 0 f0 rfl, by simpa [Value.cells, o1, k1] using hg 1 f1 rfl, by simpa [Value.cells, o2, k2] using hg 2 f2 rfl, by simpa [Value.cells, o3, k3] using hg 3 f3 rfl, by simpa [Value.cells, o4, k4] using hg 4 f4 rfl, by simpa [Value.cells, o5, k5] using hg 5 f5 rfl, by simpa [Value.cells, o6, k6] using hg 6 f6 rfl, by simpa [Value.cells, o7, k7] using hg 7 f7 rfl, by simpa [Value.cells, o8, k8] using hg 8 f8 rfl⟩
end
def SetIn (s : TSet) : Prop := (∀ z ∈ s.su, (Lit.int .i64 z).wf = true) ∧ (∀ z ∈ s.re, (Lit.int .i64 z).wf = true)
section
variable {H : Type} {enc : TypeId × Value → H} {W : World} {spare : Nat → Bool} {held : Bool}
set_option maxRecDepth 100000 in
theorem isSet_of_trod {r : Reach} {b0 : Nat} {v : Value} {d : DataW H} {p : List MemPlace} (hv : Value.okWide Tryz.prog W r b0 24 v) (h : DataW.Trod enc Tryz.prog W 0 spare held 24 v d p) (hs : spare = fun _ => true) :
  ∃ s : TSet, IsSet W v s ∧ SetIn s := by
 obtain ⟨v0, v1, v2, v3, v4, v5, v6, v7, v8, y0, y1, y2, y3, y4, y5, y6, y7, y8, n, rfl, h0, h1, h2, h3, h4, h5, h6, h7, h8⟩ := open_agg9 Tryz.underlying24 (by kernel_rfl) (by kernel_rfl) hv h
 obtain ⟨zs, i1, w1⟩ := isInts_of_trod Tryz.underlying22 h1 hs
 obtain ⟨ks, i8, w8⟩ := isInts_of_trod Tryz.underlying22 h8 hs
 obtain ⟨z0, e0, _, _⟩ := DataW.trod_int Tryz.underlying3 h0
 obtain rfl : v0 = .int .i64 z0 := by simpa using e0
 obtain ⟨z2, e2, _, _⟩ := DataW.trod_int Tryz.underlying3 h2
 obtain rfl : v2 = .int .i64 z2 := by simpa using e2
 obtain ⟨z3, e3, _, _⟩ := DataW.trod_int Tryz.underlying3 h3
 obtain rfl : v3 = .int .i64 z3 := by simpa using e3
 obtain ⟨z4, e4, _, _⟩ := DataW.trod_int Tryz.underlying3 h4
 obtain rfl : v4 = .int .i64 z4 := by simpa using e4
 obtain ⟨z5, e5, _, _⟩ := DataW.trod_int Tryz.underlying3 h5
 obtain rfl : v5 = .int .i64 z5 := by simpa using e5
 obtain ⟨z6, e6, _, _⟩ := DataW.trod_int Tryz.underlying3 h6
 obtain rfl : v6 = .int .i64 z6 := by simpa using e6
 obtain ⟨z7, e7, _, _⟩ := DataW.trod_int Tryz.underlying3 h7
 obtain rfl : v7 = .int .i64 z7 := by simpa using e7
 exact ⟨⟨z0, zs, z2, z3, z4, z5, z6, z7, ks⟩, ⟨v1, v8, rfl, i1, i8⟩, w1, w8⟩
end
end Go.Proofs.YthblfhgofopcaaaGreat

namespace Go.Proofs.YthblfhgofopcaaaGreat
open Go.Joins Go.ChangeShapes Go.WideShapes Go.RowKit Go.Deep
set_option maxRecDepth 100000
def cx0 (W : World) : Cx := ⟨W, fun _ => 0, fun _ => false, fun _ => False, fun _ => True, W.heap.size⟩
theorem relh0 (W : World) : RelH (cx0 W) (lk [] .nil) := ⟨(fun r g sz es h => by cases h), (fun r g sz es h => by cases h), (fun r r' g g' sz sz' es es' h => by cases h)⟩
theorem stab0 (W : World) {b : Nat} (hb : b < W.heap.size) : Stab (cx0 W) (lk [] .nil) false b := ⟨hb, (by rintro ⟨r, g, sz, es, h, _⟩; cases h), .inr (.inr ⟨rfl, trivial⟩)⟩
theorem spot_none {W : World} {a : Addr} {u : Value} (h : W.cell? a = some u) : a = ⟨a.block, a.off, none⟩ := by
 obtain ⟨b, o, sp⟩ := a
 cases sp with
 | none => rfl
 | some k =>
  unfold World.cell? at h
  split at h <;> simp at h
theorem rel_of_ints {W : World} {v : Value} {zs : List Int} (h : IsInts W v zs) : RelV (cx0 W) (lk [] .nil) (eInts false zs) v := by
 obtain ⟨A, c, rfl, h1, h2, h3⟩ := h
 cases zs with
 | nil => exact .slE false 1 A c h2
 | cons z l =>
  obtain ⟨ad, rfl, hb, hc⟩ := h3 0 (.int .i64 z) rfl
  have e0 : ad.add 0 = ad := rfl
  rw [e0] at hc
  obtain ⟨b, o, rfl⟩ : ∃ b o, ad = ⟨b, o, none⟩ := ⟨_, _, spot_none hc⟩
  have hl : (z :: l).length = ((z :: l).map I).length := by simp
  rw [hl]
  have dest : ∀ (i : Nat) (e : AV), ((z :: l).map I)[i]? = some e → ∃ y, (z :: l)[i]? = some y ∧ e = I y := fun i e he => by
   rw [List.getElem?_map] at he
   cases hz : (z :: l)[i]? with
   | none => rw [hz] at he; cases he
   | some y =>
    rw [hz] at he
    injection he with he
    exact ⟨y, rfl, he.symm⟩
  refine .sl false 1 ((z :: l).map I) b o c (fun i _ => .int .i64 ((z :: l).getD i 0)) (by rw [List.length_map]; exact h1) h2 (stab0 W hb) (fun i e he => ?_) (fun i e j x he hx => ?_) (fun i e j x he hx => ?_)
  ·obtain ⟨y, hz, rfl⟩ := dest i e he
   rfl
  ·obtain ⟨y, hz, rfl⟩ := dest i e he
   obtain ⟨ad', e', hb', hc'⟩ := h3 i (.int .i64 y) (by rw [ints, List.getElem?_map, hz]; rfl)
   injection e' with e'
   subst e'
   have hj : j = 0 := by
    cases j with
    | zero => rfl
    | succ j => simp [AV.cs, I] at hx
   subst hj
   rw [Addr.add_lit] at hc'
   show W.cell? ⟨b, o + i * 1 + 0, none⟩ = _
   rw [List.getD_eq_getElem?_getD, hz]
   simpa using hc'
  ·obtain ⟨y, hz, rfl⟩ := dest i e he
   have hj : j = 0 := by
    cases j with
    | zero => rfl
    | succ j => simp [AV.cs, I] at hx
   subst hj
   simp [AV.cs, I] at hx
   subst hx
   rw [List.getD_eq_getElem?_getD, hz]
   exact .v _
theorem rel_of_set {W : World} {v : Value} {s : TSet} (h : IsSet W v s) : RelV (cx0 W) (lk [] .nil) (eSet s) v := by
 obtain ⟨a, b, rfl, h1, h2⟩ := h
 refine .agg _ _ rfl fun i x y hx hy => ?_
 match i, hx, hy with
 | 0, hx, hy => simp at hx hy; subst hx hy; exact .v _
 | 1, hx, hy => simp at hx hy; subst hx hy; exact rel_of_ints h1
 | 2, hx, hy => simp at hx hy; subst hx hy; exact .v _
 | 3, hx, hy => simp at hx hy; subst hx hy; exact .v _
 | 4, hx, hy => simp at hx hy; subst hx hy; exact .v _
 | 5, hx, hy => simp at hx hy; subst hx hy; exact .v _
 | 6, hx, hy => simp at hx hy; subst hx hy; exact .v _
 | 7, hx, hy => simp at hx hy; subst hx hy; exact .v _
 | 8, hx, hy => simp at hx hy; subst hx hy; exact rel_of_ints h2
 | n + 9, hx, hy => simp at hx
theorem walk_of {f : Nat} {ys : List AV} (h : ASays Tryz.prog f ys (B true)) {W : World} {vals : Array Value} (hr : RelL (cx0 W) (lk [] .nil) ys vals) : Calls Tryz.prog f vals W (Gives W (.bool true)) := by
 refine (h.2 (cx0 W) vals rfl (relh0 W) hr).mono ?_
 rintro e w' ⟨v, x, hl, c', rfl, rfl, ⟨rfl, rfl⟩, k, _, rv⟩
 have := inv_v rv
 subst this
 refine ⟨rfl, ?_⟩
 exact ⟨k.os, k.tape, k.output, k.size, fun b hb => k.blk b hb (by rintro ⟨r, g, sz, es, h, _⟩; cases h)⟩
end Go.Proofs.YthblfhgofopcaaaGreat

namespace Go.Proofs.YthblfhgofopcaaaGreat
open Go.Joins Go.ChangeShapes Go.WideShapes Go.RowKit Go.Deep Go.ChangeAt
section
variable {H : Type} {enc : TypeId × Value → H} {P : Program} {w : World} {base : Nat} {spare : Nat → Bool} {held : Bool}
theorem open_slice_fields {t e : TypeId} {fs : Array Field} {fuel : Nat} {cs : List Value} {x : DataW H × List MemPlace} (ht : P.underlying t = some (.slice e)) (he : P.underlying e = some (.struct fs))
  (hone : oneCellFields P fs = true) (hC : P.cellsOf e = fs.size) (h : DataW.trod enc P w base spare held fuel t cs = some x) :
  (cs = [.slice none 0 0] ∧ x = (.nil, [])) ∨
  ∃ (a : Addr) (len cap m : Nat), cs = [.slice (some a) len cap] ∧ len ≤ cap ∧ cap ≤ maxLen ∧ m = (if spare a.block then cap else len) ∧
   ∀ i, i < m → ∃ (n : Nat), ∀ (j : Nat) (f : Field), fs[j]? = some f → ∃ (v : Value) (y : DataW H × List MemPlace), w.cell? (a.add (i * fs.size + j)) = some v ∧ DataW.trod enc P w base spare held n f.type [v] = some y := by
 rcases open_slice ht h with h0 | ⟨a, len, cap, m, n, D, Pl, hcs, hb, hl, hm, hmm, hx, hi⟩
 ·exact .inl h0
 ·refine .inr ⟨a, len, cap, m, hcs, hl, hm, hmm, fun i him => ?_⟩
  obtain ⟨cs', hc, ht'⟩ := hi i him
  rw [hC] at hc
  obtain ⟨ys, n', hn', hy, hlen, hyl, hf⟩ := DataW.trod_struct he ht'
  obtain ⟨_, hcl, hat⟩ := World.cells?_some hc
  refine ⟨n', fun j f hj => ?_⟩
  obtain ⟨ho, hk⟩ := hone_of hone j f hj
  have hjl : j < fs.size := (Array.getElem?_eq_some_iff.1 hj).1
  have hcell := hat j hjl
  have hv : cs'[j]? = some (cs'[j]'(by omega)) := List.getElem?_eq_getElem (by omega)
  have h1 := hf j f hj
  rw [ho, hk] at h1
  have hone' : (cs'.drop j).take 1 = [cs'[j]'(by omega)] := by
   rw [List.drop_eq_getElem_cons (by omega)]
   rfl
  rw [hone'] at h1
  have hys : ys[j]? = some (ys[j]'(by omega)) := List.getElem?_eq_getElem (by omega)
  refine ⟨_, _, ?_, h1.trans hys⟩
  rw [← Go.Deep.add_add, hcell, hv]
end
theorem add_one {a : Addr} {n j : Nat} {w : World} {u : Value} (h : w.cell? (a.add (n + j)) = some u) : w.cell? ⟨(a.add n).block, (a.add n).off + j, none⟩ = some u := by
 have e := spot_none h
 rw [e] at h
 obtain ⟨b, o, sp⟩ := a
 have e1 : (Addr.add ⟨b, o, sp⟩ (n + j)).block = (Addr.add ⟨b, o, sp⟩ n).block := by simp only [Addr.add]; split <;> split <;> rfl
 have e2 : (Addr.add ⟨b, o, sp⟩ (n + j)).off = (Addr.add ⟨b, o, sp⟩ n).off + j := by simp only [Addr.add]; split <;> split <;> simp <;> omega
 rw [e1, e2] at h
 exact h
section
variable {H : Type} {enc : TypeId × Value → H} {W : World} {spare : Nat → Bool} {held : Bool}
set_option maxRecDepth 100000 in
theorem isGps_of_trod {t : TypeId} {fuel : Nat} {v : Value} {x : DataW H × List MemPlace} (ht : Tryz.prog.underlying t = some (.slice 72)) (h : DataW.trod enc Tryz.prog W 0 spare held fuel t [v] = some x) (hs : spare = fun _ => true) :
  ∃ l, IsGps W v l := by
 subst hs
 rcases open_slice_fields ht Tryz.underlying72 (by kernel_rfl) (by kernel_rfl) h with ⟨hcs, _⟩ | ⟨a, len, cap, m, hcs, hl, hm, hmm, hi⟩
 ·simp at hcs
  subst hcs
  exact ⟨[], IsGps.nil⟩
 ·simp at hcs
  subst hcs
  simp at hmm
  rw [hmm] at hi
  clear hmm
  have hg : ∀ i : Nat, ∃ g : Gp, i < cap → W.cell? (a.add (i * 3)) = some (.int .i64 g.wh) ∧ W.cell? (a.add (i * 3 + 1)) = some (.int .i64 g.kd) ∧ W.cell? (a.add (i * 3 + 2)) = some (.bool g.op) := fun i => by
   by_cases h : i < cap
   ·obtain ⟨n, hn⟩ := hi i h
    obtain ⟨v0, y0, c0, t0⟩ := hn 0 _ rfl
    obtain ⟨v1, y1, c1, t1⟩ := hn 1 _ rfl
    obtain ⟨v2, y2, c2, t2⟩ := hn 2 _ rfl
    obtain ⟨z0, e0, _, _⟩ := DataW.trod_int Tryz.underlying3 t0
    obtain rfl : v0 = .int .i64 z0 := by simpa using e0
    obtain ⟨z1, e1, _, _⟩ := DataW.trod_int Tryz.underlying3 t1
    obtain rfl : v1 = .int .i64 z1 := by simpa using e1
    obtain ⟨b, e2, _⟩ := DataW.trod_bool Tryz.underlying4 t2
    obtain rfl : v2 = .bool b := by simpa using e2
    exact ⟨⟨z0, z1, b⟩, fun _ => ⟨c0, c1, c2⟩⟩
   ·exact ⟨⟨0, 0, false⟩, fun h' => absurd h' h⟩
  obtain ⟨f, hf⟩ := Classical.axiomOfChoice hg
  refine ⟨(List.range len).map f, some a, cap, by simp, by simpa using hl, hm, fun i hil => ?_⟩
  have hil' : i < len := by simpa using hil
  obtain ⟨c0, c1, c2⟩ := hf i (by omega)
  refine ⟨a, rfl, ?_, ?_⟩
  ·have := World.block_lt_of_cell? W _ c0
   rwa [block_add] at this
  ·simp only [List.getElem_map, List.getElem_range]
   exact ⟨c0, add_one c1, add_one c2⟩
set_option maxRecDepth 100000 in
theorem isHd_of_trod {r : Reach} {b0 : Nat} {v : Value} {d : DataW H} {p : List MemPlace} (hv : Value.okWide Tryz.prog W r b0 31 v) (h : DataW.Trod enc Tryz.prog W 0 spare held 31 v d p) (hs : spare = fun _ => true) :
  ∃ x : Hd, IsHd W v x := by
 obtain ⟨b, e, y, u, m, rfl, _, _, hy, hu⟩ := Go.Joins.open_agg2 Tryz.underlying31 (by kernel_rfl) (by kernel_rfl) hv h
 obtain ⟨zs, i1, _⟩ := isInts_of_trod Tryz.underlying22 hy hs
 obtain ⟨l, i2⟩ := isGps_of_trod Tryz.underlying29 hu hs
 exact ⟨⟨zs, l⟩, _, _, rfl, i1, i2⟩
end
theorem intsIn_len {W : World} {v : Value} {zs : List Int} (h : IsInts W v zs) : zs.length ≤ 9223372036854775807 := by
 obtain ⟨_, _, _, h1, h2, _⟩ := h
 unfold maxLen at h2
 omega
def gpC (g : Gp) : Nat → Value
 | 0 => .int .i64 g.wh
 | 1 => .int .i64 g.kd
 | _ => .bool g.op
theorem rel_of_gps {W : World} {v : Value} {l : List Gp} (h : IsGps W v l) : RelV (cx0 W) (lk [] .nil) (eGps false l) v := by
 obtain ⟨A, c, rfl, h1, h2, h3⟩ := h
 cases l with
 | nil => exact .slE false 3 A c h2
 | cons z l =>
  obtain ⟨ad, rfl, hb, hc, _, _⟩ := h3 0 (by simp)
  have e0 : ad.add (0 * 3) = ad := by rw [Nat.zero_mul]; rfl
  rw [e0] at hc
  obtain ⟨b, o, rfl⟩ : ∃ b o, ad = ⟨b, o, none⟩ := ⟨_, _, spot_none hc⟩
  have hl : (z :: l).length = ((z :: l).map eGp).length := by simp
  rw [hl]
  have dest : ∀ (i : Nat) (e : AV), ((z :: l).map eGp)[i]? = some e → ∃ y, ∃ hi : i < (z :: l).length, (z :: l)[i] = y ∧ e = eGp y := fun i e he => by
   obtain ⟨hi, he⟩ := List.getElem?_eq_some_iff.1 he
   rw [List.getElem_map] at he
   exact ⟨_, by simpa using hi, rfl, he.symm⟩
  refine .sl false 3 ((z :: l).map eGp) b o c (fun i j => gpC ((z :: l).getD i z) j) (by rw [List.length_map]; exact h1) h2 (stab0 W hb) (fun i e he => ?_) (fun i e j x he hx => ?_) (fun i e j x he hx => ?_)
  ·obtain ⟨y, _, _, rfl⟩ := dest i e he
   rfl
  ·obtain ⟨y, hi, hy, rfl⟩ := dest i e he
   obtain ⟨ad', e', hb', c0, c1, c2⟩ := h3 i hi
   injection e' with e'
   subst e'
   have hg : (z :: l).getD i z = y := by rw [List.getD_eq_getElem?_getD, List.getElem?_eq_getElem hi, ← hy]; rfl
   rw [hy] at c0 c1 c2
   rw [hg]
   rw [Addr.add_lit] at c0 c1 c2
   match j, hx with
   | 0, _ => exact c0
   | 1, _ => exact c1
   | 2, _ => exact c2
   | j + 3, hx => simp [eGp, AV.cs] at hx
  ·obtain ⟨y, hi, hy, rfl⟩ := dest i e he
   have hg : (z :: l).getD i z = y := by rw [List.getD_eq_getElem?_getD, List.getElem?_eq_getElem hi, ← hy]; rfl
   rw [hg]
   match j, hx with
   | 0, hx => simp [eGp, AV.cs] at hx; subst hx; exact .v _
   | 1, hx => simp [eGp, AV.cs] at hx; subst hx; exact .v _
   | 2, hx => simp [eGp, AV.cs] at hx; subst hx; exact .v _
   | j + 3, hx => simp [eGp, AV.cs] at hx
theorem rel_of_hd {W : World} {v : Value} {x : Hd} (h : IsHd W v x) : RelV (cx0 W) (lk [] .nil) (eHd false x) v := by
 obtain ⟨a, b, rfl, h1, h2⟩ := h
 refine .agg _ _ rfl fun i x y hx hy => ?_
 match i, hx, hy with
 | 0, hx, hy => simp at hx hy; subst hx hy; exact rel_of_ints h1
 | 1, hx, hy => simp at hx hy; subst hx hy; exact rel_of_gps h2
 | n + 2, hx, hy => simp at hx
end Go.Proofs.YthblfhgofopcaaaGreat
