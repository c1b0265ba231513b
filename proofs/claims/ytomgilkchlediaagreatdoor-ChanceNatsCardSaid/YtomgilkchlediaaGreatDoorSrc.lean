/-
  Walks of the source of numbers.
-/
import Derived.Test.YtomgilkchlediaaGreatDoorOwn
import Derived.BigQuiet
import Derived.Deep.QuietTactic
namespace Go.Proofs.YtomgilkchlediaaGreatDoor
open Go.RowKit

/-- Block g is a source. -/
def Src (w : World) (g : Nat) : Prop := ∃ x : Int, 0 ≤ x ∧ x < 18446744073709551616 ∧ Blk w g 55 [.int .u64 x]
/-- All but block g is as it was. -/
def But (g : Nat) (w w' : World) : Prop := w.grownBy w' (some g)
section
variable {g : Nat} {w w' w'' : World}
theorem But.refl (g : Nat) (w : World) : But g w w := World.grownBy.refl w _
theorem But.trans (h : But g w w') (k : But g w' w'') : But g w w'' :=
  ⟨k.os.trans h.os, k.tape.trans h.tape, k.output.trans h.output, Nat.le_trans h.size k.size, fun i hi hn => (k.block i (Nat.lt_of_lt_of_le hi h.size) hn).trans (h.block i hi hn)⟩
theorem But.of_grow (h : Grow w w') : But g w w' := ⟨h.os, h.tape, h.output, h.size, fun i hi _ => h.block i hi⟩
theorem But.set (h : But g w w') (i : Nat) (u : Value) : But g w (w'.setCell ⟨g, i, none⟩ u) :=
  h.trans ⟨rfl, rfl, rfl, by simp, fun k _ hk => Below.heap_setCell _ _ _ _ (fun e => hk (by simp [e]))⟩
theorem But.alloc (h : But g w w') (o : Obj) : But g w (w'.alloc o) := h.trans (But.of_grow ((Grow.refl _).alloc _))
theorem But.drew (h : But g w w') : But g w w'.drew := h.trans (But.of_grow ((Grow.refl _).drew))
theorem But.drewN (h : But g w w') (n : Nat) : But g w (w'.drewN n) := h.trans (But.of_grow ((Grow.refl _).drewN n))
theorem But.grow {w0 : World} (h : But g w w') (k : Grow w0 w) (hg : w0.heap.size ≤ g) : Grow w0 w' := k.own h (fun i hi => by injection hi with hi; omega)
theorem But.blk (h : But g w w') {k : Nat} {e : TypeId} {xs : List Value} (hb : Blk w k e xs) (hne : k ≠ g) : Blk w' k e xs :=
  (h.block k hb.lt (fun e => hne (by injection e))).trans hb
theorem Src.lt (h : Src w g) : g < w.heap.size := by
  obtain ⟨x, _, _, hb⟩ := h
  exact hb.lt
theorem Src.grow (h : Src w g) (k : Grow w w') : Src w' g := by
  obtain ⟨x, h0, h1, hb⟩ := h
  exact ⟨x, h0, h1, hb.grow k⟩
theorem Src.drewN (h : Src w g) (n : Nat) : Src (w.drewN n) g := h
theorem But.rd (h : But g w w') (hs : Src w g) {A : Option Addr} {ys : List Value} {m c : Nat} {e : TypeId} (hr : Rd w A ys) (ht : Tag w e (.slice A m c)) (hne : e ≠ 55) : Rd w' A ys := fun i u hu => by
  obtain ⟨ad, rfl, hb, hc⟩ := hr i u hu
  obtain ⟨cur, hcur⟩ := ht ad m c rfl
  obtain ⟨x, _, _, hx⟩ := hs
  have hk : w'.heap[ad.block]? = w.heap[ad.block]? := by
    refine h.block _ hb fun he => ?_
    have he : ad.block = g := by injection he
    unfold Blk at hx
    rw [he, hx] at hcur
    injection hcur with hcur
    injection hcur with _ hcur
    exact hne hcur.symm
  refine ⟨ad, rfl, Nat.lt_of_lt_of_le hb h.size, ?_⟩
  rw [World.cell?_of_block (w := w) (by rw [block_add]; exact hk)]
  exact hc
theorem But.tag (h : But g w w') (hs : Src w g) {v : Value} {e : TypeId} (ht : Tag w e v) (hne : e ≠ 55) : Tag w' e v := fun ad m c hv => by
  obtain ⟨cur, hcur⟩ := ht ad m c hv
  obtain ⟨x, _, _, hx⟩ := hs
  refine ⟨cur, (h.block _ (lt_of_block hcur) fun he => ?_).trans hcur⟩
  have he : ad.block = g := by injection he
  unfold Blk at hx
  rw [he, hx] at hcur
  injection hcur with hcur
  injection hcur with _ hcur
  exact hne hcur.symm
/-- A list of integers in a block of its own. -/
def IsIntsF (w : World) (v : Value) (zs : List Int) : Prop := IsInts w v zs ∧ Tag w 3 v
theorem IsIntsF.grow {v : Value} {zs : List Int} (h : IsIntsF w v zs) (k : Grow w w') : IsIntsF w' v zs := ⟨h.1.grow k, h.2.grow k⟩
theorem IsIntsF.but {v : Value} {zs : List Int} (h : IsIntsF w v zs) (k : But g w w') (hs : Src w g) : IsIntsF w' v zs := by
  obtain ⟨⟨A, c, rfl, h1, h2, h3⟩, ht⟩ := h
  exact ⟨⟨A, c, rfl, h1, h2, k.rd hs h3 ht (by decide)⟩, k.tag hs ht (by decide)⟩
end

theorem u64_range (n : Int) : 0 ≤ IntKind.u64.wrap n ∧ IntKind.u64.wrap n < 18446744073709551616 := by
  simp only [IntKind.wrap, IntKind.bits, IntKind.signed]
  simp
  omega
theorem xor_range (a b : Int) : 0 ≤ bits .xor .u64 a b ∧ bits .xor .u64 a b < 18446744073709551616 := u64_range _
theorem below_range (y n : Int) (hy : 0 ≤ y) (h1 : 1 ≤ n) (h2 : n ≤ 9223372036854775807) : 0 ≤ wrap64 (y.tmod n) ∧ wrap64 (y.tmod n) < n := by
  have e : y.tmod n = y % n := Int.tmod_eq_emod_of_nonneg hy
  have h3 := Int.emod_nonneg y (show n ≠ 0 by omega)
  have h4 := Int.emod_lt_of_pos y (show 0 < n by omega)
  rw [e, IntWalk.wrap64_in _ (by omega)]
  omega

def BelowRes (g : Nat) (n : Int) (w : World) (e : Ending) (w' : World) : Prop :=
  ∃ r : Int, e = .returned (.int .i64 r) ∧ 0 ≤ r ∧ (1 ≤ n → r < n) ∧ (n < 1 → r = 0) ∧ Src w' g ∧ But g w w'

theorem Below_any (g : Nat) (n : Int) (w : World) (hs : Src w g) (hn : n ≤ 9223372036854775807) : Calls Tryz.prog 28 #[.pointer (some ⟨g, 0, none⟩), .int .i64 n] w (BelowRes g n w) := by
  obtain ⟨x, h0, h1, hb⟩ := hs
  have hcell : w.cell? ⟨g, 0, none⟩ = some (.int .u64 x) := hb.cell 0
  have hfree := hb.free 0
  by_cases hn1 : n < 1
  · go_enter Tryz.func28, Tryz.ntmps28
    go_wp2
    go_ret
    exact ⟨0, rfl, Int.le_refl _, by omega, fun _ => rfl, ⟨_, (u64_range _).1, (u64_range _).2, hb.set 0 _⟩, (But.refl g w).set 0 _⟩
  · go_enter Tryz.func28, Tryz.ntmps28
    go_wp2
    go_quiet (fail)
    go_wp2
    go_ret
    refine ⟨_, rfl, (below_range _ n (Int.ediv_nonneg (xor_range _ _).1 (by omega)) hn1 hn).1, fun _ => (below_range _ n (Int.ediv_nonneg (xor_range _ _).1 (by omega)) hn1 hn).2, by omega, ⟨_, (u64_range _).1, (u64_range _).2, hb.set 0 _⟩, ((But.refl g w).set 0 _).drewN nq⟩

def RangeRes (g : Nat) (lo hi : Int) (w : World) (e : Ending) (w' : World) : Prop :=
  ∃ r : Int, e = .returned (.int .i64 r) ∧ lo ≤ r ∧ r ≤ hi ∧ Src w' g ∧ But g w w'

theorem Range_any (g : Nat) (lo hi : Int) (w : World) (hs : Src w g) (h0 : -1000000000 ≤ lo) (h1 : lo ≤ hi) (h2 : hi ≤ 1000000000) : Calls Tryz.prog 29 #[.pointer (some ⟨g, 0, none⟩), .int .i64 lo, .int .i64 hi] w (RangeRes g lo hi w) := by
  go_enter Tryz.func29, Tryz.ntmps29
  go_wp2_with (go_at_call 28; refine (Below_any g _ _ hs (by omega)).mono ?_; rintro e w1 ⟨r, rfl, r0, r1, r2, hs1, hb1⟩)
  have r3 := r1 (by omega)
  clear r1 r2
  go_wp2
  go_ret
  exact ⟨lo + r, rfl, by omega, by omega, hs1, hb1⟩

def OddsRes (g : Nat) (w : World) (e : Ending) (w' : World) : Prop :=
  ∃ b : Bool, e = .returned (.bool b) ∧ Src w' g ∧ But g w w'
def SourceRes (w : World) (e : Ending) (w' : World) : Prop := ∃ g, e = .returned (.pointer (some ⟨g, 0, none⟩)) ∧ w.heap.size ≤ g ∧ Src w' g ∧ Grow w w'
theorem NewSource_any (v : Value) (zs : List Int) (w : World) (h : IsInts w v zs) : Calls Tryz.prog 7 #[v] w (SourceRes w) := by
  obtain ⟨A, c, rfl, hc, hm, hr⟩ := h
  unfold maxLen at hm
  go_enter Tryz.func7, Tryz.ntmps7
  go_wp2
  have hb0 : Blk (w.alloc (.cells #[.int .u64 2685821657736338717] 55)) w.heap.size 55 [.int .u64 2685821657736338717] := heap_alloc_new w _
  have hg0 : Grow w (w.alloc (.cells #[.int .u64 2685821657736338717] 55)) := (Grow.refl _).alloc _
  go_loopw [4] (fun i wr => ∃ (k : Nat) (x : Int), k ≤ zs.length ∧ i = .int .i64 k ∧ 0 ≤ x ∧ x < 18446744073709551616 ∧ Blk wr w.heap.size 55 [.int .u64 x] ∧ Grow w wr) (fun i _ => zs.length - (intOf i).toNat)
  case atStart => exact ⟨0, _, Nat.zero_le _, rfl, by omega, by omega, hb0, hg0⟩
  case round =>
    clear hb0 hg0
    obtain ⟨k, x, hk, rfl, x0, x1, hb, hg⟩ := hrel
    by_cases hlt : k < zs.length
    · obtain ⟨ad, rfl, hba, hx⟩ := (hr.grow hg).int hlt
      have hcell : wr.cell? ⟨w.heap.size, 0, none⟩ = some (.int .u64 x) := hb.cell 0
      have hfree := hb.free 0
      have i0 : (0 : Int) ≤ (k : Int) := by omega
      have i1 : (k : Int) < (zs.length : Int) := by omega
      go_wp2
      go_region
      go_wp2_with fail
      obtain ⟨y0, y1⟩ := u64_range (bits BinOp.xor IntKind.u64 x (IntKind.u64.wrap zs[k]) * 11400714819323198485)
      generalize IntKind.u64.wrap (bits BinOp.xor IntKind.u64 x (IntKind.u64.wrap zs[k]) * 11400714819323198485) = Y at *
      have hb2 : Blk (wr.setCell ⟨w.heap.size, 0, none⟩ (.int .u64 Y)).drew w.heap.size 55 [.int .u64 Y] := hb.set 0 (.int .u64 Y)
      have hg2 : Grow w (wr.setCell ⟨w.heap.size, 0, none⟩ (.int .u64 Y)).drew := (hg.setBlk (Nat.le_refl _) 0 _).drew
      generalize (wr.setCell ⟨w.heap.size, 0, none⟩ (.int .u64 Y)).drew = wz at *
      have hcell2 : wz.cell? ⟨w.heap.size, 0, none⟩ = some (.int .u64 Y) := hb2.cell 0
      have hfree2 := hb2.free 0
      clear hx hcell hfree hb hg
      go_region
      go_wp2
      exact ⟨⟨k + 1, _, by omega, by go_num, (xor_range _ _).1, (xor_range _ _).2, hb2.set 0 _, (hg2.setBlk (Nat.le_refl _) 0 _).drew⟩, by simp only [intOf]; omega⟩
    · go_wp2
      go_ret
      exact ⟨_, rfl, Nat.le_refl _, ⟨x, x0, x1, hb⟩, hg⟩
end Go.Proofs.YtomgilkchlediaaGreatDoor
