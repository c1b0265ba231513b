/-
  The walk of NatOf: a natural made of numbers.
-/
import Derived.Test.YtomgilkchlediaaGreatDoorOddsOf
namespace Go.Proofs.YtomgilkchlediaaGreatDoor
open Go.RowKit

section
variable {ops : Array Oper} {rest : List Oper} {o : Oper} {a : Act} {Q : Exit → Act → World → Prop}
/-- 'append(out, z)' where other blocks may have been written. -/
theorem wpList_append_intS (w0 w : World) (z : Int) (hgd : o.guard = none) (s x : Operand) (t : TypeId)
    (ho : o.op = .call { callee := .builtin .append, args := #[s, x], argTypes := #[t, t] }) (ht : Tryz.prog.underlying t = some (.slice 3))
    (v : Value) (os : List Int) (hs : a.eval s = v) (hown : Own w0 w v os) (hx : a.eval x = .slice (some ⟨w.heap.size, 0, none⟩) 1 1)
    (hl : os.length ≤ 1000000000000) (hg : w0.heap.size ≤ w.heap.size)
    (h : ∀ v' w', Own w0 w' v' (os ++ [z]) → (w.alloc (.cells #[.int .i64 z] 3)).grownBy w' v.ownBlock → wpList Tryz.prog ops Q rest (a.put o.dst v') w') :
    wpList Tryz.prog ops Q (o :: rest) a (w.alloc (.cells #[.int .i64 z] 3)) := by
  obtain ⟨i0, hi0, hz0, hz1, hz2⟩ := info_parts infoInt
  refine wpList_append_own _ hgd s x t ho w0.heap.size 3 i0 _ 1 8 ht hi0 hz0 hz1 hz2 rfl (by decide) v os.length (ints os) hs (World.ownsRow.alloc hown _) ⟨w.heap.size, 0, none⟩ 1 1 [.int .i64 z] hx rfl
    (World.news_of_block (cs := #[.int .i64 z]) (t := 3) (fr := (0, 0)) (heap_alloc_new w _)) (by simp [Value.oneCell']) (by unfold maxLen; omega) (by omega) (by simp; omega) ?_
  intro v' w' h1 h2 _
  refine h v' w' ?_ h2
  have e : (os ++ [z]).length = os.length + 1 := by simp
  unfold Own
  rw [e]
  simpa [ints] using h1
end

theorem Own.but {g : Nat} {w0 w w' : World} {v : Value} {os : List Int} (h : Own w0 w v os) (k : But g w w') (hg : g < w0.heap.size) : Own w0 w' v os := by
  refine ⟨h.1, ?_⟩
  rcases h.2 with hn | ⟨g', cap, cur, e, hb, hh, r⟩
  · exact .inl hn
  · exact .inr ⟨g', cap, cur, e, hb, (k.block g' (lt_of_block hh) (fun e => by have : g' = g := (by injection e); omega)).trans hh, r⟩
theorem But.own {g : Nat} {w0 w w' : World} {row : Option Nat} (h : But g w0 w) (k : w.grownBy w' row) (hr : ∀ b, row = some b → w0.heap.size ≤ b) : But g w0 w' :=
  ⟨k.os.trans h.os, k.tape.trans h.tape, k.output.trans h.output, Nat.le_trans h.size k.size, fun i hi hn => (k.block i (Nat.lt_of_lt_of_le hi h.size) (fun e => by have := hr i e.symm; omega)).trans (h.block i hi hn)⟩
theorem Src.own {g : Nat} {w w' : World} {row : Option Nat} (h : Src w g) (k : w.grownBy w' row) (hr : row ≠ some g) : Src w' g := by
  obtain ⟨x, h0, h1, hb⟩ := h
  exact ⟨x, h0, h1, (k.block g hb.lt (fun e => hr e.symm)).trans hb⟩

def NatOfRes (g : Nat) (most : Int) (w : World) (e : Ending) (w' : World) : Prop :=
  ∃ v zs, e = .returned v ∧ IsIntsF w' v zs ∧ Canon zs ∧ (zs.length : Int) ≤ most ∧ Src w' g ∧ But g w w'

theorem dig_snoc {os : List Int} {d : Int} (h : Dig os) (k : 0 ≤ d ∧ d < 1000000000) : Dig (os ++ [d]) := fun x hx => by
  rcases List.mem_append.1 hx with h1 | h1
  · exact h x h1
  · simp at h1; omega
/-- The last digit is nought. -/
def lastNought (v : Value) (w : World) : Nat :=
  match v with
  | .slice (some ad) n _ => match w.cell? ⟨ad.block, ad.off + (n - 1), none⟩ with
    | some (.int _ d) => if d = 0 then 1 else 0
    | _ => 0
  | _ => 0
theorem lastNought_of {w : World} {g n c : Nat} {d : Int} (h : w.cell? ⟨g, n - 1, none⟩ = some (.int .i64 d)) : lastNought (.slice (some ⟨g, 0, none⟩) n c) w = if d = 0 then 1 else 0 := by
  unfold lastNought
  simp only [Nat.zero_add, h]
theorem natOf_fin {g : Nat} {most : Int} {w wr : World} {v : Value} {os : List Int} (ho : Own w wr v os) (hd : Dig os) (hz : os.getLast? ≠ some 0) (hl : (os.length : Int) ≤ most) (hs : Src wr g) (hb : But g w wr) : NatOfRes g most w (.returned v) wr :=
  ⟨v, os, rfl, ho.F, ⟨hd, hz⟩, hl, hs, hb⟩
theorem four_at {w : World} {G : Nat} {x y : Int} (h : Blk w G 3 (ints [0, 999999999, x, y])) (hx : 0 ≤ x ∧ x < 1000000000) (hy : 0 ≤ y ∧ y < 1000000000) {r : Nat} (hr : r < 4) : ∃ d, w.cell? ⟨G, r, none⟩ = some (.int .i64 d) ∧ 0 ≤ d ∧ d < 1000000000 := by
  rcases (show r = 0 ∨ r = 1 ∨ r = 2 ∨ r = 3 by omega) with rfl | rfl | rfl | rfl
  · exact ⟨0, h.cell 0, by omega, by omega⟩
  · exact ⟨999999999, h.cell 1, by omega, by omega⟩
  · exact ⟨x, h.cell 2, hx⟩
  · exact ⟨y, h.cell 3, hy⟩

set_option maxRecDepth 100000 in
theorem NatOf_any (g : Nat) (most : Int) (w : World) (hs : Src w g) (m0 : 0 ≤ most) (m1 : most ≤ 1000) : Calls Tryz.prog 6 #[.pointer (some ⟨g, 0, none⟩), .int .i64 most] w (NatOfRes g most w) := by
  have gl := hs.lt
  go_enter Tryz.func6, Tryz.ntmps6
  go_wp2_with fail
  refine (Below_any g _ _ hs (by omega)).mono ?_
  rintro e w1 ⟨k, rfl, k0, k1, _, hs1, hb1⟩
  have k2 := k1 (by omega)
  clear k1
  go_wp2
  go_loopw [5, 6] (fun v i wr => ∃ (k : Nat) (os : List Int) (u : Value), u = v ∧ i = .int .i64 (k : Int) ∧ (os.length : Int) + k ≤ most ∧ Own w wr v os ∧ Dig os ∧ Src wr g ∧ But g w wr) (fun _ i _ => (intOf i).toNat)
  case atStart =>
    obtain ⟨K, rfl⟩ := Int.eq_ofNat_of_zero_le k0
    exact ⟨K, [], _, rfl, rfl, by simp; omega, Own.nil _ _, Dig.nil, hs1, hb1⟩
  case round =>
    clear hs1 hb1 k0 k2
    obtain ⟨k, os, v, rfl, rfl, hl, ho, hd, hs1, hb1⟩ := hrel
    by_cases hk : 0 < k
    · have hk' : (0 : Int) < (k : Int) := by omega
      obtain ⟨A, c, rfl, _⟩ := id ho.is
      go_wp2_with fail
      refine (Below_any g _ _ hs1 (by omega)).mono ?_
      rintro e w2 ⟨x, rfl, x0, x1, _, hs2, hb2⟩
      have x2 := x1 (by omega)
      clear x1
      go_wp2_with fail
      refine (Below_any g _ _ hs2 (by omega)).mono ?_
      rintro e w3 ⟨y, rfl, y0, y1, _, hs3, hb3⟩
      have y2 := y1 (by omega)
      clear y1
      have ho3 := (ho.but hb2 gl).but hb3 gl
      have hb4 := (hb1.trans hb2).trans hb3
      clear ho hb1 hb2 hb3 hs1 hs2
      go_wp2_with fail
      have gA : Grow w3 (w3.alloc (.cells #[.int .i64 0, .int .i64 999999999, .int .i64 x, .int .i64 y] 3)) := (Grow.refl _).alloc _
      have b4 : Blk (w3.alloc (.cells #[.int .i64 0, .int .i64 999999999, .int .i64 x, .int .i64 y] 3)) w3.heap.size 3 (ints [0, 999999999, x, y]) := Blk.new_at (xs := ints [0, 999999999, x, y]) rfl
      have gl3 := hs3.lt
      refine (Below_any g _ _ (hs3.grow gA) (by omega)).mono ?_
      rintro e w4 ⟨r, rfl, r0, r1, _, hs4, hb5⟩
      have r2 := r1 (by omega)
      clear r1
      obtain ⟨R, rfl⟩ := Int.eq_ofNat_of_zero_le r0
      obtain ⟨d, hcd, d0, d1⟩ := four_at (hb5.blk b4 (by omega)) ⟨x0, by omega⟩ ⟨y0, by omega⟩ (show R < 4 by omega)
      have ho4 := (ho3.kept gA).but hb5 gl
      have hb6 := (hb4.trans (But.of_grow gA)).trans hb5
      clear ho3 hb4 gA hb5 hs3 b4
      have hl2 : os.length ≤ 1000000000000 := by omega
      have hsz := hb6.size
      go_wp2_with (at_builtin; refine wpList_append_intS w _ d rfl (.tmp 15) (.tmp 25) _ (by rfl) Tryz.underlying24 _ os (by rfl) ho4 (by rfl) hl2 hsz ?_; intro v' w' ho5 hg5)
      have hr : ∀ b, (Value.slice A os.length c).ownBlock = some b → w.heap.size ≤ b := ho4.block
      have gA : Grow w4 (w4.alloc (.cells #[.int .i64 d] 3)) := (Grow.refl _).alloc _
      exact ⟨⟨k - 1, os ++ [d], _, rfl, by rw [show ((k - 1 : Nat) : Int) = (k : Int) - 1 by omega], by simp; omega, ho5, dig_snoc hd ⟨d0, d1⟩, (hs4.grow gA).own hg5 (fun e => by have := hr g e; omega), (hb6.trans (But.of_grow gA)).own hg5 hr⟩, by simp only [intOf]; omega⟩
    · go_wp2
      have hl2 : (os.length : Int) ≤ most := by omega
      clear hl hk
      go_loopw [] (fun wr => ∃ (os : List Int), (os.length : Int) ≤ most ∧ Own w wr v os ∧ Dig os ∧ Src wr g ∧ But g w wr) (fun wr => lastNought v wr)
      case atStart => exact ⟨os, hl2, ho, hd, hs1, hb1⟩
      case round =>
        clear hl2 ho hd hs1 hb1
        obtain ⟨os, hl, ho, hd, hs1, hb1⟩ := hrel
        by_cases hp : 0 < os.length
        · obtain ⟨G, cap, rfl, hG, _, _⟩ := ho.form hp
          have hc := ho.cell (show os.length - 1 < os.length by omega)
          have hf := Own.free ho (os.length - 1)
          have hd1 := hd.at_ (show os.length - 1 < os.length by omega)
          have hm := lastNought_of (c := cap) hc
          have hgl : os.getLast? = some os[os.length - 1] := by rw [List.getLast?_eq_getElem?]; simp
          obtain ⟨D, hD⟩ : ∃ D, D = os[os.length - 1] := ⟨_, rfl⟩
          rw [← hD] at hc hd1 hm hgl
          clear hD
          have HF := hid (fun hz => natOf_fin (g := g) (most := most) ho hd hz hl hs1 hb1)
          have f1 : IntKind.i64.wrap ((os.length : Int) - 1) = (os.length : Int) - 1 := IntWalk.i64_in _ (by omega)
          have f2 : ((os.length : Int) - 1).toNat = os.length - 1 := by omega
          have i0 : (0 : Int) ≤ (os.length : Int) - 1 := by omega
          have i1 : (os.length : Int) - 1 < (os.length : Int) := by omega
          have hp' : (0 : Int) < (os.length : Int) := by omega
          have HO := hid ho
          have HG := hid hgl
          have HM := hid hm
          clear ho hgl hm
          by_cases hz : D = 0
          · subst hz
            go_wp2_with fail
            refine (Range_any g 1 999999999 _ hs1 (by omega) (by omega) (by omega)).mono ?_
            rintro e w2 ⟨r, rfl, r0, r1, hs2, hb2⟩
            have ho2 := HO.out.but hb2 gl
            have hGg : g ≠ G := by omega
            have hc2 := ho2.cell (show os.length - 1 < os.length by omega)
            have hf2 := Own.free ho2 (os.length - 1)
            have ho3 := ho2.set (os.length - 1) r
            have hl3 : os.length ≤ os.length := Nat.le_refl _
            have HO3 := hid ho3
            have hs3 := hs2.setFar (p := ⟨G, os.length - 1, none⟩) hGg (.int .i64 r)
            have hb3 := (hb1.trans hb2).setNew (p := ⟨G, os.length - 1, none⟩) hG (.int .i64 r)
            clear ho2 ho3
            go_wp2
            refine ⟨⟨os.set (os.length - 1) r, by simpa using hl, HO3.out, hd.set (os.length - 1) (by omega) (by omega), hs3, hb3⟩, ?_⟩
            rw [HM.out, if_pos trivial, lastNought_of (c := cap) (World.cell?_setCell_same _ _ _ hc2), if_neg (by omega)]
            omega
          · have hz' : (D == 0) = false := by simpa using hz
            have HZ := hid hz
            clear hz
            go_wp2
            go_ret
            exact HF.out (by rw [HG.out]; intro e; exact HZ.out (Option.some.inj e))
        · have hz : os.getLast? ≠ some 0 := by
            have : os = [] := List.eq_nil_of_length_eq_zero (by omega)
            subst this; simp
          have HF := hid (natOf_fin (g := g) (most := most) ho hd hz hl hs1 hb1)
          obtain ⟨A, c, rfl, _⟩ := id ho.is
          have hp' : ¬ (0 : Int) < (os.length : Int) := by omega
          clear ho hz
          go_wp2
          go_ret
          exact HF.out
end Go.Proofs.YtomgilkchlediaaGreatDoor
