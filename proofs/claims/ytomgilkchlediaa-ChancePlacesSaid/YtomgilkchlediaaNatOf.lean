/-
  The walk of NatOf: a natural made of numbers.
-/
import Derived.Test.YtomgilkchlediaaOddsOf
namespace Go.Proofs.Ytomgilkchlediaa
open Go.RowKit

section
variable {ops : Array Oper} {rest : List Oper} {o : Oper} {a : Act} {Q : Exit → Act → World → Prop}
/-- 'append(out, z)' where other blocks may have been written. -/
theorem wpList_append_intS (w0 w : World) (z : Int) (hgd : o.guard = none) (s x : Operand) (t : TypeId)
    (ho : o.op = .call { callee := .builtin .append, args := #[s, x], argTypes := #[t, t] }) (ht : Try.prog.underlying t = some (.slice 3))
    (v : Value) (os : List Int) (hs : a.eval s = v) (hown : Own w0 w v os) (hx : a.eval x = .slice (some ⟨w.heap.size, 0, none⟩) 1 1)
    (hl : os.length ≤ 1000000000000) (hg : w0.heap.size ≤ w.heap.size)
    (h : ∀ v' w', Own w0 w' v' (os ++ [z]) → (w.alloc (.cells #[.int .i64 z] 3)).grownBy w' v.ownBlock → wpList Try.prog ops Q rest (a.put o.dst v') w') :
    wpList Try.prog ops Q (o :: rest) a (w.alloc (.cells #[.int .i64 z] 3)) := by
  obtain ⟨i0, hi0, hz0, hz1, hz2⟩ := info_parts infoInt
  refine wpList_append_own _ hgd s x t ho w0.heap.size 3 i0 _ 1 8 ht hi0 hz0 hz1 hz2 rfl (by decide) v os.length (ints os) hs (World.ownsRow.alloc hown _) ⟨w.heap.size, 0, none⟩ 1 1 [.int .i64 z] hx rfl
    (World.news_of_block (cs := #[.int .i64 z]) (t := 3) (fr := (0, 0)) (heap_alloc_new w _)) (by simp [Value.oneCell']) (by unfold maxLen; omega) (by omega) (by simp; omega) ?_
  intro v' w' h1 h2 _
  refine h v' w' ?_ h2
  have e : (os ++ [z]).length = os.length + 1 := by simp
  unfold Own
  rw [e]
  simpa [ints] using h1
end

theorem Own.but {g : Nat} {w0 w w' : World} {v : Value} {os : List Int} (h : Own w0 w v os) (k : But g w w') (hg : g < w0.heap.size) : Own w0 w' v os := by
  refine ⟨h.1, ?_⟩
  rcases h.2 with hn | ⟨g', cap, cur, e, hb, hh, r⟩
  · exact .inl hn
  · exact .inr ⟨g', cap, cur, e, hb, (k.block g' (lt_of_block hh) (fun e => by have : g' = g := (by injection e); omega)).trans hh, r⟩
theorem But.own {g : Nat} {w0 w w' : World} {row : Option Nat} (h : But g w0 w) (k : w.grownBy w' row) (hr : ∀ b, row = some b → w0.heap.size ≤ b) : But g w0 w' :=
  ⟨k.os.trans h.os, k.tape.trans h.tape, k.output.trans h.output, Nat.le_trans h.size k.size, fun i hi hn => (k.block i (Nat.lt_of_lt_of_le hi h.size) (fun e => by have := hr i e.symm; omega)).trans (h.block i hi hn)⟩
theorem Src.own {g : Nat} {w w' : World} {row : Option Nat} (h : Src w g) (k : w.grownBy w' row) (hr : row ≠ some g) : Src w' g := by
  obtain ⟨x, h0, h1, hb⟩ := h
  exact ⟨x, h0, h1, (k.block g hb.lt (fun e => hr e.symm)).trans hb⟩

def NatOfRes (g : Nat) (most : Int) (w : World) (e : Ending) (w' : World) : Prop :=
  ∃ v zs, e = .returned v ∧ IsIntsF w' v zs ∧ Canon zs ∧ (zs.length : Int) ≤ most ∧ Src w' g ∧ But g w w'

theorem dig_snoc {os : List Int} {d : Int} (h : Dig os) (k : 0 ≤ d ∧ d < 1000000000) : Dig (os ++ [d]) := fun x hx => by
  rcases List.mem_append.1 hx with h1 | h1
  · exact h x h1
  · simp at h1; omega
/-- The last digit is nought. -/
def lastNought (v : Value) (w : World) : Nat :=
  match v with
  | .slice (some ad) n _ => match w.cell? ⟨ad.block, ad.off + (n - 1), none⟩ with
    | some (.int _ d) => if d = 0 then 1 else 0
    | _ => 0
  | _ => 0
theorem lastNought_of {w : World} {g n c : Nat} {d : Int} (h : w.cell? ⟨g, n - 1, none⟩ = some (.int .i64 d)) : lastNought (.slice (some ⟨g, 0, none⟩) n c) w = if d = 0 then 1 else 0 := by
  unfold lastNought
  simp only [Nat.zero_add, h]
theorem natOf_fin {g : Nat} {most : Int} {w wr : World} {v : Value} {os : List Int} (ho : Own w wr v os) (hd : Dig os) (hz : os.getLast? ≠ some 0) (hl : (os.length : Int) ≤ most) (hs : Src wr g) (hb : But g w wr) : NatOfRes g most w (.returned v) wr :=
  ⟨v, os, rfl, ho.F, ⟨hd, hz⟩, hl, hs, hb⟩
theorem four_at {w : World} {G : Nat} {x y : Int} (h : Blk w G 3 (ints [0, 999999999, x, y])) (hx : 0 ≤ x ∧ x < 1000000000) (hy : 0 ≤ y ∧ y < 1000000000) {r : Nat} (hr : r < 4) : ∃ d, w.cell? ⟨G, r, none⟩ = some (.int .i64 d) ∧ 0 ≤ d ∧ d < 1000000000 := by
  rcases (show r = 0 ∨ r = 1 ∨ r = 2 ∨ r = 3 by omega) with rfl | rfl | rfl | rfl
  · exact ⟨0, h.cell 0, by omega, by omega⟩
  · exact ⟨999999999, h.cell 1, by omega, by omega⟩
  · exact ⟨x, h.cell 2, hx⟩
  · exact ⟨y, h.cell 3, hy⟩

end Go.Proofs.Ytomgilkchlediaa
