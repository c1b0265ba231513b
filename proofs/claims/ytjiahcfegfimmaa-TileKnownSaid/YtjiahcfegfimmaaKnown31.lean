/-
  What a letter means: the walk of suitOf.
-/
import Derived.Test.YtjiahcfegfimmaaKnown03
import Derived.Lib.OthersKept
import Derived.Outline
namespace Go.Proofs.Ytjiahcfegfimmaa
open Go.RowKit

/-- The letters of suits, winds, dragons and flowers. -/
def lets6 : List Int := [109, 112, 115, 119, 100, 102]
/-- A letter or its capital one; no flower is red. -/
def matchB (c x : Int) : Bool := decide (c = x) || (decide (c ≠ 70) && decide (c = x - 32))
def suitAt (k : Nat) : Int := if 2 < k then 2 - (k : Int) else (k : Int)
def suitG (c : Int) (k : Nat) : List Int → Int
  | [] => -4
  | x :: l => if matchB c x = true then suitAt k else suitG c (k + 1) l
def suitN (c : Int) : Int := suitG c 0 lets6
theorem suitG_step (c : Int) {k : Nat} (h : k < lets6.length) : suitG c k (lets6.drop k) = if matchB c lets6[k] = true then suitAt k else suitG c (k + 1) (lets6.drop (k + 1)) := by
  rw [List.drop_eq_getElem_cons h]; rfl
theorem lets_at {k : Nat} (h : k < lets6.length) : 97 ≤ lets6[k] ∧ lets6[k] ≤ 122 := by
  have hx : lets6[k] ∈ lets6 := List.getElem_mem h
  revert hx
  generalize lets6[k] = x
  intro hx
  simp [lets6] at hx
  omega
theorem suitAt_bound {k : Nat} (h : k < 6) : -3 ≤ suitAt k ∧ suitAt k ≤ 2 := by unfold suitAt; split <;> omega
theorem suitG_bound (c : Int) (l : List Int) : ∀ k : Nat, k + l.length ≤ 6 → -4 ≤ suitG c k l ∧ suitG c k l ≤ 2 := by
  induction l with
  | nil => intro k _; simp [suitG]
  | cons x l ih =>
    intro k h
    simp at h
    rw [suitG]
    split
    · have := suitAt_bound (k := k) (by omega); omega
    · exact ih (k + 1) (by omega)
theorem suitN_bound (c : Int) : -4 ≤ suitN c ∧ suitN c ≤ 2 := suitG_bound c lets6 0 (by simp [lets6])
abbrev litS : ByteArray := { data := #[109, 112, 115, 119, 100, 102] }
theorem lit_at : ∀ (k : Nat) (h : k < litS.size), ((litS[k]'h).toNat : Int) = lets6.getD k 0 ∧ (litS[k]'h).toNat < 128 := by
  have : ∀ k : Fin 6, ((litS[k.1]'(by have := k.2; show k.1 < 6; omega)).toNat : Int) = lets6.getD k.1 0 ∧ (litS[k.1]'(by have := k.2; show k.1 < 6; omega)).toNat < 128 := by decide
  intro k h
  exact this ⟨k, h⟩

set_option maxRecDepth 100000 in
set_option maxHeartbeats 4000000 in
theorem suitOf_any (c : Int) (w : World) : Calls Try.prog 101 #[.int .i32 c] w (Gives w (.int .i64 (suitN c))) := by
  have hfin : ∀ r wf, suitN c = r → Grow w wf → Gives w (.int .i64 (suitN c)) (.returned (.int .i64 r)) wf := fun r wf h hg => ⟨by rw [h], hg⟩
  have HF := hid hfin
  clear hfin
  go_enter Try.func101, Try.ntmps101
  go_wp2
  have hit : (w.iter litS 0).heap[w.heap.size]? = some (.stringIter litS 0) := World.iter_heap w litS 0
  have hgw : Grow w (w.iter litS 0) := (Grow.refl w).alloc _
  have IT := hid (And.intro hit hgw)
  clear hit hgw
  go_loopw [3, 4] (fun _ _ wr => ∃ pos : Nat, pos ≤ 6 ∧ wr.heap[w.heap.size]? = some (.stringIter litS pos) ∧ suitG c pos (lets6.drop pos) = suitN c ∧ Grow w wr) (fun _ _ wr => 6 - wr.iterPos w.heap.size)
  case atStart => exact ⟨0, Nat.zero_le _, IT.out.1, rfl, IT.out.2⟩
  case round =>
    obtain ⟨pos, hpos, hk, hsg, hgr⟩ := hrel
    by_cases hlt : pos < 6
    · have hs : pos < litS.size := hlt
      obtain ⟨la, l128⟩ := lit_at pos hs
      have hl6 : pos < lets6.length := hlt
      rw [suitG_step c hl6] at hsg
      have hx := lets_at hl6
      rw [show lets6.getD pos 0 = lets6[pos] by simp [List.getD, hl6]] at la
      have hnext : ∀ ty, (Instr.next (.pointer (some ⟨w.heap.size, 0, none⟩)) true ty).run Try.prog wr = _ := fun ty => Lib.run_next_ascii_at wr w.heap.size litS pos ty hk hs l128
      rw [la] at hnext
      have hk1 := Lib.iterAt_heap wr w.heap.size litS pos (pos + 1) hk
      have hg1 : Grow w (wr.iterAt w.heap.size litS (pos + 1)) := Lib.below_iterAt hgr (Nat.le_refl _) litS (pos + 1)
      have hmu : wr.iterPos w.heap.size = pos := by simp [World.iterPos, hk]
      have HSG := hid hsg
      have HMU := hid (And.intro hmu hk1)
      clear hsg hmu hk la l128 hk1
      generalize wr.iterAt w.heap.size litS (pos + 1) = W1 at *
      generalize lets6[pos] = x at *
      have p0 : (0 : Int) ≤ (pos : Int) := by omega
      have p1 : (pos : Int) ≤ 6 := by omega
      have w1 : IntKind.i32.wrap (x - 97) = x - 97 := by unfold IntKind.wrap; simp [IntKind.bits, IntKind.signed]; omega
      have w2 : IntKind.i32.wrap (x - 97 + 65) = x - 97 + 65 := by unfold IntKind.wrap; simp [IntKind.bits, IntKind.signed]; omega
      by_cases hm : matchB c x = true
      · rw [if_pos hm] at HSG
        by_cases he : c = x
        · have f1 : (c == x) = true := by simp [he]
          clear hm he
          by_cases h2 : 2 < pos
          · have d2 : (2 : Int) < (pos : Int) := by omega
            have HR := hid (show suitAt pos = 2 - (pos : Int) from if_pos h2)
            go_wp2
            go_ret
            exact HF.out _ _ (HSG.out.symm.trans HR.out) hg1
          · have d2 : ¬ (2 : Int) < (pos : Int) := by omega
            have HR := hid (show suitAt pos = (pos : Int) from if_neg h2)
            go_wp2
            go_ret
            exact HF.out _ _ (HSG.out.symm.trans HR.out) hg1
        · have f1 : (c == x) = false := by simp [he]
          have f4 : (c != 70) = true := by unfold matchB at hm; simp [he] at hm; simp [hm.1]
          have f3 : (c == x - 97 + 65) = true := by unfold matchB at hm; simp [he] at hm; simp; omega
          clear hm he
          by_cases h2 : 2 < pos
          · have d2 : (2 : Int) < (pos : Int) := by omega
            have HR := hid (show suitAt pos = 2 - (pos : Int) from if_pos h2)
            go_wp2
            go_ret
            exact HF.out _ _ (HSG.out.symm.trans HR.out) hg1
          · have d2 : ¬ (2 : Int) < (pos : Int) := by omega
            have HR := hid (show suitAt pos = (pos : Int) from if_neg h2)
            go_wp2
            go_ret
            exact HF.out _ _ (HSG.out.symm.trans HR.out) hg1
      · rw [if_neg hm] at HSG
        unfold matchB at hm
        have f1 : (c == x) = false := by
          simp at hm ⊢
          omega
        have f3 : (c == x - 97 + 65) = false ∨ c = 70 := by
          simp at hm ⊢
          omega
        by_cases h70 : c = 70
        · have f4 : (c != 70) = false := by simp [h70]
          clear f3 hm h70
          go_wp2
          exact ⟨⟨pos + 1, by omega, HMU.out.2, HSG.out, hg1⟩, by rw [HMU.out.1, show W1.iterPos w.heap.size = pos + 1 by simp [World.iterPos, HMU.out.2]]; omega⟩
        · have f4 : (c != 70) = true := by simp [h70]
          have f3 : (c == x - 97 + 65) = false := by rcases f3 with h | h; exact h; exact absurd h h70
          clear hm h70
          go_wp2
          exact ⟨⟨pos + 1, by omega, HMU.out.2, HSG.out, hg1⟩, by rw [HMU.out.1, show W1.iterPos w.heap.size = pos + 1 by simp [World.iterPos, HMU.out.2]]; omega⟩
    · have hs : ¬ pos < litS.size := hlt
      have hnext : ∀ ty, (Instr.next (.pointer (some ⟨w.heap.size, 0, none⟩)) true ty).run Try.prog wr = _ := fun ty => Lib.run_next_end_at wr w.heap.size litS pos ty hk hs
      have HSG := hid (show (-4 : Int) = suitN c by rw [← hsg, List.drop_eq_nil_of_le (by simp [lets6]; omega)]; rfl)
      clear hsg hk
      go_wp2
      go_ret
      exact HF.out _ _ HSG.out.symm hgr
end Go.Proofs.Ytjiahcfegfimmaa
