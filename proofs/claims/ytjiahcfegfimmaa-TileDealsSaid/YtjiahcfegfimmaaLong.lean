/-
  The walk of long; contracts of the programs's and the reference's functions, for one set that lies in a block.
-/
import Derived.Test.YtjiahcfegfimmaaAwakeT
import Derived.Test.YtjiahcfegfimmaaFrame1
namespace Go.Proofs.Ytjiahcfegfimmaa
open Go.RowKit

def longB (s : TSet) : Bool := decide (20 < s.su.length) || decide (60 < s.re.length)
theorem long_any (v : Value) (s : TSet) (w : World) (h : IsSet w v s) : Calls Try.prog 18 #[v] w (Gives w (.bool (longB s))) := by
  have hfin : ∀ b wf, longB s = b → Grow w wf → Gives w (.bool (longB s)) (.returned (.bool b)) wf := fun r wf h hg => ⟨by rw [h], hg⟩
  have HF := hid hfin
  clear hfin
  have HI := hid h
  obtain ⟨A, c, B, d, rfl, h1, h2⟩ := h.open_
  obtain ⟨_, _, e1, c1, m1, r1⟩ := h1
  obtain ⟨_, _, e2, d1, m2, r2⟩ := h2
  injection e1 with e1 _ e1'
  injection e2 with e2 _ e2'
  subst e1 e1' e2 e2'
  unfold maxLen at m1 m2
  have HG0 := hid (show Grow w (w.alloc (.cells #[.int .i64 s.pl, .slice A s.su.length c, .int .i64 s.wi, .int .i64 s.dr, .int .i64 s.fl, .int .i64 s.co, .int .i64 s.me, .int .i64 s.de, .slice B s.re.length d] 24)) from (Grow.refl w).alloc _)
  have HB0 := hid (show Blk (w.alloc (.cells #[.int .i64 s.pl, .slice A s.su.length c, .int .i64 s.wi, .int .i64 s.dr, .int .i64 s.fl, .int .i64 s.co, .int .i64 s.me, .int .i64 s.de, .slice B s.re.length d] 24)) w.heap.size 24 (setVals s (.slice A s.su.length c) (.slice B s.re.length d)) from heap_alloc_new w _)
  clear h
  by_cases hs : 20 < s.su.length
  · have HE := hid (show longB s = true by unfold longB; simp [hs])
    have q0 : (20 : Int) < (s.su.length : Int) := by omega
    clear hs
    go_enter Try.func18, Try.ntmps18
    go_wp2
    go_ret
    exact HF.out _ _ HE.out HG0.out
  · have q0 : ¬ (20 : Int) < (s.su.length : Int) := by omega
    by_cases hr : 60 < s.re.length
    · have HE := hid (show longB s = true by unfold longB; simp [hr])
      have q1 : (60 : Int) < (s.re.length : Int) := by omega
      clear hs hr
      go_enter Try.func18, Try.ntmps18
      go_wp2
      go_ret
      exact HF.out _ _ HE.out HG0.out
    · have HE := hid (show longB s = false by unfold longB; simp [hs, hr])
      have q1 : ¬ (60 : Int) < (s.re.length : Int) := by omega
      clear hs hr
      go_enter Try.func18, Try.ntmps18
      go_wp2
      go_ret
      exact HF.out _ _ HE.out HG0.out
theorem long_false {s : TSet} (h : longB s = false) : s.su.length ≤ 20 ∧ s.re.length ≤ 60 := by
  unfold longB at h
  simp at h
  exact h
theorem Awk (w0 : World) : ∀ W, Grow w0 W → Calls Try.prog 21 #[] W (Gives w0 (.bool true)) := fun W hg => (awake_any W).mono (fun _ _ h => ⟨h.1, hg.trans h.2⟩)
end Go.Proofs.Ytjiahcfegfimmaa
