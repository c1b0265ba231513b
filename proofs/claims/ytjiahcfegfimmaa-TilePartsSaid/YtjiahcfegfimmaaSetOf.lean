/-
  The walk of SetOf.
-/
import Derived.Test.YtjiahcfegfimmaaLittle
namespace Go.Proofs.Ytjiahcfegfimmaa
open Go.RowKit

def SetFRes (w : World) (s : TSet) (e : Ending) (w' : World) : Prop := ∃ v, e = .returned v ∧ IsSetF w' v s ∧ Grow w w'
theorem BigF_any (w : World) : Calls Try.prog 68 #[] w (SetFRes w bigT) := by
  have b1 : Blk (((w.alloc (.cells #[.int .i64 4, .slice (some ⟨w.heap.size + 1, 0, none⟩) 3 3, .int .i64 4, .int .i64 3, .int .i64 0, .int .i64 4, .int .i64 4, .int .i64 14, .slice (some ⟨w.heap.size + 1 + 1, 0, none⟩) 3 3] 24)).alloc (.cells #[.int .i64 9, .int .i64 9, .int .i64 9] 3)).alloc (.cells #[.int .i64 4, .int .i64 13, .int .i64 22] 3)) (w.heap.size + 1) 3 (ints [9, 9, 9]) := Blk.grow (Blk.new_at (w := (w.alloc (.cells #[.int .i64 4, .slice (some ⟨w.heap.size + 1, 0, none⟩) 3 3, .int .i64 4, .int .i64 3, .int .i64 0, .int .i64 4, .int .i64 4, .int .i64 14, .slice (some ⟨w.heap.size + 1 + 1, 0, none⟩) 3 3] 24))) (xs := ints [9, 9, 9]) (by simp)) ((Grow.refl _).alloc _)
  have b2 : Blk (((w.alloc (.cells #[.int .i64 4, .slice (some ⟨w.heap.size + 1, 0, none⟩) 3 3, .int .i64 4, .int .i64 3, .int .i64 0, .int .i64 4, .int .i64 4, .int .i64 14, .slice (some ⟨w.heap.size + 1 + 1, 0, none⟩) 3 3] 24)).alloc (.cells #[.int .i64 9, .int .i64 9, .int .i64 9] 3)).alloc (.cells #[.int .i64 4, .int .i64 13, .int .i64 22] 3)) (w.heap.size + 1 + 1) 3 (ints [4, 13, 22]) := Blk.new_at (w := ((w.alloc (.cells #[.int .i64 4, .slice (some ⟨w.heap.size + 1, 0, none⟩) 3 3, .int .i64 4, .int .i64 3, .int .i64 0, .int .i64 4, .int .i64 4, .int .i64 14, .slice (some ⟨w.heap.size + 1 + 1, 0, none⟩) 3 3] 24)).alloc (.cells #[.int .i64 9, .int .i64 9, .int .i64 9] 3))) (xs := ints [4, 13, 22]) (by simp)
  have i1 := hid (b1.is (by unfold maxLen; simp))
  have i2 := hid (b2.is (by unfold maxLen; simp))
  have j1 := hid (b1.tag (n := 3) (c := 3))
  have j2 := hid (b2.tag (n := 3) (c := 3))
  clear b1 b2
  go_enter Try.func68, Try.ntmps68
  go_wp2
  exact bodyPost_ret (v := .agg #[.int .i64 4, .slice (some ⟨w.heap.size + 1, 0, none⟩) 3 3, .int .i64 4, .int .i64 3, .int .i64 0, .int .i64 4, .int .i64 4, .int .i64 14, .slice (some ⟨w.heap.size + 1 + 1, 0, none⟩) 3 3]) (by simp [results, Try.results68, go_sem]) rfl ⟨_, rfl, ⟨_, _, rfl, ⟨i1.out, j1.out⟩, i2.out, j2.out⟩, (((Grow.refl _).alloc _).alloc _).alloc _⟩
theorem big_valid : chkErr bigT = 0 := by decide +kernel
set_option maxRecDepth 100000 in
set_option maxHeartbeats 4000000 in
theorem SetOf_any (g : Nat) (w : World) (hs : Src w g) : Calls Try.prog 28 #[.pointer (some ⟨g, 0, none⟩)] w (MadeSet g w) := by
  have hgl := hs.lt
  go_enter Try.func28, Try.ntmps28
  go_wp2_with fail
  have b0 : But g w (w.alloc (.cells #[.int .i64 0, .slice none 0 0, .int .i64 0, .int .i64 0, .int .i64 0, .int .i64 0, .int .i64 0, .int .i64 0, .slice none 0 0] 24)) := But.of_grow ((Grow.refl _).alloc _)
  have s0 := hs.grow ((Grow.refl w).alloc (.cells #[.int .i64 0, .slice none 0 0, .int .i64 0, .int .i64 0, .int .i64 0, .int .i64 0, .int .i64 0, .int .i64 0, .slice none 0 0] 24))
  have bR : Blk (w.alloc (.cells #[.int .i64 0, .slice none 0 0, .int .i64 0, .int .i64 0, .int .i64 0, .int .i64 0, .int .i64 0, .int .i64 0, .slice none 0 0] 24)) w.heap.size 24 [.int .i64 0, .slice none 0 0, .int .i64 0, .int .i64 0, .int .i64 0, .int .i64 0, .int .i64 0, .int .i64 0, .slice none 0 0] := Blk.new_at rfl
  have hRl := bR.lt
  generalize w.alloc (.cells #[.int .i64 0, .slice none 0 0, .int .i64 0, .int .i64 0, .int .i64 0, .int .i64 0, .int .i64 0, .int .i64 0, .slice none 0 0] 24) = wR at *
  refine (Odds_any g 6 _ s0 (by omega)).mono ?_
  rintro e w1 ⟨b, rfl, hs1, hb1⟩
  have bR1 := hb1.blk bR (by omega)
  have b1 := b0.trans hb1
  clear bR b0 s0 hb1
  cases b
  · go_wp2_with fail
    refine (Range_any g 1 2 _ hs1 (by omega) (by omega) (by omega)).mono ?_
    rintro e w2 ⟨m, rfl, m0, m1, hs2, hb2⟩
    go_wp2_with fail
    refine (Little_any g m _ hs2 ⟨m0, m1⟩).mono ?_
    rintro e w3 ⟨v, s, rfl, hi, hc, hs3, hb3⟩
    have bR3 := hb3.blk (hb2.blk bR1 (by omega)) (by omega)
    have b3 := (b1.trans hb2).trans hb3
    clear hb2 hb3 hs1 hs2 bR1 b1
    have HX := hid (And.intro (And.intro bR3 b3) (And.intro hi (And.intro hc hs3)))
    obtain ⟨A, c, B, d, rfl, h1, h2⟩ := hi.is.open_
    clear h1 h2 hc hs3 bR3 b3 hi
    go_wp2_with (refine wpList_store_row (by rfl) 24 (.tmp 2) (.tmp 9) (by rfl) w.heap.size #[.int .i64 s.pl, .slice A s.su.length c, .int .i64 s.wi, .int .i64 s.dr, .int .i64 s.fl, .int .i64 s.co, .int .i64 s.me, .int .i64 s.de, .slice B s.re.length d] (by rfl) (by rfl) 24 _ HX.out.1.1 (by kernel_rfl) (by rfl) (by simp [Value.oneCell']) ?_)
    obtain ⟨⟨bR3, b3⟩, hi, hc, hs3⟩ := HX.out
    have bF := Blk.row bR3 (setVals s (.slice A s.su.length c) (.slice B s.re.length d))
    obtain ⟨t0, t1, t2, t3, t4, t5, t6, t7, t8⟩ := set_cells bF
    refine bodyPost_ret (v := .agg #[.int .i64 s.pl, .slice A s.su.length c, .int .i64 s.wi, .int .i64 s.dr, .int .i64 s.fl, .int .i64 s.co, .int .i64 s.me, .int .i64 s.de, .slice B s.re.length d]) ?_ rfl ⟨_, s, rfl, hi.row bR3 (by decide) _, hc, hs3.row (by omega) _, b3.row (Nat.le_refl _) _⟩
    simp [results, Try.results28, go_sem, t0, t1, t2, t3, t4, t5, t6, t7, t8]
  · go_wp2_with fail
    refine (BigF_any _).mono ?_
    rintro e w3 ⟨v, rfl, hi, hg3⟩
    have bR3 := bR1.grow hg3
    have b3 := b1.trans (But.of_grow hg3)
    have hs3 := hs1.grow hg3
    obtain ⟨s, hs9⟩ : ∃ s, s = bigT := ⟨_, rfl⟩
    rw [← hs9] at hi
    have HC := hid (show chkErr s = 0 by rw [hs9]; exact big_valid)
    clear hs9
    have HX := hid (And.intro (And.intro bR3 b3) (And.intro hi hs3))
    obtain ⟨A, c, B, d, rfl, h1, h2⟩ := hi.is.open_
    clear h1 h2 hs3 bR3 b3 hi hg3 bR1 b1 hs1
    go_wp2_with (refine wpList_store_row (by rfl) 24 (.tmp 2) (.tmp 5) (by rfl) w.heap.size #[.int .i64 s.pl, .slice A s.su.length c, .int .i64 s.wi, .int .i64 s.dr, .int .i64 s.fl, .int .i64 s.co, .int .i64 s.me, .int .i64 s.de, .slice B s.re.length d] (by rfl) (by rfl) 24 _ HX.out.1.1 (by kernel_rfl) (by rfl) (by simp [Value.oneCell']) ?_)
    obtain ⟨⟨bR3, b3⟩, hi, hs3⟩ := HX.out
    have bF := Blk.row bR3 (setVals s (.slice A s.su.length c) (.slice B s.re.length d))
    obtain ⟨t0, t1, t2, t3, t4, t5, t6, t7, t8⟩ := set_cells bF
    refine bodyPost_ret (v := .agg #[.int .i64 s.pl, .slice A s.su.length c, .int .i64 s.wi, .int .i64 s.dr, .int .i64 s.fl, .int .i64 s.co, .int .i64 s.me, .int .i64 s.de, .slice B s.re.length d]) ?_ rfl ⟨_, s, rfl, hi.row bR3 (by decide) _, HC.out, hs3.row (by omega) _, b3.row (Nat.le_refl _) _⟩
    simp [results, Try.results28, go_sem, t0, t1, t2, t3, t4, t5, t6, t7, t8]
end Go.Proofs.Ytjiahcfegfimmaa
