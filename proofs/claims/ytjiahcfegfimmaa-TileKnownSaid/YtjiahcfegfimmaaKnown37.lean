/-
  Parts of the proof: SetOf, Rounds.
-/
import Derived.Test.YtjiahcfegfimmaaKnown36
import Derived.Test.YtjiahcfegfimmaaKnown23
/-
  The walk of SetOf.
-/
namespace Go.Proofs.Ytjiahcfegfimmaa
open Go.RowKit

def SetFRes (w : World) (s : TSet) (e : Ending) (w' : World) : Prop := ∃ v, e = .returned v ∧ IsSetF w' v s ∧ Grow w w'
theorem BigF_any (w : World) : Calls Try.prog 68 #[] w (SetFRes w bigT) := by
  have b1 : Blk (((w.alloc (.cells #[.int .i64 4, .slice (some ⟨w.heap.size + 1, 0, none⟩) 3 3, .int .i64 4, .int .i64 3, .int .i64 0, .int .i64 4, .int .i64 4, .int .i64 14, .slice (some ⟨w.heap.size + 1 + 1, 0, none⟩) 3 3] 24)).alloc (.cells #[.int .i64 9, .int .i64 9, .int .i64 9] 3)).alloc (.cells #[.int .i64 4, .int .i64 13, .int .i64 22] 3)) (w.heap.size + 1) 3 (ints [9, 9, 9]) := Blk.grow (Blk.new_at (w := (w.alloc (.cells #[.int .i64 4, .slice (some ⟨w.heap.size + 1, 0, none⟩) 3 3, .int .i64 4, .int .i64 3, .int .i64 0, .int .i64 4, .int .i64 4, .int .i64 14, .slice (some ⟨w.heap.size + 1 + 1, 0, none⟩) 3 3] 24))) (xs := ints [9, 9, 9]) (by simp)) ((Grow.refl _).alloc _)
  have b2 : Blk (((w.alloc (.cells #[.int .i64 4, .slice (some ⟨w.heap.size + 1, 0, none⟩) 3 3, .int .i64 4, .int .i64 3, .int .i64 0, .int .i64 4, .int .i64 4, .int .i64 14, .slice (some ⟨w.heap.size + 1 + 1, 0, none⟩) 3 3] 24)).alloc (.cells #[.int .i64 9, .int .i64 9, .int .i64 9] 3)).alloc (.cells #[.int .i64 4, .int .i64 13, .int .i64 22] 3)) (w.heap.size + 1 + 1) 3 (ints [4, 13, 22]) := Blk.new_at (w := ((w.alloc (.cells #[.int .i64 4, .slice (some ⟨w.heap.size + 1, 0, none⟩) 3 3, .int .i64 4, .int .i64 3, .int .i64 0, .int .i64 4, .int .i64 4, .int .i64 14, .slice (some ⟨w.heap.size + 1 + 1, 0, none⟩) 3 3] 24)).alloc (.cells #[.int .i64 9, .int .i64 9, .int .i64 9] 3))) (xs := ints [4, 13, 22]) (by simp)
  have i1 := hid (b1.is (by unfold maxLen; simp))
  have i2 := hid (b2.is (by unfold maxLen; simp))
  have j1 := hid (b1.tag (n := 3) (c := 3))
  have j2 := hid (b2.tag (n := 3) (c := 3))
  clear b1 b2
  go_enter Try.func68, Try.ntmps68
  go_wp2
  exact bodyPost_ret (v := .agg #[.int .i64 4, .slice (some ⟨w.heap.size + 1, 0, none⟩) 3 3, .int .i64 4, .int .i64 3, .int .i64 0, .int .i64 4, .int .i64 4, .int .i64 14, .slice (some ⟨w.heap.size + 1 + 1, 0, none⟩) 3 3]) (by simp [results, Try.results68, go_sem]) rfl ⟨_, rfl, ⟨_, _, rfl, ⟨i1.out, j1.out⟩, i2.out, j2.out⟩, (((Grow.refl _).alloc _).alloc _).alloc _⟩
theorem big_valid : chkErr bigT = 0 := by decide +kernel
set_option maxRecDepth 100000 in
set_option maxHeartbeats 4000000 in
theorem SetOf_any (g : Nat) (w : World) (hs : Src w g) : Calls Try.prog 28 #[.pointer (some ⟨g, 0, none⟩)] w (MadeSet g w) := by
  have hgl := hs.lt
  go_enter Try.func28, Try.ntmps28
  go_wp2_with fail
  have b0 : But g w (w.alloc (.cells #[.int .i64 0, .slice none 0 0, .int .i64 0, .int .i64 0, .int .i64 0, .int .i64 0, .int .i64 0, .int .i64 0, .slice none 0 0] 24)) := But.of_grow ((Grow.refl _).alloc _)
  have s0 := hs.grow ((Grow.refl w).alloc (.cells #[.int .i64 0, .slice none 0 0, .int .i64 0, .int .i64 0, .int .i64 0, .int .i64 0, .int .i64 0, .int .i64 0, .slice none 0 0] 24))
  have bR : Blk (w.alloc (.cells #[.int .i64 0, .slice none 0 0, .int .i64 0, .int .i64 0, .int .i64 0, .int .i64 0, .int .i64 0, .int .i64 0, .slice none 0 0] 24)) w.heap.size 24 [.int .i64 0, .slice none 0 0, .int .i64 0, .int .i64 0, .int .i64 0, .int .i64 0, .int .i64 0, .int .i64 0, .slice none 0 0] := Blk.new_at rfl
  have hRl := bR.lt
  generalize w.alloc (.cells #[.int .i64 0, .slice none 0 0, .int .i64 0, .int .i64 0, .int .i64 0, .int .i64 0, .int .i64 0, .int .i64 0, .slice none 0 0] 24) = wR at *
  refine (Odds_any g 6 _ s0 (by omega)).mono ?_
  rintro e w1 ⟨b, rfl, hs1, hb1⟩
  have bR1 := hb1.blk bR (by omega)
  have b1 := b0.trans hb1
  clear bR b0 s0 hb1
  cases b
  · go_wp2_with fail
    refine (Range_any g 1 2 _ hs1 (by omega) (by omega) (by omega)).mono ?_
    rintro e w2 ⟨m, rfl, m0, m1, hs2, hb2⟩
    go_wp2_with fail
    refine (Little_any g m _ hs2 ⟨m0, m1⟩).mono ?_
    rintro e w3 ⟨v, s, rfl, hi, hc, hs3, hb3⟩
    have bR3 := hb3.blk (hb2.blk bR1 (by omega)) (by omega)
    have b3 := (b1.trans hb2).trans hb3
    clear hb2 hb3 hs1 hs2 bR1 b1
    have HX := hid (And.intro (And.intro bR3 b3) (And.intro hi (And.intro hc hs3)))
    obtain ⟨A, c, B, d, rfl, h1, h2⟩ := hi.is.open_
    clear h1 h2 hc hs3 bR3 b3 hi
    go_wp2_with (refine wpList_store_row (by rfl) 24 (.tmp 2) (.tmp 9) (by rfl) w.heap.size #[.int .i64 s.pl, .slice A s.su.length c, .int .i64 s.wi, .int .i64 s.dr, .int .i64 s.fl, .int .i64 s.co, .int .i64 s.me, .int .i64 s.de, .slice B s.re.length d] (by rfl) (by rfl) 24 _ HX.out.1.1 (by kernel_rfl) (by rfl) (by simp [Value.oneCell']) ?_)
    obtain ⟨⟨bR3, b3⟩, hi, hc, hs3⟩ := HX.out
    have bF := Blk.row bR3 (setVals s (.slice A s.su.length c) (.slice B s.re.length d))
    obtain ⟨t0, t1, t2, t3, t4, t5, t6, t7, t8⟩ := set_cells bF
    refine bodyPost_ret (v := .agg #[.int .i64 s.pl, .slice A s.su.length c, .int .i64 s.wi, .int .i64 s.dr, .int .i64 s.fl, .int .i64 s.co, .int .i64 s.me, .int .i64 s.de, .slice B s.re.length d]) ?_ rfl ⟨_, s, rfl, hi.row bR3 (by decide) _, hc, hs3.row (by omega) _, b3.row (Nat.le_refl _) _⟩
    simp [results, Try.results28, go_sem, t0, t1, t2, t3, t4, t5, t6, t7, t8]
  · go_wp2_with fail
    refine (BigF_any _).mono ?_
    rintro e w3 ⟨v, rfl, hi, hg3⟩
    have bR3 := bR1.grow hg3
    have b3 := b1.trans (But.of_grow hg3)
    have hs3 := hs1.grow hg3
    obtain ⟨s, hs9⟩ : ∃ s, s = bigT := ⟨_, rfl⟩
    rw [← hs9] at hi
    have HC := hid (show chkErr s = 0 by rw [hs9]; exact big_valid)
    clear hs9
    have HX := hid (And.intro (And.intro bR3 b3) (And.intro hi hs3))
    obtain ⟨A, c, B, d, rfl, h1, h2⟩ := hi.is.open_
    clear h1 h2 hs3 bR3 b3 hi hg3 bR1 b1 hs1
    go_wp2_with (refine wpList_store_row (by rfl) 24 (.tmp 2) (.tmp 5) (by rfl) w.heap.size #[.int .i64 s.pl, .slice A s.su.length c, .int .i64 s.wi, .int .i64 s.dr, .int .i64 s.fl, .int .i64 s.co, .int .i64 s.me, .int .i64 s.de, .slice B s.re.length d] (by rfl) (by rfl) 24 _ HX.out.1.1 (by kernel_rfl) (by rfl) (by simp [Value.oneCell']) ?_)
    obtain ⟨⟨bR3, b3⟩, hi, hs3⟩ := HX.out
    have bF := Blk.row bR3 (setVals s (.slice A s.su.length c) (.slice B s.re.length d))
    obtain ⟨t0, t1, t2, t3, t4, t5, t6, t7, t8⟩ := set_cells bF
    refine bodyPost_ret (v := .agg #[.int .i64 s.pl, .slice A s.su.length c, .int .i64 s.wi, .int .i64 s.dr, .int .i64 s.fl, .int .i64 s.co, .int .i64 s.me, .int .i64 s.de, .slice B s.re.length d]) ?_ rfl ⟨_, s, rfl, hi.row bR3 (by decide) _, HC.out, hs3.row (by omega) _, b3.row (Nat.le_refl _) _⟩
    simp [results, Try.results28, go_sem, t0, t1, t2, t3, t4, t5, t6, t7, t8]
end Go.Proofs.Ytjiahcfegfimmaa

/-
  After goes round the suit: in plain terms. What a law knows of the set that it made.
-/
namespace Go.Proofs.Ytjiahcfegfimmaa
open Go.RowKit

theorem But.grow_from {g : Nat} {w w1 w2 : World} (h : Grow w w1) (hg : w.heap.size ≤ g) (hb : But g w1 w2) : Grow w w2 :=
  ⟨hb.os.trans h.os, hb.tape.trans h.tape, hb.output.trans h.output, Nat.le_trans h.size hb.size, fun k hk => (hb.block k (Nat.lt_of_lt_of_le hk h.size) (by simp; omega)).trans (h.block k hk)⟩
/-- The set lies in a block of its own. -/
def setRowW (w : World) (s : TSet) (a b : Value) : World := (w.alloc (.cells #[.int .i64 0, .slice none 0 0, .int .i64 0, .int .i64 0, .int .i64 0, .int .i64 0, .int .i64 0, .int .i64 0, .slice none 0 0] 24)).setRow w.heap.size #[.int .i64 s.pl, a, .int .i64 s.wi, .int .i64 s.dr, .int .i64 s.fl, .int .i64 s.co, .int .i64 s.me, .int .i64 s.de, b]
theorem set_head {w w1 w2 : World} {g : Nat} {s : TSet} {A B : Option Addr} {c d : Nat} (hw : Grow w w1) (hg : w.heap.size ≤ g) (hb : But g w1 w2) (hi : IsSetF w2 (.agg #[.int .i64 s.pl, .slice A s.su.length c, .int .i64 s.wi, .int .i64 s.dr, .int .i64 s.fl, .int .i64 s.co, .int .i64 s.me, .int .i64 s.de, .slice B s.re.length d]) s) :
    Blk (setRowW w2 s (.slice A s.su.length c) (.slice B s.re.length d)) w2.heap.size 24 (setVals s (.slice A s.su.length c) (.slice B s.re.length d)) ∧ IsSet (setRowW w2 s (.slice A s.su.length c) (.slice B s.re.length d)) (.agg #[.int .i64 s.pl, .slice A s.su.length c, .int .i64 s.wi, .int .i64 s.dr, .int .i64 s.fl, .int .i64 s.co, .int .i64 s.me, .int .i64 s.de, .slice B s.re.length d]) s ∧ Grow w (setRowW w2 s (.slice A s.su.length c) (.slice B s.re.length d)) ∧ w2.heap.size < (setRowW w2 s (.slice A s.su.length c) (.slice B s.re.length d)).heap.size := by
  have b0 : Blk (w2.alloc (.cells #[.int .i64 0, .slice none 0 0, .int .i64 0, .int .i64 0, .int .i64 0, .int .i64 0, .int .i64 0, .int .i64 0, .slice none 0 0] 24)) w2.heap.size 24 [.int .i64 0, .slice none 0 0, .int .i64 0, .int .i64 0, .int .i64 0, .int .i64 0, .int .i64 0, .int .i64 0, .slice none 0 0] := Blk.new_at rfl
  have g0 := But.grow_from hw hg hb
  have bF : Blk (setRowW w2 s (.slice A s.su.length c) (.slice B s.re.length d)) w2.heap.size 24 (setVals s (.slice A s.su.length c) (.slice B s.re.length d)) := Blk.row b0 (setVals s (.slice A s.su.length c) (.slice B s.re.length d))
  refine ⟨bF, ((hi.grow ((Grow.refl _).alloc _)).row b0 (by decide) _).is, ⟨?_, ?_, ?_, ?_, ?_⟩, bF.lt⟩
  · exact g0.os
  · exact g0.tape
  · exact g0.output
  · have := (g0.alloc (.cells #[.int .i64 0, .slice none 0 0, .int .i64 0, .int .i64 0, .int .i64 0, .int .i64 0, .int .i64 0, .int .i64 0, .slice none 0 0] 24)).size
    simpa [setRowW, World.setRow] using this
  · intro k hk
    exact (setRow_other _ _ _ _ (by have := g0.size; omega)).trans ((g0.alloc _).block k hk)

theorem isSet_su {w : World} {s : TSet} {A B : Option Addr} {c d : Nat} (h : IsSet w (.agg #[.int .i64 s.pl, .slice A s.su.length c, .int .i64 s.wi, .int .i64 s.dr, .int .i64 s.fl, .int .i64 s.co, .int .i64 s.me, .int .i64 s.de, .slice B s.re.length d]) s) : IsInts w (.slice A s.su.length c) s.su := by
  obtain ⟨a, b, e, h1, -⟩ := h
  simp at e
  obtain ⟨rfl, -⟩ := e
  exact h1
theorem isSet_re {w : World} {s : TSet} {A B : Option Addr} {c d : Nat} (h : IsSet w (.agg #[.int .i64 s.pl, .slice A s.su.length c, .int .i64 s.wi, .int .i64 s.dr, .int .i64 s.fl, .int .i64 s.co, .int .i64 s.me, .int .i64 s.de, .slice B s.re.length d]) s) : IsInts w (.slice B s.re.length d) s.re := by
  obtain ⟨a, b, e, -, h1⟩ := h
  simp at e
  obtain ⟨-, rfl⟩ := e
  exact h1

theorem place_row {s : TSet} {k su r : Int} (h : placeP s k = (su, r)) (h4 : su ≠ -4) :
    SuitOk s su ∧ 0 ≤ r ∧ r < lenI s su ∧ lenI s su ≤ 9 ∧ 0 ≤ k - r ∧ k - r ≤ 50 ∧ ∀ i : Nat, (i : Int) < lenI s su → placeP s (k - r + i) = (su, (i : Int)) := by
  have e : chkErr s = 0 := by
    by_cases e : chkErr s = 0
    · exact e
    · rw [place_bad k e] at h; injection h with h _; omega
  have V := valid_of e
  have v1 := V.wi
  have v2 := V.dr
  have v3 := V.fl
  have v5 := V.sum
  have hin : ¬ (k < 0 ∨ ((allP s).length : Int) ≤ k) := fun hk => by rw [place_out hk] at h; injection h with h _; omega
  have hm := place_in (s := s) (k := k) (by omega) (by omega)
  rw [h] at hm
  rcases place_cases e hm with ⟨j, q, ⟨hj, hq, hk⟩, h2⟩ | ⟨q, hq, hk, h2⟩ | ⟨q, hq, hk, h2⟩ | ⟨q, hq, hk, h2⟩
  · simp only at hk h2
    injection h2 with h2 h3
    subst h2 h3
    have hz := V.su s.su[j] (List.getElem_mem hj)
    have hb := sumI_bound (l := s.su.take j) fun z hz => V.su z (List.mem_of_mem_take hz)
    rw [List.length_take] at hb
    have h3 := V.su3
    rw [lenI_suit hj]
    refine ⟨.inr (.inr (.inr ⟨by omega, by omega⟩)), by omega, hq, hz.2, by omega, by omega, fun i hi => ?_⟩
    rw [show k - (q : Int) + (i : Int) = sumI (s.su.take j) + i by omega]
    exact place_mem (mem_suit e ⟨hj, hi, rfl⟩)
  · simp only at hk h2
    injection h2 with h2 h3
    subst h2 h3
    have hl : lenI s (-1) = s.wi := rfl
    rw [hl]
    refine ⟨.inl rfl, by omega, hq, by omega, by omega, by omega, fun i hi => ?_⟩
    rw [show k - (q : Int) + (i : Int) = sumI s.su + i by omega]
    exact place_mem (mem_wind e hi)
  · simp only at hk h2
    injection h2 with h2 h3
    subst h2 h3
    have hl : lenI s (-2) = s.dr := rfl
    rw [hl]
    refine ⟨.inr (.inl rfl), by omega, hq, by omega, by omega, by omega, fun i hi => ?_⟩
    rw [show k - (q : Int) + (i : Int) = sumI s.su + s.wi + i by omega]
    exact place_mem (mem_dragon e hi)
  · simp only at hk h2
    injection h2 with h2 h3
    subst h2 h3
    have hl : lenI s (-3) = s.fl := rfl
    rw [hl]
    refine ⟨.inr (.inr (.inl rfl)), by omega, hq, by omega, by omega, by omega, fun i hi => ?_⟩
    rw [show k - (q : Int) + (i : Int) = sumI s.su + s.wi + s.dr + i by omega]
    exact place_mem (mem_flower e hi)

theorem rounds_law {s : TSet} {k su r : Int} (h : placeP s k = (su, r)) (h4 : su ≠ -4) :
    ∃ F : Nat → Int, F 0 = k ∧ (∀ n, afterI s (F n) = F (n + 1)) ∧ (∀ n, (placeP s (F n)).1 = su) ∧ (∀ n : Nat, 1 ≤ n → (n : Int) ≤ lenI s su → (F n = k ↔ (n : Int) = lenI s su)) ∧ ∀ n, 0 ≤ F n ∧ F n ≤ 60 := by
  obtain ⟨-, h0, h1, h9, hk0, hk1, hp⟩ := place_row h h4
  have hm : ∀ n : Nat, 0 ≤ (r + n) % lenI s su ∧ (r + n) % lenI s su < lenI s su := fun n => ⟨Int.emod_nonneg _ (by omega), Int.emod_lt_of_pos _ (by omega)⟩
  have hpl : ∀ n : Nat, placeP s (k - r + (r + n) % lenI s su) = (su, (r + n) % lenI s su) := fun n => by
    have := hm n
    have h := hp ((r + n) % lenI s su).toNat (by omega)
    rwa [Int.toNat_of_nonneg this.1] at h
  refine ⟨fun n => k - r + (r + n) % lenI s su, ?_, fun n => ?_, fun n => by rw [hpl], fun n hn hn2 => ?_, fun n => ?_⟩
  · show k - r + (r + ((0 : Nat) : Int)) % lenI s su = k
    rw [Int.emod_eq_of_lt (by omega) (by omega)]; omega
  · have e := hpl n
    unfold afterI
    rw [e]
    simp only
    rw [if_neg h4]
    have : ((r + (n : Int)) % lenI s su + 1) % lenI s su = (r + ((n + 1 : Nat) : Int)) % lenI s su := by
      rw [Int.emod_add_emod]; congr 1; omega
    rw [this]; omega
  · show k - r + (r + (n : Int)) % lenI s su = k ↔ _
    generalize lenI s su = m at *
    by_cases he : (n : Int) = m
    · rw [he, Int.add_emod_right, Int.emod_eq_of_lt h0 h1]; constructor <;> omega
    · constructor
      · intro hh
        have h3 : (r + (n : Int)) % m = r := by omega
        by_cases hlt : r + (n : Int) < m
        · rw [Int.emod_eq_of_lt (by omega) hlt] at h3; omega
        · rw [← Int.sub_emod_right, Int.emod_eq_of_lt (by omega) (by omega)] at h3; omega
      · intro hh; exact absurd hh he
  · have := hm n
    simp only
    omega
end Go.Proofs.Ytjiahcfegfimmaa
