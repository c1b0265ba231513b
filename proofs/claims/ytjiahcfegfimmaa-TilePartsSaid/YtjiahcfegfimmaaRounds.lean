/-
  After goes round the suit: in plain terms. What a law knows of the set that it made.
-/
import Derived.Test.YtjiahcfegfimmaaAfter
import Derived.Test.YtjiahcfegfimmaaSetOf
namespace Go.Proofs.Ytjiahcfegfimmaa
open Go.RowKit

theorem But.grow_from {g : Nat} {w w1 w2 : World} (h : Grow w w1) (hg : w.heap.size ≤ g) (hb : But g w1 w2) : Grow w w2 :=
  ⟨hb.os.trans h.os, hb.tape.trans h.tape, hb.output.trans h.output, Nat.le_trans h.size hb.size, fun k hk => (hb.block k (Nat.lt_of_lt_of_le hk h.size) (by simp; omega)).trans (h.block k hk)⟩
/-- The set lies in a block of its own. -/
def setRowW (w : World) (s : TSet) (a b : Value) : World := (w.alloc (.cells #[.int .i64 0, .slice none 0 0, .int .i64 0, .int .i64 0, .int .i64 0, .int .i64 0, .int .i64 0, .int .i64 0, .slice none 0 0] 24)).setRow w.heap.size #[.int .i64 s.pl, a, .int .i64 s.wi, .int .i64 s.dr, .int .i64 s.fl, .int .i64 s.co, .int .i64 s.me, .int .i64 s.de, b]
theorem set_head {w w1 w2 : World} {g : Nat} {s : TSet} {A B : Option Addr} {c d : Nat} (hw : Grow w w1) (hg : w.heap.size ≤ g) (hb : But g w1 w2) (hi : IsSetF w2 (.agg #[.int .i64 s.pl, .slice A s.su.length c, .int .i64 s.wi, .int .i64 s.dr, .int .i64 s.fl, .int .i64 s.co, .int .i64 s.me, .int .i64 s.de, .slice B s.re.length d]) s) :
    Blk (setRowW w2 s (.slice A s.su.length c) (.slice B s.re.length d)) w2.heap.size 24 (setVals s (.slice A s.su.length c) (.slice B s.re.length d)) ∧ IsSet (setRowW w2 s (.slice A s.su.length c) (.slice B s.re.length d)) (.agg #[.int .i64 s.pl, .slice A s.su.length c, .int .i64 s.wi, .int .i64 s.dr, .int .i64 s.fl, .int .i64 s.co, .int .i64 s.me, .int .i64 s.de, .slice B s.re.length d]) s ∧ Grow w (setRowW w2 s (.slice A s.su.length c) (.slice B s.re.length d)) ∧ w2.heap.size < (setRowW w2 s (.slice A s.su.length c) (.slice B s.re.length d)).heap.size := by
  have b0 : Blk (w2.alloc (.cells #[.int .i64 0, .slice none 0 0, .int .i64 0, .int .i64 0, .int .i64 0, .int .i64 0, .int .i64 0, .int .i64 0, .slice none 0 0] 24)) w2.heap.size 24 [.int .i64 0, .slice none 0 0, .int .i64 0, .int .i64 0, .int .i64 0, .int .i64 0, .int .i64 0, .int .i64 0, .slice none 0 0] := Blk.new_at rfl
  have g0 := But.grow_from hw hg hb
  have bF : Blk (setRowW w2 s (.slice A s.su.length c) (.slice B s.re.length d)) w2.heap.size 24 (setVals s (.slice A s.su.length c) (.slice B s.re.length d)) := Blk.row b0 (setVals s (.slice A s.su.length c) (.slice B s.re.length d))
  refine ⟨bF, ((hi.grow ((Grow.refl _).alloc _)).row b0 (by decide) _).is, ⟨?_, ?_, ?_, ?_, ?_⟩, bF.lt⟩
  · exact g0.os
  · exact g0.tape
  · exact g0.output
  · have := (g0.alloc (.cells #[.int .i64 0, .slice none 0 0, .int .i64 0, .int .i64 0, .int .i64 0, .int .i64 0, .int .i64 0, .int .i64 0, .slice none 0 0] 24)).size
    simpa [setRowW, World.setRow] using this
  · intro k hk
    exact (setRow_other _ _ _ _ (by have := g0.size; omega)).trans ((g0.alloc _).block k hk)

theorem isSet_su {w : World} {s : TSet} {A B : Option Addr} {c d : Nat} (h : IsSet w (.agg #[.int .i64 s.pl, .slice A s.su.length c, .int .i64 s.wi, .int .i64 s.dr, .int .i64 s.fl, .int .i64 s.co, .int .i64 s.me, .int .i64 s.de, .slice B s.re.length d]) s) : IsInts w (.slice A s.su.length c) s.su := by
  obtain ⟨a, b, e, h1, -⟩ := h
  simp at e
  obtain ⟨rfl, -⟩ := e
  exact h1
theorem isSet_re {w : World} {s : TSet} {A B : Option Addr} {c d : Nat} (h : IsSet w (.agg #[.int .i64 s.pl, .slice A s.su.length c, .int .i64 s.wi, .int .i64 s.dr, .int .i64 s.fl, .int .i64 s.co, .int .i64 s.me, .int .i64 s.de, .slice B s.re.length d]) s) : IsInts w (.slice B s.re.length d) s.re := by
  obtain ⟨a, b, e, -, h1⟩ := h
  simp at e
  obtain ⟨-, rfl⟩ := e
  exact h1

theorem place_row {s : TSet} {k su r : Int} (h : placeP s k = (su, r)) (h4 : su ≠ -4) :
    SuitOk s su ∧ 0 ≤ r ∧ r < lenI s su ∧ lenI s su ≤ 9 ∧ 0 ≤ k - r ∧ k - r ≤ 50 ∧ ∀ i : Nat, (i : Int) < lenI s su → placeP s (k - r + i) = (su, (i : Int)) := by
  have e : chkErr s = 0 := by
    by_cases e : chkErr s = 0
    · exact e
    · rw [place_bad k e] at h; injection h with h _; omega
  have V := valid_of e
  have v1 := V.wi
  have v2 := V.dr
  have v3 := V.fl
  have v5 := V.sum
  have hin : ¬ (k < 0 ∨ ((allP s).length : Int) ≤ k) := fun hk => by rw [place_out hk] at h; injection h with h _; omega
  have hm := place_in (s := s) (k := k) (by omega) (by omega)
  rw [h] at hm
  rcases place_cases e hm with ⟨j, q, ⟨hj, hq, hk⟩, h2⟩ | ⟨q, hq, hk, h2⟩ | ⟨q, hq, hk, h2⟩ | ⟨q, hq, hk, h2⟩
  · simp only at hk h2
    injection h2 with h2 h3
    subst h2 h3
    have hz := V.su s.su[j] (List.getElem_mem hj)
    have hb := sumI_bound (l := s.su.take j) fun z hz => V.su z (List.mem_of_mem_take hz)
    rw [List.length_take] at hb
    have h3 := V.su3
    rw [lenI_suit hj]
    refine ⟨.inr (.inr (.inr ⟨by omega, by omega⟩)), by omega, hq, hz.2, by omega, by omega, fun i hi => ?_⟩
    rw [show k - (q : Int) + (i : Int) = sumI (s.su.take j) + i by omega]
    exact place_mem (mem_suit e ⟨hj, hi, rfl⟩)
  · simp only at hk h2
    injection h2 with h2 h3
    subst h2 h3
    have hl : lenI s (-1) = s.wi := rfl
    rw [hl]
    refine ⟨.inl rfl, by omega, hq, by omega, by omega, by omega, fun i hi => ?_⟩
    rw [show k - (q : Int) + (i : Int) = sumI s.su + i by omega]
    exact place_mem (mem_wind e hi)
  · simp only at hk h2
    injection h2 with h2 h3
    subst h2 h3
    have hl : lenI s (-2) = s.dr := rfl
    rw [hl]
    refine ⟨.inr (.inl rfl), by omega, hq, by omega, by omega, by omega, fun i hi => ?_⟩
    rw [show k - (q : Int) + (i : Int) = sumI s.su + s.wi + i by omega]
    exact place_mem (mem_dragon e hi)
  · simp only at hk h2
    injection h2 with h2 h3
    subst h2 h3
    have hl : lenI s (-3) = s.fl := rfl
    rw [hl]
    refine ⟨.inr (.inr (.inl rfl)), by omega, hq, by omega, by omega, by omega, fun i hi => ?_⟩
    rw [show k - (q : Int) + (i : Int) = sumI s.su + s.wi + s.dr + i by omega]
    exact place_mem (mem_flower e hi)

theorem rounds_law {s : TSet} {k su r : Int} (h : placeP s k = (su, r)) (h4 : su ≠ -4) :
    ∃ F : Nat → Int, F 0 = k ∧ (∀ n, afterI s (F n) = F (n + 1)) ∧ (∀ n, (placeP s (F n)).1 = su) ∧ (∀ n : Nat, 1 ≤ n → (n : Int) ≤ lenI s su → (F n = k ↔ (n : Int) = lenI s su)) ∧ ∀ n, 0 ≤ F n ∧ F n ≤ 60 := by
  obtain ⟨-, h0, h1, h9, hk0, hk1, hp⟩ := place_row h h4
  have hm : ∀ n : Nat, 0 ≤ (r + n) % lenI s su ∧ (r + n) % lenI s su < lenI s su := fun n => ⟨Int.emod_nonneg _ (by omega), Int.emod_lt_of_pos _ (by omega)⟩
  have hpl : ∀ n : Nat, placeP s (k - r + (r + n) % lenI s su) = (su, (r + n) % lenI s su) := fun n => by
    have := hm n
    have h := hp ((r + n) % lenI s su).toNat (by omega)
    rwa [Int.toNat_of_nonneg this.1] at h
  refine ⟨fun n => k - r + (r + n) % lenI s su, ?_, fun n => ?_, fun n => by rw [hpl], fun n hn hn2 => ?_, fun n => ?_⟩
  · show k - r + (r + ((0 : Nat) : Int)) % lenI s su = k
    rw [Int.emod_eq_of_lt (by omega) (by omega)]; omega
  · have e := hpl n
    unfold afterI
    rw [e]
    simp only
    rw [if_neg h4]
    have : ((r + (n : Int)) % lenI s su + 1) % lenI s su = (r + ((n + 1 : Nat) : Int)) % lenI s su := by
      rw [Int.emod_add_emod]; congr 1; omega
    rw [this]; omega
  · show k - r + (r + (n : Int)) % lenI s su = k ↔ _
    generalize lenI s su = m at *
    by_cases he : (n : Int) = m
    · rw [he, Int.add_emod_right, Int.emod_eq_of_lt h0 h1]; constructor <;> omega
    · constructor
      · intro hh
        have h3 : (r + (n : Int)) % m = r := by omega
        by_cases hlt : r + (n : Int) < m
        · rw [Int.emod_eq_of_lt (by omega) hlt] at h3; omega
        · rw [← Int.sub_emod_right, Int.emod_eq_of_lt (by omega) (by omega)] at h3; omega
      · intro hh; exact absurd hh he
  · have := hm n
    simp only
    omega
end Go.Proofs.Ytjiahcfegfimmaa
