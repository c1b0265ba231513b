/-
  Walks of count, Kinds, Size, Kind, and of the reference's.
-/
import Derived.Test.YtjiahcfegfimmaaKnown06
namespace Go.Proofs.Ytjiahcfegfimmaa
open Go.RowKit

theorem set_cells {w : World} {T : Nat} {s : TSet} {a b : Value} (h : Blk w T 24 (setVals s a b)) : w.cell? ⟨T, 0, none⟩ = some (.int .i64 s.pl) ∧ w.cell? ⟨T, 1, none⟩ = some a ∧ w.cell? ⟨T, 2, none⟩ = some (.int .i64 s.wi) ∧ w.cell? ⟨T, 3, none⟩ = some (.int .i64 s.dr) ∧ w.cell? ⟨T, 4, none⟩ = some (.int .i64 s.fl) ∧ w.cell? ⟨T, 5, none⟩ = some (.int .i64 s.co) ∧ w.cell? ⟨T, 6, none⟩ = some (.int .i64 s.me) ∧ w.cell? ⟨T, 7, none⟩ = some (.int .i64 s.de) ∧ w.cell? ⟨T, 8, none⟩ = some b :=
  ⟨h.cell 0, h.cell 1, h.cell 2, h.cell 3, h.cell 4, h.cell 5, h.cell 6, h.cell 7, h.cell 8⟩
def kindsI (s : TSet) : Int := if chkErr s = 0 then plainI s else 0
def sizeI (s : TSet) : Int := if chkErr s = 0 then plainI s * s.co + s.fl else 0
/-- The kind of a tile. -/
def kindI (s : TSet) (t : Int) : Int := if t < 0 ∨ sizeI s ≤ t then -1 else if plainI s * s.co ≤ t then plainI s + t - plainI s * s.co else t / s.co
theorem kinds_ok {s : TSet} (h : chkErr s = 0) : kindsI s = plainI s := if_pos h
theorem kinds_bad {s : TSet} (h : chkErr s ≠ 0) : kindsI s = 0 := if_neg h
theorem size_ok {s : TSet} (h : chkErr s = 0) : sizeI s = plainI s * s.co + s.fl := if_pos h
theorem size_bad {s : TSet} (h : chkErr s ≠ 0) : sizeI s = 0 := if_neg h
theorem Valid.tiles {s : TSet} (h : Valid s) : 0 ≤ plainI s * s.co ∧ plainI s * s.co ≤ 136 := mul_136 ⟨by have := h.plain; omega, h.plain.2⟩ h.co


theorem count_any (v : Value) (s : TSet) (w : World) (h : IsSet w v s) : Calls Try.prog 88 #[v] w (Gives w (.int .i64 (kindsI s))) := by
  have hfin : ∀ r wf, kindsI s = r → Grow w wf → Gives w (.int .i64 (kindsI s)) (.returned (.int .i64 r)) wf := fun r wf h hg => ⟨by rw [h], hg⟩
  have HF := hid hfin
  have CH := hid (fun W (hg : Grow w W) => Check_any v s W (h.grow hg))
  clear hfin
  have HI := hid h
  obtain ⟨A, c, B, d, rfl, h1, h2⟩ := h.open_
  obtain ⟨_, _, e1, c1, m1, r1⟩ := h1
  obtain ⟨_, _, e2, d1, m2, r2⟩ := h2
  injection e1 with e1 _ e1'
  injection e2 with e2 _ e2'
  subst e1 e1' e2 e2'
  unfold maxLen at m1 m2
  have HG0 := hid (show Grow w (w.alloc (.cells #[.int .i64 s.pl, .slice A s.su.length c, .int .i64 s.wi, .int .i64 s.dr, .int .i64 s.fl, .int .i64 s.co, .int .i64 s.me, .int .i64 s.de, .slice B s.re.length d] 24)) from (Grow.refl w).alloc _)
  have HB0 := hid (show Blk (w.alloc (.cells #[.int .i64 s.pl, .slice A s.su.length c, .int .i64 s.wi, .int .i64 s.dr, .int .i64 s.fl, .int .i64 s.co, .int .i64 s.me, .int .i64 s.de, .slice B s.re.length d] 24)) w.heap.size 24 (setVals s (.slice A s.su.length c) (.slice B s.re.length d)) from heap_alloc_new w _)
  clear h
  by_cases e : chkErr s = 0
  · have V := valid_of e
    have HE := hid (kinds_ok e)
    have ne : (chkErr s != 0) = false := by simp [e]
    have HP := hid (fun k => sumI_bound (l := s.su.take k) fun z hz => V.su z (List.mem_of_mem_take hz))
    have HS := hid V.su
    have v1 := V.wi
    have v2 := V.dr
    have v3 := V.su3
    clear e V
    generalize chkErr s = n at *
    go_enter Try.func88, Try.ntmps88
    go_wp2_with (go_at_call 38; refine (CH.out _ HG0.out).mono ?_; rintro e w1 ⟨rfl, hg1⟩; have hg := HG0.out.trans hg1; obtain ⟨c0, c1, c2, c3, c4, c5, c6, c7, c8⟩ := set_cells (HB0.out.grow hg1))
    go_loop [3, 17] (fun z i => ∃ k : Nat, k ≤ s.su.length ∧ i = .int .i64 (k : Int) ∧ z = .int .i64 (s.wi + s.dr + sumI (s.su.take k))) (fun _ i => s.su.length - (intOf i).toNat)
    case atStart => exact ⟨0, Nat.zero_le _, rfl, by simp [sumI]⟩
    case round =>
      obtain ⟨k, hk, rfl, rfl⟩ := hrel
      have hb := HP.out k
      rw [List.length_take, Nat.min_eq_left hk] at hb
      by_cases hlt : k < s.su.length
      · obtain ⟨ad, rfl, _, hx⟩ := (r1.grow hg).int hlt
        have i0 : (0 : Int) ≤ (k : Int) := by omega
        have i1 : (k : Int) < (s.su.length : Int) := by omega
        have hz := HS.out s.su[k] (List.getElem_mem hlt)
        have HT := hid (sumI_take s.su hlt)
        go_wp2
        exact ⟨⟨k + 1, by omega, by go_num, by rw [HT.out, Int.add_assoc (s.wi + s.dr)]⟩, by simp only [intOf]; omega⟩
      · obtain rfl : k = s.su.length := by omega
        have HE2 := hid (show kindsI s = s.wi + s.dr + sumI s.su from HE.out)
        go_wp2
        go_ret
        exact HF.out _ _ HE2.out hg
  · have HE := hid (kinds_bad e)
    have ne : (chkErr s != 0) = true := by simp [e]
    clear e
    generalize chkErr s = n at *
    go_enter Try.func88, Try.ntmps88
    go_wp2_with (go_at_call 38; refine (CH.out _ HG0.out).mono ?_; rintro e w1 ⟨rfl, hg1⟩; have hg := HG0.out.trans hg1)
    go_ret
    exact HF.out _ _ HE.out hg

theorem Kinds_any (v : Value) (s : TSet) (w : World) (h : IsSet w v s) : Calls Try.prog 40 #[v] w (Gives w (.int .i64 (kindsI s))) := by
  have CO := hid (fun W (hg : Grow w W) => count_any v s W (h.grow hg))
  have HI := hid h
  obtain ⟨A, c, B, d, rfl, h1, h2⟩ := h.open_
  obtain ⟨_, _, e1, c1, m1, r1⟩ := h1
  obtain ⟨_, _, e2, d1, m2, r2⟩ := h2
  injection e1 with e1 _ e1'
  injection e2 with e2 _ e2'
  subst e1 e1' e2 e2'
  unfold maxLen at m1 m2
  have HG0 := hid (show Grow w (w.alloc (.cells #[.int .i64 s.pl, .slice A s.su.length c, .int .i64 s.wi, .int .i64 s.dr, .int .i64 s.fl, .int .i64 s.co, .int .i64 s.me, .int .i64 s.de, .slice B s.re.length d] 24)) from (Grow.refl w).alloc _)
  have HB0 := hid (show Blk (w.alloc (.cells #[.int .i64 s.pl, .slice A s.su.length c, .int .i64 s.wi, .int .i64 s.dr, .int .i64 s.fl, .int .i64 s.co, .int .i64 s.me, .int .i64 s.de, .slice B s.re.length d] 24)) w.heap.size 24 (setVals s (.slice A s.su.length c) (.slice B s.re.length d)) from heap_alloc_new w _)
  clear h
  generalize kindsI s = n at *
  go_enter Try.func40, Try.ntmps40
  go_wp2_with (go_at_call 88; refine (CO.out _ HG0.out).mono ?_; rintro e w1 ⟨rfl, hg1⟩; have hg := HG0.out.trans hg1)
  go_ret
  exact ⟨rfl, hg⟩

theorem Size_any (v : Value) (s : TSet) (w : World) (h : IsSet w v s) : Calls Try.prog 30 #[v] w (Gives w (.int .i64 (sizeI s))) := by
  have hfin : ∀ r wf, sizeI s = r → Grow w wf → Gives w (.int .i64 (sizeI s)) (.returned (.int .i64 r)) wf := fun r wf h hg => ⟨by rw [h], hg⟩
  have HF := hid hfin
  have CO := fun W (hg : Grow w W) => count_any v s W (h.grow hg)
  clear hfin
  have HI := hid h
  obtain ⟨A, c, B, d, rfl, h1, h2⟩ := h.open_
  obtain ⟨_, _, e1, c1, m1, r1⟩ := h1
  obtain ⟨_, _, e2, d1, m2, r2⟩ := h2
  injection e1 with e1 _ e1'
  injection e2 with e2 _ e2'
  subst e1 e1' e2 e2'
  unfold maxLen at m1 m2
  have HG0 := hid (show Grow w (w.alloc (.cells #[.int .i64 s.pl, .slice A s.su.length c, .int .i64 s.wi, .int .i64 s.dr, .int .i64 s.fl, .int .i64 s.co, .int .i64 s.me, .int .i64 s.de, .slice B s.re.length d] 24)) from (Grow.refl w).alloc _)
  have HB0 := hid (show Blk (w.alloc (.cells #[.int .i64 s.pl, .slice A s.su.length c, .int .i64 s.wi, .int .i64 s.dr, .int .i64 s.fl, .int .i64 s.co, .int .i64 s.me, .int .i64 s.de, .slice B s.re.length d] 24)) w.heap.size 24 (setVals s (.slice A s.su.length c) (.slice B s.re.length d)) from heap_alloc_new w _)
  clear h
  by_cases e : chkErr s = 0
  · have V := valid_of e
    have HE := hid (size_ok e)
    rw [kinds_ok e] at CO
    have CO := hid CO
    have v1 := V.plain
    have v2 := V.tiles
    have v3 := V.fl
    clear e V
    generalize plainI s = n at *
    go_enter Try.func30, Try.ntmps30
    go_wp2_with (go_at_call 88; refine (CO.out _ HG0.out).mono ?_; rintro e w1 ⟨rfl, hg1⟩; have hg := HG0.out.trans hg1; obtain ⟨c0, c1, c2, c3, c4, c5, c6, c7, c8⟩ := set_cells (HB0.out.grow hg1))
    go_ret
    exact HF.out _ _ HE.out hg
  · have HE := hid (size_bad e)
    rw [kinds_bad e] at CO
    have CO := hid CO
    clear e
    go_enter Try.func30, Try.ntmps30
    go_wp2_with (go_at_call 88; refine (CO.out _ HG0.out).mono ?_; rintro e w1 ⟨rfl, hg1⟩; have hg := HG0.out.trans hg1)
    go_ret
    exact HF.out _ _ HE.out hg

theorem plain_ok (v : Value) (s : TSet) (w : World) (h : IsSet w v s) (V : Valid s) : Calls Try.prog 92 #[v] w (Gives w (.int .i64 (plainI s))) := plain_any v s w h V.su3 V.su V.wi V.dr
theorem rKinds_any (v : Value) (s : TSet) (w : World) (h : IsSet w v s) : Calls Try.prog 41 #[v] w (Gives w (.int .i64 (kindsI s))) := by
  have hfin : ∀ r wf, kindsI s = r → Grow w wf → Gives w (.int .i64 (kindsI s)) (.returned (.int .i64 r)) wf := fun r wf h hg => ⟨by rw [h], hg⟩
  have HF := hid hfin
  have CH := hid (fun W (hg : Grow w W) => rCheck_any v s W (h.grow hg))
  have PL := hid (fun W (hg : Grow w W) (V : Valid s) => plain_ok v s W (h.grow hg) V)
  clear hfin
  have HI := hid h
  obtain ⟨A, c, B, d, rfl, h1, h2⟩ := h.open_
  obtain ⟨_, _, e1, c1, m1, r1⟩ := h1
  obtain ⟨_, _, e2, d1, m2, r2⟩ := h2
  injection e1 with e1 _ e1'
  injection e2 with e2 _ e2'
  subst e1 e1' e2 e2'
  unfold maxLen at m1 m2
  have HG0 := hid (show Grow w (w.alloc (.cells #[.int .i64 s.pl, .slice A s.su.length c, .int .i64 s.wi, .int .i64 s.dr, .int .i64 s.fl, .int .i64 s.co, .int .i64 s.me, .int .i64 s.de, .slice B s.re.length d] 24)) from (Grow.refl w).alloc _)
  have HB0 := hid (show Blk (w.alloc (.cells #[.int .i64 s.pl, .slice A s.su.length c, .int .i64 s.wi, .int .i64 s.dr, .int .i64 s.fl, .int .i64 s.co, .int .i64 s.me, .int .i64 s.de, .slice B s.re.length d] 24)) w.heap.size 24 (setVals s (.slice A s.su.length c) (.slice B s.re.length d)) from heap_alloc_new w _)
  clear h
  by_cases e : chkErr s = 0
  · have V := hid (valid_of e)
    have HE := hid (kinds_ok e)
    have ne : (chkErr s != 0) = false := by simp [e]
    clear e
    generalize chkErr s = n at *
    go_enter Try.func41, Try.ntmps41
    go_wp2_with (first
      | (go_at_call 39; refine (CH.out _ HG0.out).mono ?_; rintro e w1 ⟨rfl, hg1⟩; have hg := HG0.out.trans hg1; obtain ⟨c0, c1, c2, c3, c4, c5, c6, c7, c8⟩ := set_cells (HB0.out.grow hg1))
      | (go_at_call 92; refine (PL.out _ hg V.out).mono ?_; rintro e w2 ⟨rfl, hg2⟩; have hgg := hg.trans hg2))
    go_ret
    exact HF.out _ _ HE.out hgg
  · have HE := hid (kinds_bad e)
    have ne : (chkErr s != 0) = true := by simp [e]
    clear e
    generalize chkErr s = n at *
    go_enter Try.func41, Try.ntmps41
    go_wp2_with (go_at_call 39; refine (CH.out _ HG0.out).mono ?_; rintro e w1 ⟨rfl, hg1⟩; have hg := HG0.out.trans hg1)
    go_ret
    exact HF.out _ _ HE.out hg
end Go.Proofs.Ytjiahcfegfimmaa
