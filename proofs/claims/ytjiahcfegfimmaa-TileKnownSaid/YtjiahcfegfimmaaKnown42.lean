/-
  Walks of BinarySearch, Red and the reference's Red.
-/
import Derived.Test.YtjiahcfegfimmaaKnown24
import Derived.Test.YtjiahcfegfimmaaKnown20
import Derived.Test.YtjiahcfegfimmaaKnown09
import Derived.Outline
namespace Go.Proofs.Ytjiahcfegfimmaa
open Go.RowKit

theorem asc_ge {l : List Int} (h : AscZ l) (h0 : ∀ z ∈ l, 0 ≤ z) : ∀ (i : Nat) (hi : i < l.length), (i : Int) ≤ l[i] := by
  intro i
  induction i with
  | zero => intro hi; exact h0 _ (List.getElem_mem hi)
  | succ i ih =>
    intro hi
    have h1 := ih (by omega)
    have h2 := h i (i + 1) (by omega) hi (by omega)
    omega
theorem reds_len {s : TSet} (V : Valid s) : s.re.length ≤ 34 := by
  have ha := risErr_asc V.re
  have hb := risErr_above V.re
  have hp := V.plain
  rcases Nat.eq_zero_or_pos s.re.length with h | h
  · omega
  · have h1 := asc_ge ha (fun z hz => by have := hb z hz; omega) (s.re.length - 1) (by omega)
    have h2 := hb _ (List.getElem_mem (show s.re.length - 1 < s.re.length by omega))
    omega
theorem isNaNs_any (a : Int) (w : World) : Calls Try.prog 109 #[.int .i64 a] w (Same w (.bool false)) := by
  go_enter Try.func109, Try.ntmps109
  go_wp2
  go_ret
  exact ⟨by simp, rfl⟩
theorem isNaNc_any (a : Int) (w : World) : Calls Try.prog 110 #[.int .i64 a] w (Same w (.bool false)) := by
  go_enter Try.func110, Try.ntmps110
  go_wp2
  go_ret
  exact ⟨by simp, rfl⟩
theorem Less_any (a b : Int) (w : World) : Calls Try.prog 108 #[.int .i64 a, .int .i64 b] w (Same w (.bool (decide (a < b)))) := by
  go_enter Try.func108, Try.ntmps108
  go_wp2_with (go_at_call 110; refine (isNaNc_any _ _).mono ?_; rintro e w1 ⟨rfl, rfl⟩)
  go_ret
  exact ⟨rfl, rfl⟩
def BinRes (zs : List Int) (k : Int) (w : World) (e : Ending) (w' : World) : Prop := ∃ i : Int, e = .returned (.tuple #[.int .i64 i, .bool (decide (k ∈ zs))]) ∧ w = w'
set_option maxRecDepth 100000 in
theorem BinarySearch_any (v : Value) (zs : List Int) (k : Int) (w : World) (h : IsInts w v zs) (ha : AscZ zs) (hl : zs.length ≤ 1000000) : Calls Try.prog 96 #[v, .int .i64 k] w (BinRes zs k w) := by
  obtain ⟨A, c, rfl, hc, hm, hr⟩ := h
  unfold maxLen at hm
  have HA := hid ha
  clear ha
  have hfin : ∀ (i : Int) (b : Bool), decide (k ∈ zs) = b → BinRes zs k w (.returned (.tuple #[.int .i64 i, .bool b])) w := fun i b hb => ⟨i, by rw [hb], rfl⟩
  have HF := hid hfin
  clear hfin
  go_enter Try.func96, Try.ntmps96
  go_wp2
  go_loop [7, 8] (fun i j => ∃ a b : Nat, a ≤ b ∧ b ≤ zs.length ∧ i = .int .i64 (a : Int) ∧ j = .int .i64 (b : Int) ∧ (∀ m (h : m < zs.length), m < a → zs[m] < k) ∧ (∀ m (h : m < zs.length), b ≤ m → k ≤ zs[m])) (fun i j => (intOf j).toNat - (intOf i).toNat)
  case atStart => exact ⟨0, zs.length, Nat.zero_le _, Nat.le_refl _, rfl, rfl, by simp, fun m h hm => absurd hm (by omega)⟩
  case round =>
    obtain ⟨a, b, hab, hbl, rfl, rfl, hlo, hhi⟩ := hrel
    have HLO := hid hlo
    have HHI := hid hhi
    clear hlo hhi
    by_cases hlt : a < b
    · obtain ⟨M, hM⟩ : ∃ M, M = (a + b) / 2 := ⟨_, rfl⟩
      have hm1 : M < zs.length := by omega
      obtain ⟨ad, rfl, _, hx⟩ := hr.int hm1
      have HM := hid (And.intro (show ((a : Int) + (b : Int)) / 2 = (M : Int) by omega) (show a ≤ M ∧ M < b by omega))
      have HS := hid (And.intro (fun (h : zs[M] < k) m (hm : m < zs.length) (hlt : m < M + 1) => (show zs[m] < k by
          by_cases e : m = M
          · subst e; exact h
          · have := HA.out m M hm hm1 (by omega); omega)) (fun (h : ¬ zs[M] < k) m (hm : m < zs.length) (hle : M ≤ m) => (show k ≤ zs[m] by
          by_cases e : m = M
          · subst e; omega
          · have := HA.out M m hm1 hm (by omega); omega)))
      generalize zs[M] = z at *
      have hx2 : w.cell? (ad.add ((a + b) / 2)) = some (.int .i64 z) := by rw [← hM]; exact hx
      clear hx hM
      by_cases hz : z < k
      · go_wp2_with (go_at_call 108; refine (Less_any _ _ _).mono ?_; rintro e w1 ⟨rfl, rfl⟩)
        have := HM.out.1
        exact ⟨⟨M + 1, b, by omega, hbl, by rw [this]; go_num, rfl, HS.out.1 hz, HHI.out⟩, by simp only [intOf]; omega⟩
      · go_wp2_with (go_at_call 108; refine (Less_any _ _ _).mono ?_; rintro e w1 ⟨rfl, rfl⟩)
        have := HM.out.1
        exact ⟨⟨a, M, by omega, by omega, rfl, by rw [this], HLO.out, HS.out.2 hz⟩, by simp only [intOf]; omega⟩
    · obtain rfl : a = b := by omega
      have ge : ¬ (a : Int) < (a : Int) := by omega
      by_cases hal : a < zs.length
      · obtain ⟨ad, rfl, _, hx⟩ := hr.int hal
        have i0 : (0 : Int) ≤ (a : Int) := by omega
        have i1 : (a : Int) < (zs.length : Int) := by omega
        have HB := hid (bin_found HLO.out HHI.out HA.out hal)
        generalize zs[a] = z at *
        by_cases he : z = k
        · have q : (z == k) = true := by simp [he]
          have HE := hid (HB.out.trans (decide_eq_true he))
          clear he
          go_wp2
          go_ret2
          exact HF.out _ _ HE.out
        · have q : (z == k) = false := by simp [he]
          have HE := hid (HB.out.trans (decide_eq_false he))
          clear he
          go_wp2_with (go_at_call 109; refine (isNaNs_any _ _).mono ?_; rintro e w1 ⟨rfl, rfl⟩)
          go_ret2
          exact HF.out _ _ HE.out
      · have i1 : ¬ (a : Int) < (zs.length : Int) := by omega
        have HE := hid (bin_none (k := k) HLO.out (by omega))
        go_wp2
        go_ret2
        exact HF.out _ _ HE.out

theorem kind_valid {s : TSet} {t : Int} (h : 0 ≤ kindI s t) : chkErr s = 0 ∧ 0 ≤ t ∧ t < sizeI s := by
  unfold kindI at h
  by_cases hq : t < 0 ∨ sizeI s ≤ t
  · rw [if_pos hq] at h; omega
  · refine ⟨?_, by omega, by omega⟩
    by_cases e : chkErr s = 0
    · exact e
    · rw [size_bad e] at hq; omega

theorem Red_any (v : Value) (s : TSet) (t : Int) (w : World) (h : IsSet w v s) (t0 : -9223372036854775808 ≤ t) (t1 : t ≤ 9223372036854775807) : Calls Try.prog 57 #[v, .int .i64 t] w (Gives w (.bool (redB s t))) := by
  have hfin : ∀ b wf, redB s t = b → Grow w wf → Gives w (.bool (redB s t)) (.returned (.bool b)) wf := fun r wf h hg => ⟨by rw [h], hg⟩
  have HF := hid hfin
  have KD := hid (fun W (hg : Grow w W) => Kind_any v s t W (h.grow hg) t0 t1)
  have CT := fun W (hg : Grow w W)  => count_any v s W (h.grow hg)
  clear hfin
  have HI := hid h
  obtain ⟨A, c, B, d, rfl, h1, h2⟩ := h.open_
  obtain ⟨_, _, e1, c1, m1, r1⟩ := h1
  obtain ⟨_, _, e2, d1, m2, r2⟩ := h2
  injection e1 with e1 _ e1'
  injection e2 with e2 _ e2'
  subst e1 e1' e2 e2'
  unfold maxLen at m1 m2
  have HG0 := hid (show Grow w (w.alloc (.cells #[.int .i64 s.pl, .slice A s.su.length c, .int .i64 s.wi, .int .i64 s.dr, .int .i64 s.fl, .int .i64 s.co, .int .i64 s.me, .int .i64 s.de, .slice B s.re.length d] 24)) from (Grow.refl w).alloc _)
  have HB0 := hid (show Blk (w.alloc (.cells #[.int .i64 s.pl, .slice A s.su.length c, .int .i64 s.wi, .int .i64 s.dr, .int .i64 s.fl, .int .i64 s.co, .int .i64 s.me, .int .i64 s.de, .slice B s.re.length d] 24)) w.heap.size 24 (setVals s (.slice A s.su.length c) (.slice B s.re.length d)) from heap_alloc_new w _)
  clear h
  have IR := hid (fun W (hg : Grow w W) => (⟨B, d, rfl, d1, by unfold maxLen; omega, r2.grow hg⟩ : IsInts W (.slice B s.re.length d) s.re))
  have HR := hid (show redB s t = ((decide (0 ≤ kindI s t) && decide (kindI s t < kindsI s)) && (decide (t % s.co = 0) && decide (kindI s t ∈ s.re))) from rfl)
  by_cases hk : 0 ≤ kindI s t
  · obtain ⟨e, ht0, ht1⟩ := kind_valid hk
    have V := valid_of e
    have hco := V.co
    have HV := hid V
    have hK := kinds_ok e
    rw [hK] at HR
    rw [hK] at CT
    have CT := hid CT
    have hpl := V.plain
    have tm : t.tmod s.co = t % s.co := Int.tmod_eq_emod_of_nonneg ht0
    have tm0 := Int.emod_nonneg t (show s.co ≠ 0 by omega)
    have tm1 := Int.emod_lt_of_pos t (show 0 < s.co by omega)
    have BSC := hid (fun W (hg : Grow w W) => BinarySearch_any (.slice B s.re.length d) s.re (kindI s t) W (IR.out W hg) (risErr_asc V.re) (by have := reds_len V; omega))
    clear hK V e
    generalize kindI s t = k at *
    have k0 : ¬ k < 0 := by omega
    by_cases hp : k < plainI s
    · by_cases hc : t % s.co = 0
      · have HE := hid (show redB s t = decide (k ∈ s.re) by rw [HR.out, decide_eq_true hk, decide_eq_true hp, decide_eq_true hc]; simp)
        have c0 : (t % s.co == 0) = true := by simp [hc]
        have c1 : (t % s.co != 0) = false := by simp [hc]
        have TM := hid (And.intro tm hc)
        clear tm hc tm0 tm1
        have tm := TM.out.1
        generalize plainI s = P at *
        generalize t % s.co = q at *
        clear TM
        go_enter Try.func57, Try.ntmps57
        go_wp2_with (first
          | (go_at_call 55; refine (KD.out _ HG0.out).mono ?_; rintro e w1 ⟨rfl, hg1⟩; have hg := HG0.out.trans hg1; obtain ⟨y0, y1, y2, y3, y4, y5, y6, y7, y8⟩ := set_cells (HB0.out.grow hg1))
          | (go_at_call 88; refine (CT.out _ hg).mono ?_; rintro e w2 ⟨rfl, hg2⟩; have hgg := hg.trans hg2; clear y0 y1 y2 y3 y4 y5 y6 y7 y8; obtain ⟨y0, y1, y2, y3, y4, y5, y6, y7, y8⟩ := set_cells ((HB0.out.grow hg1).grow hg2))
          | (go_at_call 96; refine (BSC.out _ hgg).mono ?_; rintro e w3 ⟨i9, rfl, rfl⟩))
        go_ret
        exact HF.out _ _ HE.out hgg
      · have HE := hid (show redB s t = false by rw [HR.out, decide_eq_false hc]; simp)
        have c0 : (t % s.co == 0) = false := by simp [hc]
        have c1 : (t % s.co != 0) = true := by simp [hc]
        clear hc
        generalize plainI s = P at *
        generalize t % s.co = q at *
        go_enter Try.func57, Try.ntmps57
        go_wp2_with (first
          | (go_at_call 55; refine (KD.out _ HG0.out).mono ?_; rintro e w1 ⟨rfl, hg1⟩; have hg := HG0.out.trans hg1; obtain ⟨y0, y1, y2, y3, y4, y5, y6, y7, y8⟩ := set_cells (HB0.out.grow hg1))
          | (go_at_call 88; refine (CT.out _ hg).mono ?_; rintro e w2 ⟨rfl, hg2⟩; have hgg := hg.trans hg2; clear y0 y1 y2 y3 y4 y5 y6 y7 y8; obtain ⟨y0, y1, y2, y3, y4, y5, y6, y7, y8⟩ := set_cells ((HB0.out.grow hg1).grow hg2)))
        go_ret
        exact HF.out _ _ HE.out hgg
    · have HE := hid (show redB s t = false by rw [HR.out, decide_eq_false hp]; simp)
      clear tm tm0 tm1
      generalize plainI s = P at *
      go_enter Try.func57, Try.ntmps57
      go_wp2_with (first
        | (go_at_call 55; refine (KD.out _ HG0.out).mono ?_; rintro e w1 ⟨rfl, hg1⟩; have hg := HG0.out.trans hg1; obtain ⟨y0, y1, y2, y3, y4, y5, y6, y7, y8⟩ := set_cells (HB0.out.grow hg1))
        | (go_at_call 88; refine (CT.out _ hg).mono ?_; rintro e w2 ⟨rfl, hg2⟩; have hgg := hg.trans hg2))
      go_ret
      exact HF.out _ _ HE.out hgg
  · have HE := hid (show redB s t = false by rw [HR.out, decide_eq_false hk]; rfl)
    have k0 : kindI s t < 0 := by omega
    clear CT
    generalize kindI s t = k at *
    go_enter Try.func57, Try.ntmps57
    go_wp2_with (go_at_call 55; refine (KD.out _ HG0.out).mono ?_; rintro e w1 ⟨rfl, hg1⟩; have hg := HG0.out.trans hg1)
    go_ret
    exact HF.out _ _ HE.out hg

theorem rRed_any (v : Value) (s : TSet) (t : Int) (w : World) (h : IsSet w v s) (t0 : -9223372036854775808 ≤ t) (t1 : t ≤ 9223372036854775807) : Calls Try.prog 58 #[v, .int .i64 t] w (Gives w (.bool (redB s t))) := by
  have hfin : ∀ b wf, redB s t = b → Grow w wf → Gives w (.bool (redB s t)) (.returned (.bool b)) wf := fun r wf h hg => ⟨by rw [h], hg⟩
  have HF := hid hfin
  have KD := hid (fun W (hg : Grow w W) => rKind_any v s t W (h.grow hg) t0 t1)
  have CT := fun W (hg : Grow w W) (V : Valid s) => plain_ok v s W (h.grow hg) V
  clear hfin
  have HI := hid h
  obtain ⟨A, c, B, d, rfl, h1, h2⟩ := h.open_
  obtain ⟨_, _, e1, c1, m1, r1⟩ := h1
  obtain ⟨_, _, e2, d1, m2, r2⟩ := h2
  injection e1 with e1 _ e1'
  injection e2 with e2 _ e2'
  subst e1 e1' e2 e2'
  unfold maxLen at m1 m2
  have HG0 := hid (show Grow w (w.alloc (.cells #[.int .i64 s.pl, .slice A s.su.length c, .int .i64 s.wi, .int .i64 s.dr, .int .i64 s.fl, .int .i64 s.co, .int .i64 s.me, .int .i64 s.de, .slice B s.re.length d] 24)) from (Grow.refl w).alloc _)
  have HB0 := hid (show Blk (w.alloc (.cells #[.int .i64 s.pl, .slice A s.su.length c, .int .i64 s.wi, .int .i64 s.dr, .int .i64 s.fl, .int .i64 s.co, .int .i64 s.me, .int .i64 s.de, .slice B s.re.length d] 24)) w.heap.size 24 (setVals s (.slice A s.su.length c) (.slice B s.re.length d)) from heap_alloc_new w _)
  clear h
  have IR := hid (fun W (hg : Grow w W) => (⟨B, d, rfl, d1, by unfold maxLen; omega, r2.grow hg⟩ : IsInts W (.slice B s.re.length d) s.re))
  have HR := hid (show redB s t = ((decide (0 ≤ kindI s t) && decide (kindI s t < kindsI s)) && (decide (t % s.co = 0) && decide (kindI s t ∈ s.re))) from rfl)
  by_cases hk : 0 ≤ kindI s t
  · obtain ⟨e, ht0, ht1⟩ := kind_valid hk
    have V := valid_of e
    have hco := V.co
    have HV := hid V
    have hK := kinds_ok e
    rw [hK] at HR
    have CT := hid CT
    have hpl := V.plain
    have tm : t.tmod s.co = t % s.co := Int.tmod_eq_emod_of_nonneg ht0
    have tm0 := Int.emod_nonneg t (show s.co ≠ 0 by omega)
    have tm1 := Int.emod_lt_of_pos t (show 0 < s.co by omega)
    have BSC := hid (fun W (hg : Grow w W) => Has_any (.slice B s.re.length d) s.re (kindI s t) W (IR.out W hg))
    clear hK V e
    generalize kindI s t = k at *
    have k0 : ¬ k < 0 := by omega
    by_cases hp : k < plainI s
    · by_cases hc : t % s.co = 0
      · have HE := hid (show redB s t = decide (k ∈ s.re) by rw [HR.out, decide_eq_true hk, decide_eq_true hp, decide_eq_true hc]; simp)
        have c0 : (t % s.co == 0) = true := by simp [hc]
        have c1 : (t % s.co != 0) = false := by simp [hc]
        have TM := hid (And.intro tm hc)
        clear tm hc tm0 tm1
        have tm := TM.out.1
        generalize plainI s = P at *
        generalize t % s.co = q at *
        clear TM
        go_enter Try.func58, Try.ntmps58
        go_wp2_with (first
          | (go_at_call 56; refine (KD.out _ HG0.out).mono ?_; rintro e w1 ⟨rfl, hg1⟩; have hg := HG0.out.trans hg1; obtain ⟨y0, y1, y2, y3, y4, y5, y6, y7, y8⟩ := set_cells (HB0.out.grow hg1))
          | (go_at_call 92; refine (CT.out _ hg HV.out).mono ?_; rintro e w2 ⟨rfl, hg2⟩; have hgg := hg.trans hg2; clear y0 y1 y2 y3 y4 y5 y6 y7 y8; obtain ⟨y0, y1, y2, y3, y4, y5, y6, y7, y8⟩ := set_cells ((HB0.out.grow hg1).grow hg2))
          | (go_at_call 97; refine (BSC.out _ hgg).mono ?_; rintro e w3 ⟨rfl, rfl⟩))
        go_ret
        exact HF.out _ _ HE.out hgg
      · have HE := hid (show redB s t = false by rw [HR.out, decide_eq_false hc]; simp)
        have c0 : (t % s.co == 0) = false := by simp [hc]
        have c1 : (t % s.co != 0) = true := by simp [hc]
        clear hc
        generalize plainI s = P at *
        generalize t % s.co = q at *
        go_enter Try.func58, Try.ntmps58
        go_wp2_with (first
          | (go_at_call 56; refine (KD.out _ HG0.out).mono ?_; rintro e w1 ⟨rfl, hg1⟩; have hg := HG0.out.trans hg1; obtain ⟨y0, y1, y2, y3, y4, y5, y6, y7, y8⟩ := set_cells (HB0.out.grow hg1))
          | (go_at_call 92; refine (CT.out _ hg HV.out).mono ?_; rintro e w2 ⟨rfl, hg2⟩; have hgg := hg.trans hg2; clear y0 y1 y2 y3 y4 y5 y6 y7 y8; obtain ⟨y0, y1, y2, y3, y4, y5, y6, y7, y8⟩ := set_cells ((HB0.out.grow hg1).grow hg2)))
        go_ret
        exact HF.out _ _ HE.out hgg
    · have HE := hid (show redB s t = false by rw [HR.out, decide_eq_false hp]; simp)
      clear tm tm0 tm1
      generalize plainI s = P at *
      go_enter Try.func58, Try.ntmps58
      go_wp2_with (first
        | (go_at_call 56; refine (KD.out _ HG0.out).mono ?_; rintro e w1 ⟨rfl, hg1⟩; have hg := HG0.out.trans hg1; obtain ⟨y0, y1, y2, y3, y4, y5, y6, y7, y8⟩ := set_cells (HB0.out.grow hg1))
        | (go_at_call 92; refine (CT.out _ hg HV.out).mono ?_; rintro e w2 ⟨rfl, hg2⟩; have hgg := hg.trans hg2))
      go_ret
      exact HF.out _ _ HE.out hgg
  · have HE := hid (show redB s t = false by rw [HR.out, decide_eq_false hk]; rfl)
    have k0 : kindI s t < 0 := by omega
    clear CT
    generalize kindI s t = k at *
    go_enter Try.func58, Try.ntmps58
    go_wp2_with (go_at_call 56; refine (KD.out _ HG0.out).mono ?_; rintro e w1 ⟨rfl, hg1⟩; have hg := HG0.out.trans hg1)
    go_ret
    exact HF.out _ _ HE.out hg
end Go.Proofs.Ytjiahcfegfimmaa
