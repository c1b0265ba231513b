/-
  Parts of the proof: Sizes, Below, Clone.
-/
import Derived.Test.YtjiahcfegfimmaaNotes08
import Derived.Test.YtjiahcfegfimmaaNotes05
import Derived.Test.YtjiahcfegfimmaaNotes06
/-
  Walks of count, Kinds, Size, Kind, and of the reference's.
-/
namespace Go.Proofs.Ytjiahcfegfimmaa
open Go.RowKit

theorem set_cells {w : World} {T : Nat} {s : TSet} {a b : Value} (h : Blk w T 24 (setVals s a b)) : w.cell? ⟨T, 0, none⟩ = some (.int .i64 s.pl) ∧ w.cell? ⟨T, 1, none⟩ = some a ∧ w.cell? ⟨T, 2, none⟩ = some (.int .i64 s.wi) ∧ w.cell? ⟨T, 3, none⟩ = some (.int .i64 s.dr) ∧ w.cell? ⟨T, 4, none⟩ = some (.int .i64 s.fl) ∧ w.cell? ⟨T, 5, none⟩ = some (.int .i64 s.co) ∧ w.cell? ⟨T, 6, none⟩ = some (.int .i64 s.me) ∧ w.cell? ⟨T, 7, none⟩ = some (.int .i64 s.de) ∧ w.cell? ⟨T, 8, none⟩ = some b :=
  ⟨h.cell 0, h.cell 1, h.cell 2, h.cell 3, h.cell 4, h.cell 5, h.cell 6, h.cell 7, h.cell 8⟩
def kindsI (s : TSet) : Int := if chkErr s = 0 then plainI s else 0
def sizeI (s : TSet) : Int := if chkErr s = 0 then plainI s * s.co + s.fl else 0
/-- The kind of a tile. -/
def kindI (s : TSet) (t : Int) : Int := if t < 0 ∨ sizeI s ≤ t then -1 else if plainI s * s.co ≤ t then plainI s + t - plainI s * s.co else t / s.co
theorem kinds_ok {s : TSet} (h : chkErr s = 0) : kindsI s = plainI s := if_pos h
theorem kinds_bad {s : TSet} (h : chkErr s ≠ 0) : kindsI s = 0 := if_neg h
theorem size_ok {s : TSet} (h : chkErr s = 0) : sizeI s = plainI s * s.co + s.fl := if_pos h
theorem size_bad {s : TSet} (h : chkErr s ≠ 0) : sizeI s = 0 := if_neg h
theorem Valid.tiles {s : TSet} (h : Valid s) : 0 ≤ plainI s * s.co ∧ plainI s * s.co ≤ 136 := mul_136 ⟨by have := h.plain; omega, h.plain.2⟩ h.co


theorem count_any (v : Value) (s : TSet) (w : World) (h : IsSet w v s) : Calls Try.prog 88 #[v] w (Gives w (.int .i64 (kindsI s))) := by
  have hfin : ∀ r wf, kindsI s = r → Grow w wf → Gives w (.int .i64 (kindsI s)) (.returned (.int .i64 r)) wf := fun r wf h hg => ⟨by rw [h], hg⟩
  have HF := hid hfin
  have CH := hid (fun W (hg : Grow w W) => Check_any v s W (h.grow hg))
  clear hfin
  have HI := hid h
  obtain ⟨A, c, B, d, rfl, h1, h2⟩ := h.open_
  obtain ⟨_, _, e1, c1, m1, r1⟩ := h1
  obtain ⟨_, _, e2, d1, m2, r2⟩ := h2
  injection e1 with e1 _ e1'
  injection e2 with e2 _ e2'
  subst e1 e1' e2 e2'
  unfold maxLen at m1 m2
  have HG0 := hid (show Grow w (w.alloc (.cells #[.int .i64 s.pl, .slice A s.su.length c, .int .i64 s.wi, .int .i64 s.dr, .int .i64 s.fl, .int .i64 s.co, .int .i64 s.me, .int .i64 s.de, .slice B s.re.length d] 24)) from (Grow.refl w).alloc _)
  have HB0 := hid (show Blk (w.alloc (.cells #[.int .i64 s.pl, .slice A s.su.length c, .int .i64 s.wi, .int .i64 s.dr, .int .i64 s.fl, .int .i64 s.co, .int .i64 s.me, .int .i64 s.de, .slice B s.re.length d] 24)) w.heap.size 24 (setVals s (.slice A s.su.length c) (.slice B s.re.length d)) from heap_alloc_new w _)
  clear h
  by_cases e : chkErr s = 0
  · have V := valid_of e
    have HE := hid (kinds_ok e)
    have ne : (chkErr s != 0) = false := by simp [e]
    have HP := hid (fun k => sumI_bound (l := s.su.take k) fun z hz => V.su z (List.mem_of_mem_take hz))
    have HS := hid V.su
    have v1 := V.wi
    have v2 := V.dr
    have v3 := V.su3
    clear e V
    generalize chkErr s = n at *
    go_enter Try.func88, Try.ntmps88
    go_wp2_with (go_at_call 38; refine (CH.out _ HG0.out).mono ?_; rintro e w1 ⟨rfl, hg1⟩; have hg := HG0.out.trans hg1; obtain ⟨c0, c1, c2, c3, c4, c5, c6, c7, c8⟩ := set_cells (HB0.out.grow hg1))
    go_loop [3, 17] (fun z i => ∃ k : Nat, k ≤ s.su.length ∧ i = .int .i64 (k : Int) ∧ z = .int .i64 (s.wi + s.dr + sumI (s.su.take k))) (fun _ i => s.su.length - (intOf i).toNat)
    case atStart => exact ⟨0, Nat.zero_le _, rfl, by simp [sumI]⟩
    case round =>
      obtain ⟨k, hk, rfl, rfl⟩ := hrel
      have hb := HP.out k
      rw [List.length_take, Nat.min_eq_left hk] at hb
      by_cases hlt : k < s.su.length
      · obtain ⟨ad, rfl, _, hx⟩ := (r1.grow hg).int hlt
        have i0 : (0 : Int) ≤ (k : Int) := by omega
        have i1 : (k : Int) < (s.su.length : Int) := by omega
        have hz := HS.out s.su[k] (List.getElem_mem hlt)
        have HT := hid (sumI_take s.su hlt)
        go_wp2
        exact ⟨⟨k + 1, by omega, by go_num, by rw [HT.out, Int.add_assoc (s.wi + s.dr)]⟩, by simp only [intOf]; omega⟩
      · obtain rfl : k = s.su.length := by omega
        have HE2 := hid (show kindsI s = s.wi + s.dr + sumI s.su from HE.out)
        go_wp2
        go_ret
        exact HF.out _ _ HE2.out hg
  · have HE := hid (kinds_bad e)
    have ne : (chkErr s != 0) = true := by simp [e]
    clear e
    generalize chkErr s = n at *
    go_enter Try.func88, Try.ntmps88
    go_wp2_with (go_at_call 38; refine (CH.out _ HG0.out).mono ?_; rintro e w1 ⟨rfl, hg1⟩; have hg := HG0.out.trans hg1)
    go_ret
    exact HF.out _ _ HE.out hg

theorem Kinds_any (v : Value) (s : TSet) (w : World) (h : IsSet w v s) : Calls Try.prog 40 #[v] w (Gives w (.int .i64 (kindsI s))) := by
  have CO := hid (fun W (hg : Grow w W) => count_any v s W (h.grow hg))
  have HI := hid h
  obtain ⟨A, c, B, d, rfl, h1, h2⟩ := h.open_
  obtain ⟨_, _, e1, c1, m1, r1⟩ := h1
  obtain ⟨_, _, e2, d1, m2, r2⟩ := h2
  injection e1 with e1 _ e1'
  injection e2 with e2 _ e2'
  subst e1 e1' e2 e2'
  unfold maxLen at m1 m2
  have HG0 := hid (show Grow w (w.alloc (.cells #[.int .i64 s.pl, .slice A s.su.length c, .int .i64 s.wi, .int .i64 s.dr, .int .i64 s.fl, .int .i64 s.co, .int .i64 s.me, .int .i64 s.de, .slice B s.re.length d] 24)) from (Grow.refl w).alloc _)
  have HB0 := hid (show Blk (w.alloc (.cells #[.int .i64 s.pl, .slice A s.su.length c, .int .i64 s.wi, .int .i64 s.dr, .int .i64 s.fl, .int .i64 s.co, .int .i64 s.me, .int .i64 s.de, .slice B s.re.length d] 24)) w.heap.size 24 (setVals s (.slice A s.su.length c) (.slice B s.re.length d)) from heap_alloc_new w _)
  clear h
  generalize kindsI s = n at *
  go_enter Try.func40, Try.ntmps40
  go_wp2_with (go_at_call 88; refine (CO.out _ HG0.out).mono ?_; rintro e w1 ⟨rfl, hg1⟩; have hg := HG0.out.trans hg1)
  go_ret
  exact ⟨rfl, hg⟩

theorem Size_any (v : Value) (s : TSet) (w : World) (h : IsSet w v s) : Calls Try.prog 30 #[v] w (Gives w (.int .i64 (sizeI s))) := by
  have hfin : ∀ r wf, sizeI s = r → Grow w wf → Gives w (.int .i64 (sizeI s)) (.returned (.int .i64 r)) wf := fun r wf h hg => ⟨by rw [h], hg⟩
  have HF := hid hfin
  have CO := fun W (hg : Grow w W) => count_any v s W (h.grow hg)
  clear hfin
  have HI := hid h
  obtain ⟨A, c, B, d, rfl, h1, h2⟩ := h.open_
  obtain ⟨_, _, e1, c1, m1, r1⟩ := h1
  obtain ⟨_, _, e2, d1, m2, r2⟩ := h2
  injection e1 with e1 _ e1'
  injection e2 with e2 _ e2'
  subst e1 e1' e2 e2'
  unfold maxLen at m1 m2
  have HG0 := hid (show Grow w (w.alloc (.cells #[.int .i64 s.pl, .slice A s.su.length c, .int .i64 s.wi, .int .i64 s.dr, .int .i64 s.fl, .int .i64 s.co, .int .i64 s.me, .int .i64 s.de, .slice B s.re.length d] 24)) from (Grow.refl w).alloc _)
  have HB0 := hid (show Blk (w.alloc (.cells #[.int .i64 s.pl, .slice A s.su.length c, .int .i64 s.wi, .int .i64 s.dr, .int .i64 s.fl, .int .i64 s.co, .int .i64 s.me, .int .i64 s.de, .slice B s.re.length d] 24)) w.heap.size 24 (setVals s (.slice A s.su.length c) (.slice B s.re.length d)) from heap_alloc_new w _)
  clear h
  by_cases e : chkErr s = 0
  · have V := valid_of e
    have HE := hid (size_ok e)
    rw [kinds_ok e] at CO
    have CO := hid CO
    have v1 := V.plain
    have v2 := V.tiles
    have v3 := V.fl
    clear e V
    generalize plainI s = n at *
    go_enter Try.func30, Try.ntmps30
    go_wp2_with (go_at_call 88; refine (CO.out _ HG0.out).mono ?_; rintro e w1 ⟨rfl, hg1⟩; have hg := HG0.out.trans hg1; obtain ⟨c0, c1, c2, c3, c4, c5, c6, c7, c8⟩ := set_cells (HB0.out.grow hg1))
    go_ret
    exact HF.out _ _ HE.out hg
  · have HE := hid (size_bad e)
    rw [kinds_bad e] at CO
    have CO := hid CO
    clear e
    go_enter Try.func30, Try.ntmps30
    go_wp2_with (go_at_call 88; refine (CO.out _ HG0.out).mono ?_; rintro e w1 ⟨rfl, hg1⟩; have hg := HG0.out.trans hg1)
    go_ret
    exact HF.out _ _ HE.out hg

theorem plain_ok (v : Value) (s : TSet) (w : World) (h : IsSet w v s) (V : Valid s) : Calls Try.prog 92 #[v] w (Gives w (.int .i64 (plainI s))) := plain_any v s w h V.su3 V.su V.wi V.dr
theorem rKinds_any (v : Value) (s : TSet) (w : World) (h : IsSet w v s) : Calls Try.prog 41 #[v] w (Gives w (.int .i64 (kindsI s))) := by
  have hfin : ∀ r wf, kindsI s = r → Grow w wf → Gives w (.int .i64 (kindsI s)) (.returned (.int .i64 r)) wf := fun r wf h hg => ⟨by rw [h], hg⟩
  have HF := hid hfin
  have CH := hid (fun W (hg : Grow w W) => rCheck_any v s W (h.grow hg))
  have PL := hid (fun W (hg : Grow w W) (V : Valid s) => plain_ok v s W (h.grow hg) V)
  clear hfin
  have HI := hid h
  obtain ⟨A, c, B, d, rfl, h1, h2⟩ := h.open_
  obtain ⟨_, _, e1, c1, m1, r1⟩ := h1
  obtain ⟨_, _, e2, d1, m2, r2⟩ := h2
  injection e1 with e1 _ e1'
  injection e2 with e2 _ e2'
  subst e1 e1' e2 e2'
  unfold maxLen at m1 m2
  have HG0 := hid (show Grow w (w.alloc (.cells #[.int .i64 s.pl, .slice A s.su.length c, .int .i64 s.wi, .int .i64 s.dr, .int .i64 s.fl, .int .i64 s.co, .int .i64 s.me, .int .i64 s.de, .slice B s.re.length d] 24)) from (Grow.refl w).alloc _)
  have HB0 := hid (show Blk (w.alloc (.cells #[.int .i64 s.pl, .slice A s.su.length c, .int .i64 s.wi, .int .i64 s.dr, .int .i64 s.fl, .int .i64 s.co, .int .i64 s.me, .int .i64 s.de, .slice B s.re.length d] 24)) w.heap.size 24 (setVals s (.slice A s.su.length c) (.slice B s.re.length d)) from heap_alloc_new w _)
  clear h
  by_cases e : chkErr s = 0
  · have V := hid (valid_of e)
    have HE := hid (kinds_ok e)
    have ne : (chkErr s != 0) = false := by simp [e]
    clear e
    generalize chkErr s = n at *
    go_enter Try.func41, Try.ntmps41
    go_wp2_with (first
      | (go_at_call 39; refine (CH.out _ HG0.out).mono ?_; rintro e w1 ⟨rfl, hg1⟩; have hg := HG0.out.trans hg1; obtain ⟨c0, c1, c2, c3, c4, c5, c6, c7, c8⟩ := set_cells (HB0.out.grow hg1))
      | (go_at_call 92; refine (PL.out _ hg V.out).mono ?_; rintro e w2 ⟨rfl, hg2⟩; have hgg := hg.trans hg2))
    go_ret
    exact HF.out _ _ HE.out hgg
  · have HE := hid (kinds_bad e)
    have ne : (chkErr s != 0) = true := by simp [e]
    clear e
    generalize chkErr s = n at *
    go_enter Try.func41, Try.ntmps41
    go_wp2_with (go_at_call 39; refine (CH.out _ HG0.out).mono ?_; rintro e w1 ⟨rfl, hg1⟩; have hg := HG0.out.trans hg1)
    go_ret
    exact HF.out _ _ HE.out hg
end Go.Proofs.Ytjiahcfegfimmaa

/-
  Walks of below, Word and Draw.
-/
namespace Go.Proofs.Ytjiahcfegfimmaa
open Go.RowKit

theorem Word_any (x : Int) (w : World) : Calls Try.prog 103 #[.int .u64 x] w (Same w (.tuple #[.int .i64 (wordZ (stepZ x)), .int .u64 (stepZ x)])) := by
  go_enter Try.func103, Try.ntmps103
  go_wp2
  go_ret2
  exact ⟨rfl, rfl⟩

/-- A source of words: the block of its state. -/
def Lcg (w : World) (X : Nat) (x : Int) : Prop := Blk w X 83 [.int .u64 x]
def cellZ (w : World) (X : Nat) : Int := match w.cell? ⟨X, 0, none⟩ with
  | some (.int _ z) => z
  | _ => 0
theorem cellZ_of {w : World} {X : Nat} {x : Int} (h : Lcg w X x) : cellZ w X = x := by
  unfold cellZ
  rw [Blk.cell h 0]
  rfl
def DrawRes (X : Nat) (n x : Int) (w : World) (e : Ending) (w' : World) : Prop := e = .returned (.int .i64 (drawV n x)) ∧ Lcg w' X (drawX n x) ∧ But X w w'
theorem tmod_nonneg {a b : Int} (h : 0 ≤ a) : a.tmod b = a % b := Int.tmod_eq_emod_of_nonneg h

set_option maxRecDepth 100000 in
theorem below_any (X : Nat) (n x : Int) (w : World) (h : Lcg w X x) (n0 : 2 ≤ n) (n1 : n ≤ 1000) : Calls Try.prog 78 #[.pointer (some ⟨X, 0, none⟩), .int .i64 n] w (DrawRes X n x w) := by
  go_enter Try.func78, Try.ntmps78
  go_wp2
  go_loopw [6] (fun _ wr => ∃ y, Lcg wr X y ∧ But X w wr ∧ drawV n y = drawV n x ∧ drawX n y = drawX n x) (fun _ wr => drawK n (cellZ wr X))
  case atStart => exact ⟨x, h, But.refl _ _, rfl, rfl⟩
  case round =>
    clear h
    obtain ⟨y, hl, hb, hv, hx⟩ := hrel
    have c0 := Blk.cell hl 0
    have f0 := Blk.free hl 0
    simp only [List.getElem?_cons_zero] at c0
    have hz := hid (cellZ_of hl)
    have hl2 : Lcg (wr.setCell ⟨X, 0, none⟩ (.int .u64 (stepZ y))) X (stepZ y) := Blk.set hl 0 (.int .u64 (stepZ y))
    have hb2 : But X w (wr.setCell ⟨X, 0, none⟩ (.int .u64 (stepZ y))) := hb.set 0 _
    have hz2 := hid (cellZ_of hl2)
    have HL := hid (And.intro hl2 hb2)
    clear hl hb hl2 hb2
    by_cases hok : okZ n y
    · have hd := draw_ok hok
      have hlt : wrap64 (IntKind.u64.wrap (IntKind.u64.wrap (y * 6364136223846793005) + 1442695040888963407) / 8589934592) < wrap64 (2147483648 - 2147483648 % n) := hok
      have hw := (wordZ_eq (step_u64 y)).2.1
      have FIN := hid (show ∀ z, z = (wordZ (stepZ y)).tmod n → DrawRes X n x w (.returned (.int .i64 z)) (wr.setCell ⟨X, 0, none⟩ (.int .u64 (stepZ y))) from fun z hz => by
        subst hz
        refine ⟨by rw [tmod_nonneg hw, ← hv, hd.2], ?_, HL.out.2⟩
        rw [← hx, hd.1]
        exact HL.out.1)
      clear hok hd hw hv hx
      go_wp2
      go_ret
      exact FIN.out _ rfl
    · have hd := hid (draw_no n0 n1 hok)
      have hlt : ¬ wrap64 (IntKind.u64.wrap (IntKind.u64.wrap (y * 6364136223846793005) + 1442695040888963407) / 8589934592) < wrap64 (2147483648 - 2147483648 % n) := hok
      have HV := hid (And.intro hv hx)
      clear hok hv hx
      go_wp2
      refine ⟨⟨stepZ y, HL.out.1, HL.out.2, by rw [hd.out.2.1, HV.out.1], by rw [hd.out.1, HV.out.2]⟩, ?_⟩
      have e1 := hz.out
      have e2 := hz2.out
      have e3 := hd.out.2.2
      show drawK n (cellZ (wr.setCell ⟨X, 0, none⟩ (.int .u64 (stepZ y))) X) < drawK n (cellZ wr X)
      rw [e1, e2]
      exact e3

theorem lim_quo {n : Int} (h0 : 2 ≤ n) (h1 : n ≤ 1000) : 2147483648 / n * n = limZ n := by
  have h := (limZ_eq h0 h1).1
  have := Int.mul_ediv_add_emod 2147483648 n
  rw [h, Int.mul_comm]
  omega
set_option maxRecDepth 100000 in
theorem Draw_any (n x : Int) (w : World) (n0 : 2 ≤ n) (n1 : n ≤ 1000) : Calls Try.prog 80 #[.int .u64 x, .int .i64 n] w (Same w (.tuple #[.int .i64 (drawV n x), .int .u64 (drawX n x)])) := by
  have hq := lim_quo n0 n1
  have hl := limZ_eq n0 n1
  have q0 : 0 ≤ 2147483648 / n * n ∧ 2147483648 / n * n ≤ 2147483648 := by rw [hq]; omega
  have q1 := Int.ediv_nonneg (show (0 : Int) ≤ 2147483648 by omega) (show 0 ≤ n by omega)
  have q2 : 2147483648 / n ≤ 2147483648 := Int.ediv_le_self _ (by omega)
  have HQ := hid hq
  clear hq hl
  go_enter Try.func80, Try.ntmps80
  go_wp2
  go_loop [0, 7, 8, 13] (fun z _ _ _ => ∃ y, z = .int .u64 y ∧ drawV n y = drawV n x ∧ drawX n y = drawX n x) (fun z _ _ _ => drawK n (intOf z))
  case atStart => exact ⟨x, rfl, rfl, rfl⟩
  case round =>
    obtain ⟨y, rfl, hv, hx⟩ := hrel
    have hw := (wordZ_eq (step_u64 y)).2.1
    by_cases hok : okZ n y
    · have hd := draw_ok hok
      have hlt : wordZ (stepZ y) < 2147483648 / n * n := by rw [HQ.out]; exact hok
      have hdz := hid hd
      have HV := hid (And.intro hv hx)
      have FIN := hid (show ∀ z y', z = wordZ (stepZ y) % n → y' = stepZ y → Same w (.tuple #[.int .i64 (drawV n x), .int .u64 (drawX n x)]) (.returned (.tuple #[.int .i64 z, .int .u64 y'])) w from fun z y' hz hy => by
        subst hz hy
        refine ⟨?_, rfl⟩
        rw [← hv, ← hx, hd.1, hd.2])
      clear hd hok hv hx
      go_wp2_with (go_at_call 103; refine (Word_any y _).mono ?_; rintro e w1 ⟨rfl, rfl⟩)
      go_ret2
      exact FIN.out _ _ rfl rfl
    · have hd := hid (draw_no n0 n1 hok)
      have hlt : ¬ wordZ (stepZ y) < 2147483648 / n * n := by rw [HQ.out]; exact hok
      have HV := hid (And.intro hv hx)
      clear hok hv hx
      go_wp2_with (go_at_call 103; refine (Word_any y _).mono ?_; rintro e w1 ⟨rfl, rfl⟩)
      refine ⟨⟨stepZ y, rfl, by rw [hd.out.2.1, HV.out.1], by rw [hd.out.1, HV.out.2]⟩, ?_⟩
      exact hd.out.2.2
end Go.Proofs.Ytjiahcfegfimmaa

/-
  The walk of slices.Clone at integers; what a slice of the call's own bears.
-/
namespace Go.Proofs.Ytjiahcfegfimmaa
open Go.RowKit

def CloneRes (w : World) (zs : List Int) (e : Ending) (w' : World) : Prop := ∃ v, e = .returned v ∧ Own w w' v zs ∧ Grow w w'
theorem clone_any (v : Value) (zs : List Int) (w : World) (h : IsInts w v zs) (hl : zs.length ≤ 1000000) : Calls Try.prog 79 #[v] w (CloneRes w zs) := by
  have HI := hid h
  obtain ⟨A, c, rfl, hc, hm, hr⟩ := h
  unfold maxLen at hm
  cases A with
  | none =>
    have hz : zs = [] := by
      cases zs with
      | nil => rfl
      | cons z zs => obtain ⟨ad, h, _⟩ := hr.int (k := 0) (by simp); cases h
    subst hz
    have hq := fun W => Lib.run_eql_slice_nil (P := Try.prog) W 22 3 none 0 c 0 0 Try.underlying22
    go_enter Try.func79, Try.ntmps79
    go_wp2
    go_ret
    exact ⟨_, rfl, Own.nil _ _, Grow.refl _⟩
  | some ad =>
    have hq := fun W => Lib.run_eql_slice_nil (P := Try.prog) W 22 3 (some ad) zs.length c 0 0 Try.underlying22
    have hg0 : Grow w (w.alloc (.cells #[] 3)) := (Grow.refl _).alloc _
    have HO := hid (Own.lit0 (Grow.refl w))
    go_enter Try.func79, Try.ntmps79
    go_wp2_with (at_builtin; refine wpList_append_ints w _ rfl (.tmp 5) (.tmp 6) _ rfl Try.underlying22 _ _ [] zs rfl HO.out rfl (HI.out.grow hg0) (by simp; omega) hg0 ?_; intro v' w' ho hg' _)
    go_ret
    exact ⟨v', rfl, by simpa using ho, hg'⟩
theorem Own.form {w0 w : World} {v : Value} {os : List Int} (h : Own w0 w v os) (hl : 0 < os.length) : ∃ g cap, v = .slice (some ⟨g, 0, none⟩) os.length cap ∧ w0.heap.size ≤ g ∧ os.length ≤ cap ∧ cap ≤ maxLen := by
  rcases h.2 with ⟨_, hn⟩ | ⟨g, cap, cur, e, hb, hh, h1, h2, _⟩
  · omega
  · exact ⟨g, cap, e, hb, h1, h2⟩
theorem Own.cell {w0 w : World} {g cap : Nat} {os : List Int} (h : Own w0 w (.slice (some ⟨g, 0, none⟩) os.length cap) os) {i : Nat} (hi : i < os.length) : w.cell? ⟨g, i, none⟩ = some (.int .i64 os[i]) := by
  rw [World.ownsRow.cellAt h i (by omega)]; simp [hi]
theorem Own.free {w0 w : World} {g n cap : Nat} {os : List Int} (h : w.ownsRow w0.heap.size 3 1 (.slice (some ⟨g, 0, none⟩) n cap) n (ints os)) (i : Nat) : w.frozen? ⟨g, i, none⟩ = false := World.ownsRow.frozenAt h i
theorem Own.set {w0 w : World} {g cap : Nat} {os : List Int} (h : Own w0 w (.slice (some ⟨g, 0, none⟩) os.length cap) os) (i : Nat) (z : Int) : Own w0 (w.setCell ⟨g, i, none⟩ (.int .i64 z)) (.slice (some ⟨g, 0, none⟩) os.length cap) (os.set i z) := by
  have h1 := (World.ownsRow.stored h i (.int .i64 z)).1
  unfold Own
  rw [ints, List.map_set, List.length_set]
  exact h1
/-- A part of a list of integers. -/
theorem ints_take {w : World} {A : Option Addr} {c : Nat} {zs : List Int} {n : Nat} (h : IsInts w (.slice A zs.length c) zs) (hn : n ≤ zs.length) : IsInts w (.slice A n c) (zs.take n) := by
  obtain ⟨A', c', e, h1, h2, h3⟩ := h
  injection e with e1 _ e3
  subst e1 e3
  refine ⟨A, c, by rw [List.length_take, Nat.min_eq_left hn], by rw [List.length_take]; omega, h2, ?_⟩
  rw [ints, List.map_take]
  exact h3.take n
end Go.Proofs.Ytjiahcfegfimmaa
