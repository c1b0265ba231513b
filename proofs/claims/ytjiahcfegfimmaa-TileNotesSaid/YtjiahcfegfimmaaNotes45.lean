/-
  Parts of the proof: Deal, RotS, AwakeT.
-/
import Derived.Test.YtjiahcfegfimmaaNotes44
import Derived.Test.YtjiahcfegfimmaaNotes42
import Derived.Test.YtjiahcfegfimmaaNotes24
import Derived.Test.YtjiahcfegfimmaaNotes30
import Derived.Test.YtjiahcfegfimmaaNotes11
import Derived.Test.YtjiahcfegfimmaaNotes23
import Derived.Deep.RegionHeld3
import Derived.Outline
/-
  The walk of Deal.
-/
namespace Go.Proofs.Ytjiahcfegfimmaa
open Go.RowKit

set_option maxRecDepth 100000 in
set_option maxHeartbeats 4000000 in
theorem Deal_any (v v2 : Value) (s : TSet) (wall : List Int) (cut dl : Int) (w : World) (h : IsSet w v s) (h2 : IsInts w v2 wall) :
    Calls Try.prog 25 #[v, v2, .int .i64 cut, .int .i64 dl] w (DealRes w s wall cut dl) := by
  have hfin : ∀ r wf, dealErr s wall cut dl = r → r ≠ 0 → Grow w wf → DealRes w s wall cut dl (.returned (.tuple #[.slice none 0 0, .slice none 0 0, .slice none 0 0, .int .i64 r])) wf := fun r wf h hne hg => by
    subst h
    exact ⟨_, _, _, rfl, hg, fun _ => ⟨rfl, rfl, rfl⟩, fun h => absurd h hne⟩
  have HF := hid hfin
  have CH := fun W (hg : Grow w W) => Check_any v s W (h.grow hg)
  have SZ := fun W (hg : Grow w W) => Size_any v s W (h.grow hg)
  have ON := fun W (hg : Grow w W) => once_any v v2 s wall W (h.grow hg) (h2.grow hg)
  have hb := size_bound s
  have H2 := hid h2
  obtain ⟨A2, e2, rfl, q1, q2, rT⟩ := h2
  unfold maxLen at q2
  clear hfin
  have HI := hid h
  obtain ⟨A, c, B, d, rfl, h1, k2⟩ := h.open_
  obtain ⟨_, _, e1, c1, m1, r1⟩ := h1
  obtain ⟨_, _, e2x, d1, m2, r2⟩ := k2
  injection e1 with e1 _ e1'
  injection e2x with e2x _ e2'
  subst e1 e1' e2x e2'
  unfold maxLen at m1 m2
  have HG0 := hid (show Grow w (w.alloc (.cells #[.int .i64 s.pl, .slice A s.su.length c, .int .i64 s.wi, .int .i64 s.dr, .int .i64 s.fl, .int .i64 s.co, .int .i64 s.me, .int .i64 s.de, .slice B s.re.length d] 24)) from (Grow.refl w).alloc _)
  have HB0 := hid (show Blk (w.alloc (.cells #[.int .i64 s.pl, .slice A s.su.length c, .int .i64 s.wi, .int .i64 s.dr, .int .i64 s.fl, .int .i64 s.co, .int .i64 s.me, .int .i64 s.de, .slice B s.re.length d] 24)) w.heap.size 24 (setVals s (.slice A s.su.length c) (.slice B s.re.length d)) from heap_alloc_new w _)
  clear h
  by_cases e : chkErr s = 0
  · have V := valid_of e
    rw [e] at CH
    have CH := hid CH
    by_cases e3 : (wall.length : Int) ≠ sizeI s ∨ onceErr s wall ≠ 0
    · have HE := hid (show dealErr s wall cut dl = 3 by unfold dealErr; rw [if_neg (by omega), if_pos e3])
      have SZ := hid SZ
      have ON := hid ON
      by_cases e4 : (wall.length : Int) = sizeI s
      · have e5 : (onceErr s wall != 0) = true := by simp; omega
        have n1 : ((wall.length : Int) != sizeI s) = false := by simp [e4]
        clear e3 e V e4
        generalize onceErr s wall = oe at *
        generalize sizeI s = n at *
        go_enter Try.func25, Try.ntmps25
        go_wp2_with (first
          | (go_at_call 38; refine (CH.out _ HG0.out).mono ?_; rintro e w1 ⟨rfl, hg1⟩; have hg := HG0.out.trans hg1; obtain ⟨c0, c1, c2, c3, c4, c5, c6, c7, c8⟩ := set_cells (HB0.out.grow hg1))
          | (go_at_call 30; refine (SZ.out _ hg).mono ?_; rintro e w2 ⟨rfl, hg2⟩; have hgg := hg.trans hg2; clear c0 c1 c2 c3 c4 c5 c6 c7 c8; obtain ⟨c0, c1, c2, c3, c4, c5, c6, c7, c8⟩ := set_cells ((HB0.out.grow hg1).grow hg2))
          | (go_at_call 81; refine (ON.out _ hgg).mono ?_; rintro e w3 ⟨rfl, hg3⟩; have hg4 := hgg.trans hg3; have b4 := ((HB0.out.grow hg1).grow hg2).grow hg3; clear c0 c1 c2 c3 c4 c5 c6 c7 c8; obtain ⟨c0, c1, c2, c3, c4, c5, c6, c7, c8⟩ := set_cells b4))
        refine bodyPost_ret (results_tmp4 rfl _ _ _) rfl ?_
        exact HF.out _ _ HE.out (by decide) hg4
      · have n1 : ((wall.length : Int) != sizeI s) = true := by simp [e4]
        clear e3 e V e4
        generalize sizeI s = n at *
        go_enter Try.func25, Try.ntmps25
        go_wp2_with (first
          | (go_at_call 38; refine (CH.out _ HG0.out).mono ?_; rintro e w1 ⟨rfl, hg1⟩; have hg := HG0.out.trans hg1; obtain ⟨c0, c1, c2, c3, c4, c5, c6, c7, c8⟩ := set_cells (HB0.out.grow hg1))
          | (go_at_call 30; refine (SZ.out _ hg).mono ?_; rintro e w2 ⟨rfl, hg2⟩; have hgg := hg.trans hg2; clear c0 c1 c2 c3 c4 c5 c6 c7 c8; obtain ⟨c0, c1, c2, c3, c4, c5, c6, c7, c8⟩ := set_cells ((HB0.out.grow hg1).grow hg2)))
        refine bodyPost_ret (results_tmp4 rfl _ _ _) rfl ?_
        exact HF.out _ _ HE.out (by decide) hgg
    · obtain ⟨e4, e5⟩ : (wall.length : Int) = sizeI s ∧ onceErr s wall = 0 := by omega
      have n1 : ((wall.length : Int) != sizeI s) = false := by simp [e4]
      rw [e5] at ON
      have SZ := hid SZ
      have ON := hid ON
      by_cases e6 : cut < 0 ∨ sizeI s ≤ cut ∨ dl < 0 ∨ s.pl ≤ dl
      · have HE := hid (show dealErr s wall cut dl = 2 by unfold dealErr; rw [if_neg (by omega), if_neg e3, if_pos e6])
        clear e3 e V e4 e5
        generalize sizeI s = n at *
        go_enter Try.func25, Try.ntmps25
        go_wp2_with (first
          | (go_at_call 38; refine (CH.out _ HG0.out).mono ?_; rintro e w1 ⟨rfl, hg1⟩; have hg := HG0.out.trans hg1; obtain ⟨c0, c1, c2, c3, c4, c5, c6, c7, c8⟩ := set_cells (HB0.out.grow hg1))
          | (go_at_call 30; refine (SZ.out _ hg).mono ?_; rintro e w2 ⟨rfl, hg2⟩; have hgg := hg.trans hg2; clear c0 c1 c2 c3 c4 c5 c6 c7 c8; obtain ⟨c0, c1, c2, c3, c4, c5, c6, c7, c8⟩ := set_cells ((HB0.out.grow hg1).grow hg2))
          | (go_at_call 81; refine (ON.out _ hgg).mono ?_; rintro e w3 ⟨rfl, hg3⟩; have hg4 := hgg.trans hg3; have b4 := ((HB0.out.grow hg1).grow hg2).grow hg3; clear c0 c1 c2 c3 c4 c5 c6 c7 c8; obtain ⟨c0, c1, c2, c3, c4, c5, c6, c7, c8⟩ := set_cells b4))
        all_goals first
          | (exfalso; omega)
          | (refine bodyPost_ret (results_tmp4 rfl _ _ _) rfl ?_
             exact HF.out _ _ HE.out (by decide) hg4)
      · exact Deal_ok _ _ s wall cut dl w HI.out H2.out e e4 e5 e6
  · have HE := hid (show dealErr s wall cut dl = chkErr s by unfold dealErr; rw [if_pos e])
    have ne : (chkErr s != 0) = true := by simp [e]
    have HN := hid e
    have CH := hid CH
    clear e SZ ON
    generalize chkErr s = z at *
    go_enter Try.func25, Try.ntmps25
    go_wp2_with (go_at_call 38; refine (CH.out _ HG0.out).mono ?_; rintro e w1 ⟨rfl, hg1⟩; have hg := HG0.out.trans hg1)
    refine bodyPost_ret (results_tmp4 rfl _ _ _) rfl ?_
    exact HF.out _ _ HE.out HN.out hg
end Go.Proofs.Ytjiahcfegfimmaa

/-
  Another dealer gets what the dealer got. Plain laws.
-/
namespace Go.Proofs.Ytjiahcfegfimmaa

theorem seat_inj {P d a b : Nat} (hd : d < P) (ha : a < P) (hb : b < P) (he : (d + a) % P = (d + b) % P) : a = b := by
  have hmod : ∀ a, a < P → (d + a) % P = if d + a < P then d + a else d + a - P := fun a ha => by
    split
    · exact Nat.mod_eq_of_lt (by omega)
    · rw [Nat.mod_eq_sub_mod (by omega), Nat.mod_eq_of_lt (by omega)]
  rw [hmod a ha, hmod b hb] at he
  split at he <;> split at he <;> omega
theorem giveN_at {P d m : Nat} {hs : List (List Int)} {r : List Int} (hl : hs.length = P) (hd : d < P) : ∀ i, i ≤ P → ∀ k, k < P →
    (giveN P d m i hs r).getD ((d + k) % P) [] = hs.getD ((d + k) % P) [] ++ (if k < i then (r.drop (k * m)).take m else []) := by
  intro i
  induction i with
  | zero => intro _ k hk; simp [giveN]
  | succ i ih =>
    intro hi k hk
    have h1 := ih (by omega) k hk
    have hP : 0 < P := by omega
    have hlt : (d + k) % P < (giveN P d m i hs r).length := by rw [giveN_length, hl]; exact Nat.mod_lt _ hP
    rw [giveN, List.getD_eq_getElem?_getD, List.getElem?_set]
    by_cases he : (d + i) % P = (d + k) % P
    · obtain rfl := seat_inj hd (by omega) hk he
      rw [if_pos rfl, if_pos hlt, Option.getD_some, h1, if_neg (by omega), if_pos (by omega), List.append_nil]
    · rw [if_neg he, ← List.getD_eq_getElem?_getD, h1]
      by_cases hki : k < i
      · rw [if_pos hki, if_pos (by omega)]
      · have : k ≠ i := fun e => he (by rw [e])
        rw [if_neg hki, if_neg (by omega)]
theorem dealF_rot {P d d' : Nat} (hd : d < P) (hd' : d' < P) : ∀ (f lack : Nat) (hs hs' : List (List Int)) (r : List Int), hs.length = P → hs'.length = P → (∀ k, k < P → hs.getD ((d + k) % P) [] = hs'.getD ((d' + k) % P) []) →
    ∀ k, k < P → (dealF P d f lack hs r).1.getD ((d + k) % P) [] = (dealF P d' f lack hs' r).1.getD ((d' + k) % P) [] := by
  intro f
  induction f with
  | zero => intro lack hs hs' r _ _ h; exact h
  | succ f ih =>
    intro lack hs hs' r hl hl' h
    by_cases h0 : lack = 0
    · subst h0; rw [dealF_zero, dealF_zero]; exact h
    rw [dealF_succ (by omega), dealF_succ (by omega)]
    refine ih _ _ _ _ (by rw [giveN_length, hl]) (by rw [giveN_length, hl']) fun k hk => ?_
    rw [giveN_at hl hd P (Nat.le_refl _) k hk, giveN_at hl' hd' P (Nat.le_refl _) k hk, h k hk]
theorem dealF_len {P d : Nat} : ∀ (f lack : Nat) (hs : List (List Int)) (r : List Int), (dealF P d f lack hs r).1.length = hs.length := by
  intro f
  induction f with
  | zero => intro lack hs r; rfl
  | succ f ih =>
    intro lack hs r
    by_cases h0 : lack = 0
    · subst h0; rw [dealF_zero]
    · rw [dealF_succ (by omega), ih, giveN_length]
end Go.Proofs.Ytjiahcfegfimmaa

/-
  The walk of the chapter's examples that every tile law asks.
-/
namespace Go.Proofs.Ytjiahcfegfimmaa
open Go.RowKit

theorem isInts_lit (w : World) (zs : List Int) (h : zs.length ≤ 1000000) : IsInts (w.alloc (.cells (ints zs).toArray 3)) (.slice (some ⟨w.heap.size, 0, none⟩) zs.length zs.length) zs :=
  (Blk.new_at (xs := ints zs) rfl).is (by unfold maxLen; omega)
theorem Equal_same (v1 v2 : Value) (zs : List Int) (w : World) (h1 : IsInts w v1 zs) (h2 : IsInts w v2 zs) : Calls Try.prog 22 #[v1, v2] w (Says w (.bool true)) := by
  have h := Equal_any v1 v2 zs zs w h1 h2
  rwa [decide_eq_true rfl] at h
def awakeF : List FaceZ := [0, 1, 2, 104, 4, 27, 31].map faceOf
theorem awake_textErr : textErr bigT awakeF = 0 := by decide +kernel
theorem awake_textB : textB bigT awakeF = [49, 50, 51, 109, 53, 77, 53, 109, 49, 119, 49, 100] := by decide +kernel
theorem awake_text : textV bigT awakeF = ⟨#[49, 50, 51, 109, 53, 77, 53, 109, 49, 119, 49, 100]⟩ := by
  unfold textV
  rw [if_pos awake_textErr, awake_textB]
  rfl
theorem big_size : sizeI bigT = 136 := by decide +kernel
theorem tiny_size : sizeI tinyT = 16 := by decide +kernel
theorem big_after : afterI bigT 30 = 27 := by decide +kernel
theorem tiny_deal : dealErr tinyT (upto 16) 14 1 = 0 := by decide +kernel
theorem tiny_live : liveI tinyT (upto 16) 14 1 = [10, 11] := by decide +kernel
theorem tiny_wall : (wallI tinyT 0).length = 16 := by rw [wall_length, tiny_size]; rfl
/-- The deal of the small set. -/
def TinyDealt (w : World) (e : Ending) (w' : World) : Prop := ∃ v1 v2 v3, e = .returned (.tuple #[v1, v2, v3, .int .i64 0]) ∧ Grow w w' ∧ IsInts w' v2 [10, 11]
theorem tiny_dealt (v v2 : Value) (w : World) (h : IsSet w v tinyT) (h2 : IsInts w v2 (upto 16)) : Calls Try.prog 25 #[v, v2, .int .i64 14, .int .i64 1] w (TinyDealt w) := by
  refine (Deal_any v v2 tinyT (upto 16) 14 1 w h h2).mono ?_
  rintro e w' ⟨a, b, c, rfl, hg, _, h⟩
  obtain ⟨i1, _⟩ := h tiny_deal
  rw [tiny_live] at i1
  rw [tiny_deal]
  exact ⟨a, b, c, rfl, hg, i1⟩
/-- A text that is known. -/
def GotText (w : World) (e : Ending) (w' : World) : Prop := e = .returned (.tuple #[.string ⟨#[49, 50, 51, 109, 53, 77, 53, 109, 49, 119, 49, 100]⟩, .int .i64 0]) ∧ Grow w w'
theorem got_text (v vl : Value) (w : World) (h : IsSet w v bigT) (h2 : IsFaces w vl awakeF) : Calls Try.prog 19 #[v, vl] w (GotText w) := by
  have h := Text_any v vl bigT awakeF w h h2 (by decide)
  rw [awake_text, awake_textErr] at h
  exact h
def GotWall (w : World) (e : Ending) (w' : World) : Prop := ∃ A c, e = .returned (.slice A 16 c) ∧ Grow w w'
theorem got_wall (v : Value) (w : World) (h : IsSet w v tinyT) : Calls Try.prog 23 #[v, .int .u64 0] w (GotWall w) := by
  refine (Wall_any v tinyT 0 w h).mono ?_
  rintro e w' ⟨v, rfl, ⟨A, c, rfl, _⟩, hg⟩
  rw [tiny_wall]
  exact ⟨A, c, rfl, hg⟩
theorem faces_awake (v : Value) (w : World) (h : IsInts w v [0, 1, 2, 104, 4, 27, 31]) : Calls Try.prog 77 #[v] w (FacesRes w awakeF) := faces_any v _ w h (by decide) (by decide)

set_option maxRecDepth 100000 in
set_option maxHeartbeats 4000000 in
theorem awake_any (w : World) : Calls Try.prog 21 #[] w (Gives w (.bool true)) := by
  go_enter Try.func21, Try.ntmps21
  go_wp2_with fail
  refine (Big_any _).mono ?_
  rintro e w1 ⟨vB, rfl, hB, hgB⟩
  go_wp2_with fail
  refine (Tiny_any _).mono ?_
  rintro e w2 ⟨vT, rfl, hT, hgT⟩
  have hB := hB.grow hgT
  obtain ⟨A, c, B, d, rfl, h1, h2⟩ := hB.open_
  obtain ⟨A', c', B', d', rfl, h1', h2'⟩ := hT.open_
  clear h1 h2 h1' h2'
  go_wp2
  have b1 : Blk ((w2.alloc (.cells #[.int .i64 bigT.pl, .slice A bigT.su.length c, .int .i64 bigT.wi, .int .i64 bigT.dr, .int .i64 bigT.fl, .int .i64 bigT.co, .int .i64 bigT.me, .int .i64 bigT.de, .slice B bigT.re.length d] 24)).alloc (.cells #[.int .i64 tinyT.pl, .slice A' tinyT.su.length c', .int .i64 tinyT.wi, .int .i64 tinyT.dr, .int .i64 tinyT.fl, .int .i64 tinyT.co, .int .i64 tinyT.me, .int .i64 tinyT.de, .slice B' tinyT.re.length d'] 24)) w2.heap.size 24 (setVals bigT (.slice A bigT.su.length c) (.slice B bigT.re.length d)) := Blk.grow (show Blk _ _ _ (setVals bigT (.slice A bigT.su.length c) (.slice B bigT.re.length d)) from Blk.new_at rfl) ((Grow.refl _).alloc _)
  have b2 : Blk ((w2.alloc (.cells #[.int .i64 bigT.pl, .slice A bigT.su.length c, .int .i64 bigT.wi, .int .i64 bigT.dr, .int .i64 bigT.fl, .int .i64 bigT.co, .int .i64 bigT.me, .int .i64 bigT.de, .slice B bigT.re.length d] 24)).alloc (.cells #[.int .i64 tinyT.pl, .slice A' tinyT.su.length c', .int .i64 tinyT.wi, .int .i64 tinyT.dr, .int .i64 tinyT.fl, .int .i64 tinyT.co, .int .i64 tinyT.me, .int .i64 tinyT.de, .slice B' tinyT.re.length d'] 24)) (w2.heap.size + 1) 24 (setVals tinyT (.slice A' tinyT.su.length c') (.slice B' tinyT.re.length d')) := Blk.new_at (by simp)
  have g3 : Grow w2 ((w2.alloc (.cells #[.int .i64 bigT.pl, .slice A bigT.su.length c, .int .i64 bigT.wi, .int .i64 bigT.dr, .int .i64 bigT.fl, .int .i64 bigT.co, .int .i64 bigT.me, .int .i64 bigT.de, .slice B bigT.re.length d] 24)).alloc (.cells #[.int .i64 tinyT.pl, .slice A' tinyT.su.length c', .int .i64 tinyT.wi, .int .i64 tinyT.dr, .int .i64 tinyT.fl, .int .i64 tinyT.co, .int .i64 tinyT.me, .int .i64 tinyT.de, .slice B' tinyT.re.length d'] 24)) := ((Grow.refl _).alloc _).alloc _
  have gz := (hgB.trans hgT).trans g3
  have hB := hB.grow g3
  have hT := hT.grow g3
  clear g3 hgB hgT
  generalize w2.heap.size = g at *
  generalize (w2.alloc (.cells #[.int .i64 bigT.pl, .slice A bigT.su.length c, .int .i64 bigT.wi, .int .i64 bigT.dr, .int .i64 bigT.fl, .int .i64 bigT.co, .int .i64 bigT.me, .int .i64 bigT.de, .slice B bigT.re.length d] 24)).alloc (.cells #[.int .i64 tinyT.pl, .slice A' tinyT.su.length c', .int .i64 tinyT.wi, .int .i64 tinyT.dr, .int .i64 tinyT.fl, .int .i64 tinyT.co, .int .i64 tinyT.me, .int .i64 tinyT.de, .slice B' tinyT.re.length d'] 24) = wz at *
  have KS := hid (fun W (hg : Grow wz W) => And.intro hg (set_cells (b1.grow hg)))
  have KT := hid (fun W (hg : Grow wz W) => And.intro hg (set_cells (b2.grow hg)))
  have GZ := hid gz
  have GT := hid (fun W v (hg : Grow wz W) (h : IsFaces W v awakeF) => got_text _ v W (hB.grow hg) h)
  have GD := hid (fun W v (hg : Grow wz W) (h : IsInts W v (upto 16)) => tiny_dealt _ v W (hT.grow hg) h)
  have GS := hid (fun W (hg : Grow wz W) => (by have h := Size_any _ bigT W (hB.grow hg); rw [big_size] at h; exact h : Calls Try.prog 30 #[.agg #[.int .i64 bigT.pl, .slice A bigT.su.length c, .int .i64 bigT.wi, .int .i64 bigT.dr, .int .i64 bigT.fl, .int .i64 bigT.co, .int .i64 bigT.me, .int .i64 bigT.de, .slice B bigT.re.length d]] W (Gives W (.int .i64 136))))
  have GA := hid (fun W (hg : Grow wz W) => (by have h := After_any _ bigT 30 W (hB.grow hg); rw [big_after] at h; exact h : Calls Try.prog 36 #[.agg #[.int .i64 bigT.pl, .slice A bigT.su.length c, .int .i64 bigT.wi, .int .i64 bigT.dr, .int .i64 bigT.fl, .int .i64 bigT.co, .int .i64 bigT.me, .int .i64 bigT.de, .slice B bigT.re.length d], .int .i64 30] W (Gives W (.int .i64 27))))
  have GW := hid (fun W (hg : Grow wz W) => got_wall _ W (hT.grow hg))
  clear b1 b2 hB hT gz
  go_region_held3 (fun W => Grow wz W ∧ W.cell? ⟨g, 0, none⟩ = some (.int .i64 bigT.pl) ∧ W.cell? ⟨g, 1, none⟩ = some (.slice A bigT.su.length c) ∧ W.cell? ⟨g, 2, none⟩ = some (.int .i64 bigT.wi) ∧ W.cell? ⟨g, 3, none⟩ = some (.int .i64 bigT.dr) ∧ W.cell? ⟨g, 4, none⟩ = some (.int .i64 bigT.fl) ∧ W.cell? ⟨g, 5, none⟩ = some (.int .i64 bigT.co) ∧ W.cell? ⟨g, 6, none⟩ = some (.int .i64 bigT.me) ∧ W.cell? ⟨g, 7, none⟩ = some (.int .i64 bigT.de) ∧ W.cell? ⟨g, 8, none⟩ = some (.slice B bigT.re.length d))
    (exact KS.out _ (by first | assumption | exact (Grow.refl _).drew | exact ((Grow.refl wz).alloc _).drew))
    (first
      | (go_at_call 77; have hS := (‹Grow wz _ ∧ _›).1; refine (faces_awake _ _ (by first | exact isInts_lit _ [0, 1, 2, 104, 4, 27, 31] (by decide) | exact (isInts_lit _ [0, 1, 2, 104, 4, 27, 31] (by decide)).grow (Grow.refl _).drew)).mono ?_; rintro e wA ⟨vA, rfl, oA, hgA⟩; have hkA := hS.trans hgA)
      | (go_at_call 19; have hS := (‹Grow wz _ ∧ _›).1; refine (GT.out _ _ hS oA.is).mono ?_; rintro e wB ⟨rfl, hgB⟩; have hkB := hS.trans hgB))
  all_goals
    go_wp2
    go_region_held3 (fun W => Grow wz W ∧ W.cell? ⟨g + 1, 0, none⟩ = some (.int .i64 tinyT.pl) ∧ W.cell? ⟨g + 1, 1, none⟩ = some (.slice A' tinyT.su.length c') ∧ W.cell? ⟨g + 1, 2, none⟩ = some (.int .i64 tinyT.wi) ∧ W.cell? ⟨g + 1, 3, none⟩ = some (.int .i64 tinyT.dr) ∧ W.cell? ⟨g + 1, 4, none⟩ = some (.int .i64 tinyT.fl) ∧ W.cell? ⟨g + 1, 5, none⟩ = some (.int .i64 tinyT.co) ∧ W.cell? ⟨g + 1, 6, none⟩ = some (.int .i64 tinyT.me) ∧ W.cell? ⟨g + 1, 7, none⟩ = some (.int .i64 tinyT.de) ∧ W.cell? ⟨g + 1, 8, none⟩ = some (.slice B' tinyT.re.length d'))
      (exact KT.out _ (by first | assumption | exact hkB.drew))
      (first
        | (go_at_call 32; have hS := (‹Grow wz _ ∧ _›).1; refine (countL_any 16 _ (by decide)).mono ?_; rintro e wC ⟨vC, rfl, oC, hgC⟩; have hkC := hS.trans hgC)
        | (go_at_call 25; have hS := (‹Grow wz _ ∧ _›).1; refine (GD.out _ _ hS oC.is).mono ?_; rintro e wD ⟨x1, x2, x3, rfl, hgD, iD⟩; have hkD := hS.trans hgD))
    all_goals
      obtain ⟨-, c0, c1, c2, c3, c4, c5, c6, c7, c8⟩ := KS.out _ hkD
      go_wp2_with (first
        | (go_at_call 30; refine (GS.out _ hkD).mono ?_; rintro e wE ⟨rfl, hgE⟩; have hkE := hkD.trans hgE; clear c0 c1 c2 c3 c4 c5 c6 c7 c8; obtain ⟨-, c0, c1, c2, c3, c4, c5, c6, c7, c8⟩ := KS.out _ hkE)
        | (go_at_call 36; refine (GA.out _ hkE).mono ?_; rintro e wF ⟨rfl, hgF⟩; have hkF := hkE.trans hgF; clear c0 c1 c2 c3 c4 c5 c6 c7 c8)
        | (go_at_call 22; refine (Equal_same _ _ [10, 11] _ (iD.grow ((hgE.trans hgF).trans ((Grow.refl _).alloc _))) (isInts_lit _ [10, 11] (by decide))).mono ?_; rintro e wG ⟨rfl, nG, rfl⟩; have hkG := (hkF.alloc (.cells #[.int .i64 10, .int .i64 11] 3)).drewN nG; obtain ⟨-, c0, c1, c2, c3, c4, c5, c6, c7, c8⟩ := KT.out _ hkG)
        | (go_at_call 23; refine (GW.out _ hkG).mono ?_; rintro e wH ⟨A9, c9, rfl, hgH⟩; have hkH := hkG.trans hgH))
      go_ret
      exact ⟨rfl, GZ.out.trans hkH⟩
end Go.Proofs.Ytjiahcfegfimmaa
