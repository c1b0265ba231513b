/-
  The walks of places and notes at the sets Big and Tiny.
-/
import Derived.Test.YtjiahcfegfimmaaKnown24
import Derived.Test.YtjiahcfegfimmaaKnown30
import Derived.Test.YtjiahcfegfimmaaKnown41
import Derived.Test.YtjiahcfegfimmaaKnown23
import Derived.Test.YtjiahcfegfimmaaKnown44
import Derived.Test.YtjiahcfegfimmaaKnown45
namespace Go.Proofs.Ytjiahcfegfimmaa
open Go.RowKit

theorem at_place (v : Value) (s : TSet) (k a b : Int) (w : World) (h : IsSet w v s) (e : placeP s k = (a, b)) : Calls Try.prog 35 #[v, .int .i64 k] w (Gives w (.tuple #[.int .i64 a, .int .i64 b])) := by
  have h := Place_any v s k w h
  rwa [e] at h
theorem at_runs (v : Value) (s : TSet) (k : Int) (b : Bool) (w : World) (h : IsSet w v s) (e : runsB s k = b) : Calls Try.prog 51 #[v, .int .i64 k] w (Gives w (.bool b)) := by
  have h := Runs_any v s k w h
  rwa [e] at h
theorem at_after (v : Value) (s : TSet) (k a : Int) (w : World) (h : IsSet w v s) (e : afterI s k = a) : Calls Try.prog 36 #[v, .int .i64 k] w (Gives w (.int .i64 a)) := by
  have h := After_any v s k w h
  rwa [e] at h
theorem at_mirror (v : Value) (s : TSet) (k a : Int) (w : World) (h : IsSet w v s) (e : mirrorI s k = a) : Calls Try.prog 47 #[v, .int .i64 k] w (Gives w (.int .i64 a)) := by
  have h := Mirror_any v s k w h
  rwa [e] at h
theorem at_swap (v : Value) (s : TSet) (k a b r : Int) (w : World) (h : IsSet w v s) (e : swapI s k a b = r) : Calls Try.prog 49 #[v, .int .i64 k, .int .i64 a, .int .i64 b] w (Gives w (.int .i64 r)) := by
  have h := Swap_any v s k a b w h
  rwa [e] at h
/-- A list of numbers handed back, opened. -/
def IntsIs (w : World) (zs : List Int) (e : Ending) (w' : World) : Prop := ∃ A c, e = .returned (.slice A zs.length c) ∧ IsInts w' (.slice A zs.length c) zs ∧ Grow w w'
theorem at_orphans (v : Value) (s : TSet) (zs : List Int) (w : World) (h : IsSet w v s) (e : orphansI s = zs) : Calls Try.prog 52 #[v] w (IntsIs w zs) := by
  refine (Orphans_any v s w h).mono ?_
  rintro e' w' ⟨v', rfl, i, hg⟩
  rw [e] at i
  obtain ⟨A, c, rfl, _⟩ := id i
  exact ⟨A, c, rfl, i, hg⟩
/-- A list and an error handed back, opened. -/
def IntsErr (w : World) (zs : List Int) (r : Int) (e : Ending) (w' : World) : Prop := ∃ A c, e = .returned (.tuple #[.slice A zs.length c, .int .i64 r]) ∧ IsInts w' (.slice A zs.length c) zs ∧ Grow w w'
theorem at_bag (v v2 : Value) (s : TSet) (ts zs : List Int) (r : Int) (w : World) (h : IsSet w v s) (h2 : IsInts w v2 ts) (hz : RangeZ ts) (hl : ts.length ≤ 1000000) (e1 : onceErr s ts = r) (e2 : bagV s ts = zs) : Calls Try.prog 62 #[v, v2] w (IntsErr w zs r) := by
  refine (Bag_any v v2 s ts w h h2 hz hl).mono ?_
  rintro e' w' ⟨v', rfl, i, hg⟩
  rw [e2] at i
  rw [e1]
  obtain ⟨A, c, rfl, _⟩ := id i
  exact ⟨A, c, rfl, i, hg⟩
def FacesErr (w : World) (r : Int) (e : Ending) (w' : World) : Prop := ∃ A n c, e = .returned (.tuple #[.slice A n c, .int .i64 r]) ∧ Grow w w'
theorem at_read (v : Value) (s : TSet) (str : ByteArray) (l : List Int) (r : Int) (w : World) (h : IsSet w v s) (hb : ∀ z ∈ l, 0 ≤ z ∧ z < 128) (hl : l.length ≤ 1000000) (e0 : str = strOfNums l) (e : (readR s l).1 = r) : Calls Try.prog 67 #[v, .string str] w (FacesErr w r) := by
  subst e0
  refine (Read_any v s l w h hb hl).mono ?_
  rintro e' w' ⟨v', rfl, i, hg⟩
  rw [e]
  obtain ⟨A, c, rfl, _⟩ := id i
  exact ⟨A, _, c, rfl, hg⟩

set_option maxRecDepth 100000 in
set_option maxHeartbeats 4000000 in
theorem places_known (v1 v2 : Value) (s t : TSet) (w : World) (h1 : IsSet w v1 s) (h2 : IsSet w v2 t) (hs : s = bigT) (ht : t = tinyT) : Calls Try.prog 70 #[v1, v2] w (Gives w (.bool true)) := by
  have P1 := hid (fun W (hg : Grow w W) => at_place v1 s 13 1 4 W (h1.grow hg) (by rw [hs]; decide +kernel))
  have P2 := hid (fun W (hg : Grow w W) => at_place v1 s 27 (-1) 0 W (h1.grow hg) (by rw [hs]; decide +kernel))
  have P3 := hid (fun W (hg : Grow w W) => at_place v1 s 33 (-2) 2 W (h1.grow hg) (by rw [hs]; decide +kernel))
  have P4 := hid (fun W (hg : Grow w W) => at_place v1 s 34 (-4) 0 W (h1.grow hg) (by rw [hs]; decide +kernel))
  have R1 := hid (fun W (hg : Grow w W) => at_runs v1 s 6 true W (h1.grow hg) (by rw [hs]; decide +kernel))
  have R2 := hid (fun W (hg : Grow w W) => at_runs v1 s 7 false W (h1.grow hg) (by rw [hs]; decide +kernel))
  have O1 := hid (fun W (hg : Grow w W) => at_orphans v2 t [0, 2, 3] W (h2.grow hg) (by rw [ht]; decide +kernel))
  have A1 := hid (fun W (hg : Grow w W) => at_after v1 s 8 0 W (h1.grow hg) (by rw [hs]; decide +kernel))
  have A2 := hid (fun W (hg : Grow w W) => at_after v1 s 27 28 W (h1.grow hg) (by rw [hs]; decide +kernel))
  have A3 := hid (fun W (hg : Grow w W) => at_after v1 s 33 31 W (h1.grow hg) (by rw [hs]; decide +kernel))
  have A4 := hid (fun W (hg : Grow w W) => at_after v2 t 3 3 W (h2.grow hg) (by rw [ht]; decide +kernel))
  have M1 := hid (fun W (hg : Grow w W) => at_mirror v1 s 1 7 W (h1.grow hg) (by rw [hs]; decide +kernel))
  have S1 := hid (fun W (hg : Grow w W) => at_swap v1 s 1 0 2 19 W (h1.grow hg) (by rw [hs]; decide +kernel))
  have S2 := hid (fun W (hg : Grow w W) => at_swap v1 s 1 0 3 1 W (h1.grow hg) (by rw [hs]; decide +kernel))
  have S3 := hid (fun W (hg : Grow w W) => at_swap v1 s 10 0 2 10 W (h1.grow hg) (by rw [hs]; decide +kernel))
  obtain ⟨A, c, B, d, rfl, _, _⟩ := h1.open_
  obtain ⟨A', c', B', d', rfl, _, _⟩ := h2.open_
  clear h1 h2 hs ht
  go_enter Try.func70, Try.ntmps70
  have b1 : Blk ((w.alloc (.cells #[.int .i64 s.pl, .slice A s.su.length c, .int .i64 s.wi, .int .i64 s.dr, .int .i64 s.fl, .int .i64 s.co, .int .i64 s.me, .int .i64 s.de, .slice B s.re.length d] 24)).alloc (.cells #[.int .i64 t.pl, .slice A' t.su.length c', .int .i64 t.wi, .int .i64 t.dr, .int .i64 t.fl, .int .i64 t.co, .int .i64 t.me, .int .i64 t.de, .slice B' t.re.length d'] 24)) w.heap.size 24 (setVals s (.slice A s.su.length c) (.slice B s.re.length d)) := Blk.grow (show Blk _ _ _ (setVals s (.slice A s.su.length c) (.slice B s.re.length d)) from Blk.new_at rfl) ((Grow.refl _).alloc _)
  have b2 : Blk ((w.alloc (.cells #[.int .i64 s.pl, .slice A s.su.length c, .int .i64 s.wi, .int .i64 s.dr, .int .i64 s.fl, .int .i64 s.co, .int .i64 s.me, .int .i64 s.de, .slice B s.re.length d] 24)).alloc (.cells #[.int .i64 t.pl, .slice A' t.su.length c', .int .i64 t.wi, .int .i64 t.dr, .int .i64 t.fl, .int .i64 t.co, .int .i64 t.me, .int .i64 t.de, .slice B' t.re.length d'] 24)) (w.heap.size + 1) 24 (setVals t (.slice A' t.su.length c') (.slice B' t.re.length d')) := Blk.new_at (by simp)
  have g3 : Grow w ((w.alloc (.cells #[.int .i64 s.pl, .slice A s.su.length c, .int .i64 s.wi, .int .i64 s.dr, .int .i64 s.fl, .int .i64 s.co, .int .i64 s.me, .int .i64 s.de, .slice B s.re.length d] 24)).alloc (.cells #[.int .i64 t.pl, .slice A' t.su.length c', .int .i64 t.wi, .int .i64 t.dr, .int .i64 t.fl, .int .i64 t.co, .int .i64 t.me, .int .i64 t.de, .slice B' t.re.length d'] 24)) := ((Grow.refl _).alloc _).alloc _
  have BB := hid (And.intro g3 (And.intro b1 b2))
  clear b1 b2 g3
  go_upto_region 1 with fail
  obtain ⟨g3, b1, b2⟩ := BB.out
  clear BB
  generalize w.heap.size = g at *
  generalize (w.alloc (.cells #[.int .i64 s.pl, .slice A s.su.length c, .int .i64 s.wi, .int .i64 s.dr, .int .i64 s.fl, .int .i64 s.co, .int .i64 s.me, .int .i64 s.de, .slice B s.re.length d] 24)).alloc (.cells #[.int .i64 t.pl, .slice A' t.su.length c', .int .i64 t.wi, .int .i64 t.dr, .int .i64 t.fl, .int .i64 t.co, .int .i64 t.me, .int .i64 t.de, .slice B' t.re.length d'] 24) = wz at *
  have KS := hid (fun W (hg : Grow wz W) => And.intro hg (set_cells (b1.grow hg)))
  have KT := hid (fun W (hg : Grow wz W) => And.intro hg (set_cells (b2.grow hg)))
  have HK := hid g3
  have hk := Grow.refl wz
  obtain ⟨-, c0, c1, c2, c3, c4, c5, c6, c7, c8⟩ := KS.out _ hk
  obtain ⟨-, d0, d1, d2, d3, d4, d5, d6, d7, d8⟩ := KT.out _ hk
  clear b1 b2 g3
  go_upto_region 2 with (go_at_call 35; ((with_reducible refine (P1.out _ (HK.out.trans hk)).mono ?_); rintro e w' ⟨rfl, hg'⟩; replace hk := hk.trans hg'; clear c0 c1 c2 c3 c4 c5 c6 c7 c8 d0 d1 d2 d3 d4 d5 d6 d7 d8; obtain ⟨-, c0, c1, c2, c3, c4, c5, c6, c7, c8⟩ := KS.out _ hk; obtain ⟨-, d0, d1, d2, d3, d4, d5, d6, d7, d8⟩ := KT.out _ hk))
  go_upto_region 3 with (go_at_call 35; ((with_reducible refine (P2.out _ (HK.out.trans hk)).mono ?_); rintro e w' ⟨rfl, hg'⟩; replace hk := hk.trans hg'; clear c0 c1 c2 c3 c4 c5 c6 c7 c8 d0 d1 d2 d3 d4 d5 d6 d7 d8; obtain ⟨-, c0, c1, c2, c3, c4, c5, c6, c7, c8⟩ := KS.out _ hk; obtain ⟨-, d0, d1, d2, d3, d4, d5, d6, d7, d8⟩ := KT.out _ hk))
  go_upto_region 4 with (go_at_call 35; ((with_reducible refine (P3.out _ (HK.out.trans hk)).mono ?_); rintro e w' ⟨rfl, hg'⟩; replace hk := hk.trans hg'; clear c0 c1 c2 c3 c4 c5 c6 c7 c8 d0 d1 d2 d3 d4 d5 d6 d7 d8; obtain ⟨-, c0, c1, c2, c3, c4, c5, c6, c7, c8⟩ := KS.out _ hk; obtain ⟨-, d0, d1, d2, d3, d4, d5, d6, d7, d8⟩ := KT.out _ hk))
  go_upto_region 5 with (go_at_call 35; ((with_reducible refine (P4.out _ (HK.out.trans hk)).mono ?_); rintro e w' ⟨rfl, hg'⟩; replace hk := hk.trans hg'; clear c0 c1 c2 c3 c4 c5 c6 c7 c8 d0 d1 d2 d3 d4 d5 d6 d7 d8; obtain ⟨-, c0, c1, c2, c3, c4, c5, c6, c7, c8⟩ := KS.out _ hk; obtain ⟨-, d0, d1, d2, d3, d4, d5, d6, d7, d8⟩ := KT.out _ hk))
  go_upto_region 6 with fail
  go_upto_region 7 with (first
    | (go_at_call 51; first | ((with_reducible refine (R1.out _ (HK.out.trans hk)).mono ?_); rintro e w' ⟨rfl, hg'⟩; replace hk := hk.trans hg'; clear c0 c1 c2 c3 c4 c5 c6 c7 c8 d0 d1 d2 d3 d4 d5 d6 d7 d8; obtain ⟨-, c0, c1, c2, c3, c4, c5, c6, c7, c8⟩ := KS.out _ hk; obtain ⟨-, d0, d1, d2, d3, d4, d5, d6, d7, d8⟩ := KT.out _ hk) | ((with_reducible refine (R2.out _ (HK.out.trans hk)).mono ?_); rintro e w' ⟨rfl, hg'⟩; replace hk := hk.trans hg'; clear c0 c1 c2 c3 c4 c5 c6 c7 c8 d0 d1 d2 d3 d4 d5 d6 d7 d8; obtain ⟨-, c0, c1, c2, c3, c4, c5, c6, c7, c8⟩ := KS.out _ hk; obtain ⟨-, d0, d1, d2, d3, d4, d5, d6, d7, d8⟩ := KT.out _ hk))
    | (go_at_call 52; refine (O1.out _ (HK.out.trans hk)).mono ?_; rintro e w' ⟨AO, cO, rfl, iO, hg'⟩; replace hk := hk.trans hg'; clear c0 c1 c2 c3 c4 c5 c6 c7 c8 d0 d1 d2 d3 d4 d5 d6 d7 d8; obtain ⟨-, c0, c1, c2, c3, c4, c5, c6, c7, c8⟩ := KS.out _ hk; obtain ⟨-, d0, d1, d2, d3, d4, d5, d6, d7, d8⟩ := KT.out _ hk)
    | (go_at_call 22; refine (Equal_same _ _ [0, 2, 3] _ (iO.grow ((Grow.refl _).alloc _)) (isInts_lit _ [0, 2, 3] (by decide))).mono ?_; rintro e wG ⟨rfl, nG, rfl⟩; replace hk := (hk.alloc (.cells #[.int .i64 0, .int .i64 2, .int .i64 3] 3)).drewN nG; clear c0 c1 c2 c3 c4 c5 c6 c7 c8 d0 d1 d2 d3 d4 d5 d6 d7 d8; obtain ⟨-, c0, c1, c2, c3, c4, c5, c6, c7, c8⟩ := KS.out _ hk; obtain ⟨-, d0, d1, d2, d3, d4, d5, d6, d7, d8⟩ := KT.out _ hk))
  clear iO
  go_upto_region 8 with (go_at_call 36; first | ((with_reducible refine (A1.out _ (HK.out.trans hk)).mono ?_); rintro e w' ⟨rfl, hg'⟩; replace hk := hk.trans hg'; clear c0 c1 c2 c3 c4 c5 c6 c7 c8 d0 d1 d2 d3 d4 d5 d6 d7 d8; obtain ⟨-, c0, c1, c2, c3, c4, c5, c6, c7, c8⟩ := KS.out _ hk; obtain ⟨-, d0, d1, d2, d3, d4, d5, d6, d7, d8⟩ := KT.out _ hk) | ((with_reducible refine (A2.out _ (HK.out.trans hk)).mono ?_); rintro e w' ⟨rfl, hg'⟩; replace hk := hk.trans hg'; clear c0 c1 c2 c3 c4 c5 c6 c7 c8 d0 d1 d2 d3 d4 d5 d6 d7 d8; obtain ⟨-, c0, c1, c2, c3, c4, c5, c6, c7, c8⟩ := KS.out _ hk; obtain ⟨-, d0, d1, d2, d3, d4, d5, d6, d7, d8⟩ := KT.out _ hk) | ((with_reducible refine (A3.out _ (HK.out.trans hk)).mono ?_); rintro e w' ⟨rfl, hg'⟩; replace hk := hk.trans hg'; clear c0 c1 c2 c3 c4 c5 c6 c7 c8 d0 d1 d2 d3 d4 d5 d6 d7 d8; obtain ⟨-, c0, c1, c2, c3, c4, c5, c6, c7, c8⟩ := KS.out _ hk; obtain ⟨-, d0, d1, d2, d3, d4, d5, d6, d7, d8⟩ := KT.out _ hk) | ((with_reducible refine (A4.out _ (HK.out.trans hk)).mono ?_); rintro e w' ⟨rfl, hg'⟩; replace hk := hk.trans hg'; clear c0 c1 c2 c3 c4 c5 c6 c7 c8 d0 d1 d2 d3 d4 d5 d6 d7 d8; obtain ⟨-, c0, c1, c2, c3, c4, c5, c6, c7, c8⟩ := KS.out _ hk; obtain ⟨-, d0, d1, d2, d3, d4, d5, d6, d7, d8⟩ := KT.out _ hk))
  go_wp2_with (first | (go_at_call 47; ((with_reducible refine (M1.out _ (HK.out.trans hk)).mono ?_); rintro e w' ⟨rfl, hg'⟩; replace hk := hk.trans hg'; clear c0 c1 c2 c3 c4 c5 c6 c7 c8 d0 d1 d2 d3 d4 d5 d6 d7 d8; obtain ⟨-, c0, c1, c2, c3, c4, c5, c6, c7, c8⟩ := KS.out _ hk; obtain ⟨-, d0, d1, d2, d3, d4, d5, d6, d7, d8⟩ := KT.out _ hk)) | (go_at_call 49; first | ((with_reducible refine (S1.out _ (HK.out.trans hk)).mono ?_); rintro e w' ⟨rfl, hg'⟩; replace hk := hk.trans hg'; clear c0 c1 c2 c3 c4 c5 c6 c7 c8 d0 d1 d2 d3 d4 d5 d6 d7 d8; obtain ⟨-, c0, c1, c2, c3, c4, c5, c6, c7, c8⟩ := KS.out _ hk; obtain ⟨-, d0, d1, d2, d3, d4, d5, d6, d7, d8⟩ := KT.out _ hk) | ((with_reducible refine (S2.out _ (HK.out.trans hk)).mono ?_); rintro e w' ⟨rfl, hg'⟩; replace hk := hk.trans hg'; clear c0 c1 c2 c3 c4 c5 c6 c7 c8 d0 d1 d2 d3 d4 d5 d6 d7 d8; obtain ⟨-, c0, c1, c2, c3, c4, c5, c6, c7, c8⟩ := KS.out _ hk; obtain ⟨-, d0, d1, d2, d3, d4, d5, d6, d7, d8⟩ := KT.out _ hk) | ((with_reducible refine (S3.out _ (HK.out.trans hk)).mono ?_); rintro e w' ⟨rfl, hg'⟩; replace hk := hk.trans hg'; clear c0 c1 c2 c3 c4 c5 c6 c7 c8 d0 d1 d2 d3 d4 d5 d6 d7 d8; obtain ⟨-, c0, c1, c2, c3, c4, c5, c6, c7, c8⟩ := KS.out _ hk; obtain ⟨-, d0, d1, d2, d3, d4, d5, d6, d7, d8⟩ := KT.out _ hk)))
  go_ret
  exact ⟨rfl, HK.out.trans hk⟩

set_option maxRecDepth 100000 in
set_option maxHeartbeats 4000000 in
theorem notes_known (v1 v2 : Value) (s t : TSet) (w : World) (h1 : IsSet w v1 s) (h2 : IsSet w v2 t) (hs : s = bigT) (ht : t = tinyT) : Calls Try.prog 71 #[v1, v2] w (Gives w (.bool true)) := by
  have B1 := hid (fun W v (hg : Grow w W) (hi : IsInts W v [4, 5, 15, 0]) => at_bag v2 v t [4, 5, 15, 0] [1, 2, 0, 1] 0 W (h2.grow hg) hi (by unfold RangeZ; decide) (by decide) (by rw [ht]; decide +kernel) (by rw [ht]; decide +kernel))
  have B2 := hid (fun W v (hg : Grow w W) (hi : IsInts W v [4, 4]) => at_bag v2 v t [4, 4] [] 9 W (h2.grow hg) hi (by unfold RangeZ; decide) (by decide) (by rw [ht]; decide +kernel) (by rw [ht]; decide +kernel))
  have Q1 := hid (fun W (hg : Grow w W) => at_read v1 s ⟨#[49, 109, 50, 109]⟩ [49, 109, 50, 109] 3 W (h1.grow hg) (by decide) (by decide) (by decide +kernel) (by rw [hs]; decide +kernel))
  have Q2 := hid (fun W (hg : Grow w W) => at_read v1 s ⟨#[48, 109]⟩ [48, 109] 3 W (h1.grow hg) (by decide) (by decide) (by decide +kernel) (by rw [hs]; decide +kernel))
  have Q3 := hid (fun W (hg : Grow w W) => at_read v1 s ⟨#[53, 119]⟩ [53, 119] 2 W (h1.grow hg) (by decide) (by decide) (by decide +kernel) (by rw [hs]; decide +kernel))
  have Q4 := hid (fun W (hg : Grow w W) => at_read v1 s ⟨#[52, 77]⟩ [52, 77] 4 W (h1.grow hg) (by decide) (by decide) (by decide +kernel) (by rw [hs]; decide +kernel))
  have Q5 := hid (fun W (hg : Grow w W) => at_read v2 t ⟨#[49, 112]⟩ [49, 112] 2 W (h2.grow hg) (by decide) (by decide) (by decide +kernel) (by rw [ht]; decide +kernel))
  obtain ⟨A, c, B, d, rfl, _, _⟩ := h1.open_
  obtain ⟨A', c', B', d', rfl, _, _⟩ := h2.open_
  clear h1 h2 hs ht
  go_enter Try.func71, Try.ntmps71
  have b1 : Blk ((w.alloc (.cells #[.int .i64 s.pl, .slice A s.su.length c, .int .i64 s.wi, .int .i64 s.dr, .int .i64 s.fl, .int .i64 s.co, .int .i64 s.me, .int .i64 s.de, .slice B s.re.length d] 24)).alloc (.cells #[.int .i64 t.pl, .slice A' t.su.length c', .int .i64 t.wi, .int .i64 t.dr, .int .i64 t.fl, .int .i64 t.co, .int .i64 t.me, .int .i64 t.de, .slice B' t.re.length d'] 24)) w.heap.size 24 (setVals s (.slice A s.su.length c) (.slice B s.re.length d)) := Blk.grow (show Blk _ _ _ (setVals s (.slice A s.su.length c) (.slice B s.re.length d)) from Blk.new_at rfl) ((Grow.refl _).alloc _)
  have b2 : Blk ((w.alloc (.cells #[.int .i64 s.pl, .slice A s.su.length c, .int .i64 s.wi, .int .i64 s.dr, .int .i64 s.fl, .int .i64 s.co, .int .i64 s.me, .int .i64 s.de, .slice B s.re.length d] 24)).alloc (.cells #[.int .i64 t.pl, .slice A' t.su.length c', .int .i64 t.wi, .int .i64 t.dr, .int .i64 t.fl, .int .i64 t.co, .int .i64 t.me, .int .i64 t.de, .slice B' t.re.length d'] 24)) (w.heap.size + 1) 24 (setVals t (.slice A' t.su.length c') (.slice B' t.re.length d')) := Blk.new_at (by simp)
  have g3 : Grow w ((w.alloc (.cells #[.int .i64 s.pl, .slice A s.su.length c, .int .i64 s.wi, .int .i64 s.dr, .int .i64 s.fl, .int .i64 s.co, .int .i64 s.me, .int .i64 s.de, .slice B s.re.length d] 24)).alloc (.cells #[.int .i64 t.pl, .slice A' t.su.length c', .int .i64 t.wi, .int .i64 t.dr, .int .i64 t.fl, .int .i64 t.co, .int .i64 t.me, .int .i64 t.de, .slice B' t.re.length d'] 24)) := ((Grow.refl _).alloc _).alloc _
  have BB := hid (And.intro g3 (And.intro b1 b2))
  clear b1 b2 g3
  go_upto_region 1 with fail
  obtain ⟨g3, b1, b2⟩ := BB.out
  clear BB
  generalize w.heap.size = g at *
  generalize (w.alloc (.cells #[.int .i64 s.pl, .slice A s.su.length c, .int .i64 s.wi, .int .i64 s.dr, .int .i64 s.fl, .int .i64 s.co, .int .i64 s.me, .int .i64 s.de, .slice B s.re.length d] 24)).alloc (.cells #[.int .i64 t.pl, .slice A' t.su.length c', .int .i64 t.wi, .int .i64 t.dr, .int .i64 t.fl, .int .i64 t.co, .int .i64 t.me, .int .i64 t.de, .slice B' t.re.length d'] 24) = wz at *
  have KS := hid (fun W (hg : Grow wz W) => And.intro hg (set_cells (b1.grow hg)))
  have KT := hid (fun W (hg : Grow wz W) => And.intro hg (set_cells (b2.grow hg)))
  have HK := hid g3
  have hk := Grow.refl wz
  obtain ⟨-, c0, c1, c2, c3, c4, c5, c6, c7, c8⟩ := KS.out _ hk
  obtain ⟨-, d0, d1, d2, d3, d4, d5, d6, d7, d8⟩ := KT.out _ hk
  clear b1 b2 g3
  go_upto_region 2 with (go_at_call 62; replace hk := hk.alloc (.cells #[.int .i64 4, .int .i64 5, .int .i64 15, .int .i64 0] 3); refine (B1.out _ _ (HK.out.trans hk) (isInts_lit _ [4, 5, 15, 0] (by decide))).mono ?_; rintro e w' ⟨AO, cO, rfl, iO, hg'⟩; replace hk := hk.trans hg'; clear c0 c1 c2 c3 c4 c5 c6 c7 c8 d0 d1 d2 d3 d4 d5 d6 d7 d8; obtain ⟨-, c0, c1, c2, c3, c4, c5, c6, c7, c8⟩ := KS.out _ hk; obtain ⟨-, d0, d1, d2, d3, d4, d5, d6, d7, d8⟩ := KT.out _ hk)
  have IO := hid (fun W (hg : Grow w' W) => iO.grow hg)
  have hj := Grow.refl w'
  clear iO
  go_upto_region 3 with (go_at_call 62; replace hk := hk.alloc (.cells #[.int .i64 4, .int .i64 4] 3); replace hj := hj.alloc (.cells #[.int .i64 4, .int .i64 4] 3); refine (B2.out _ _ (HK.out.trans hk) (isInts_lit _ [4, 4] (by decide))).mono ?_; rintro e w'' ⟨AO2, cO2, rfl, -, hg'⟩; replace hk := hk.trans hg'; replace hj := hj.trans hg'; clear c0 c1 c2 c3 c4 c5 c6 c7 c8 d0 d1 d2 d3 d4 d5 d6 d7 d8; obtain ⟨-, c0, c1, c2, c3, c4, c5, c6, c7, c8⟩ := KS.out _ hk; obtain ⟨-, d0, d1, d2, d3, d4, d5, d6, d7, d8⟩ := KT.out _ hk)
  go_upto_region 4 with (go_at_call 67; refine (Q1.out _ (HK.out.trans hk)).mono ?_; rintro e w'' ⟨AQ0, nQ0, cQ0, rfl, hg'⟩; replace hk := hk.trans hg'; replace hj := hj.trans hg'; clear c0 c1 c2 c3 c4 c5 c6 c7 c8 d0 d1 d2 d3 d4 d5 d6 d7 d8; obtain ⟨-, c0, c1, c2, c3, c4, c5, c6, c7, c8⟩ := KS.out _ hk; obtain ⟨-, d0, d1, d2, d3, d4, d5, d6, d7, d8⟩ := KT.out _ hk)
  go_upto_region 5 with (go_at_call 67; refine (Q2.out _ (HK.out.trans hk)).mono ?_; rintro e w'' ⟨AQ1, nQ1, cQ1, rfl, hg'⟩; replace hk := hk.trans hg'; replace hj := hj.trans hg'; clear c0 c1 c2 c3 c4 c5 c6 c7 c8 d0 d1 d2 d3 d4 d5 d6 d7 d8; obtain ⟨-, c0, c1, c2, c3, c4, c5, c6, c7, c8⟩ := KS.out _ hk; obtain ⟨-, d0, d1, d2, d3, d4, d5, d6, d7, d8⟩ := KT.out _ hk)
  go_upto_region 6 with (go_at_call 67; refine (Q3.out _ (HK.out.trans hk)).mono ?_; rintro e w'' ⟨AQ2, nQ2, cQ2, rfl, hg'⟩; replace hk := hk.trans hg'; replace hj := hj.trans hg'; clear c0 c1 c2 c3 c4 c5 c6 c7 c8 d0 d1 d2 d3 d4 d5 d6 d7 d8; obtain ⟨-, c0, c1, c2, c3, c4, c5, c6, c7, c8⟩ := KS.out _ hk; obtain ⟨-, d0, d1, d2, d3, d4, d5, d6, d7, d8⟩ := KT.out _ hk)
  go_upto_region 7 with (go_at_call 67; refine (Q4.out _ (HK.out.trans hk)).mono ?_; rintro e w'' ⟨AQ3, nQ3, cQ3, rfl, hg'⟩; replace hk := hk.trans hg'; replace hj := hj.trans hg'; clear c0 c1 c2 c3 c4 c5 c6 c7 c8 d0 d1 d2 d3 d4 d5 d6 d7 d8; obtain ⟨-, c0, c1, c2, c3, c4, c5, c6, c7, c8⟩ := KS.out _ hk; obtain ⟨-, d0, d1, d2, d3, d4, d5, d6, d7, d8⟩ := KT.out _ hk)
  go_upto_region 8 with (go_at_call 67; refine (Q5.out _ (HK.out.trans hk)).mono ?_; rintro e w'' ⟨AQ4, nQ4, cQ4, rfl, hg'⟩; replace hk := hk.trans hg'; replace hj := hj.trans hg'; clear c0 c1 c2 c3 c4 c5 c6 c7 c8 d0 d1 d2 d3 d4 d5 d6 d7 d8; obtain ⟨-, c0, c1, c2, c3, c4, c5, c6, c7, c8⟩ := KS.out _ hk; obtain ⟨-, d0, d1, d2, d3, d4, d5, d6, d7, d8⟩ := KT.out _ hk)
  go_wp2_with (go_at_call 22; refine (Equal_same _ _ [1, 2, 0, 1] _ (IO.out _ (hj.alloc (.cells #[.int .i64 1, .int .i64 2, .int .i64 0, .int .i64 1] 3))) (isInts_lit _ [1, 2, 0, 1] (by decide))).mono ?_; rintro e wG ⟨rfl, nG, rfl⟩; replace hk := (hk.alloc (.cells #[.int .i64 1, .int .i64 2, .int .i64 0, .int .i64 1] 3)).drewN nG)
  go_ret
  exact ⟨rfl, HK.out.trans hk⟩
end Go.Proofs.Ytjiahcfegfimmaa
