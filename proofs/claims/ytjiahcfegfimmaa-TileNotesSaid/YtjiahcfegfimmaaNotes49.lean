/-
  The walk of the law TileNotes.
-/
import Derived.Test.YtjiahcfegfimmaaNotes34
import Derived.Test.YtjiahcfegfimmaaNotes42
import Derived.Test.YtjiahcfegfimmaaNotes46
import Derived.Test.YtjiahcfegfimmaaNotes47
import Derived.Test.YtjiahcfegfimmaaNotes48
import Derived.Deep.Cut
import Derived.Deep.RegionHeld3
import Derived.Outline
namespace Go.Proofs.Ytjiahcfegfimmaa
open Go.RowKit

theorem text_is (v vl : Value) (s : TSet) (fs : List FaceZ) (w : World) (h : IsSet w v s) (hf : IsFaces w vl fs) (e : chkErr s = 0) (hfe : facesErr s fs = 0) (hn : fs.length ≤ 1000000) :
    Calls Try.prog 19 #[v, vl] w (Gives w (.tuple #[.string (strOfNums (textB s fs)), .int .i64 0])) := by
  have h1 : textErr s fs = 0 := by unfold textErr; rw [if_neg (by omega)]; exact hfe
  have h := Text_any v vl s fs w h hf hn
  rw [h1] at h
  unfold textV at h
  rwa [if_pos h1] at h
/-- Two lists of faces appended to an empty literal. -/
theorem cat_faces (t : TypeId) (ht : Try.prog.underlying t = some (.slice 73)) (ty1 ty2 : TypeId) (x y : Value) (fs gs : List FaceZ) (w : World) (hx : IsFaces w x fs) (hy : IsFaces w y gs) (hl : fs.length + gs.length ≤ 1000000) :
    ∃ v1 w1 A c w2, (Builtin.append_ #[t, t] ty1 #[.slice (some ⟨w.heap.size, 0, none⟩) 0 0, x]).run Try.prog (w.alloc (.cells #[] 73)) = .ok v1 w1 ∧
      (Builtin.append_ #[t, t] ty2 #[v1, y]).run Try.prog w1 = .ok (.slice A (fs ++ gs).length c) w2 ∧ IsFaces w2 (.slice A (fs ++ gs).length c) (fs ++ gs) ∧ Grow w w2 := by
  have g0 : Grow w (w.alloc (.cells #[] 73)) := (Grow.refl w).alloc _
  have o0 : OwnF w (w.alloc (.cells #[] 73)) (.slice (some ⟨w.heap.size, 0, none⟩) 0 0) [] := ⟨rfl, .inr ⟨w.heap.size, 0, #[], rfl, Nat.le_refl _, heap_alloc_new w _, Nat.le_refl _, Nat.zero_le _, rfl, rfl⟩⟩
  obtain ⟨v1, w1, r1, o1, g1, b1⟩ := run_append_faces w _ t ty1 ht _ x [] fs o0 (hx.grow g0) (by simp; omega) g0
  rw [List.nil_append] at o1
  obtain ⟨v2, w2, r2, o2, g2, b2⟩ := run_append_faces w w1 t ty2 ht v1 y fs gs o1 (hy.grow g1) (by omega) g1
  obtain ⟨A, c, rfl, _⟩ := id o2.is
  exact ⟨v1, w1, A, c, w2, r1, r2, o2.is, g2⟩
theorem sameFaces_eq (v1 v2 : Value) (fs : List (Int × Bool)) (w : World) (h1 : IsFaces w v1 fs) (h2 : IsFaces w v2 fs) : Calls Try.prog 66 #[v1, v2] w (Says w (.bool true)) := by
  have h := sameFaces_any v1 v2 fs fs w h1 h2
  rwa [decide_eq_true rfl] at h
/-- What Read hands back, opened. -/
def ReadIs (w : World) (r : Int) (fs : List FaceZ) (e : Ending) (w' : World) : Prop := ∃ A c, e = .returned (.tuple #[.slice A fs.length c, .int .i64 r]) ∧ IsFaces w' (.slice A fs.length c) fs ∧ Grow w w'
theorem text_bytes {s : TSet} (e : chkErr s = 0) {fs : List FaceZ} (h : facesErr s fs = 0) : ∀ z ∈ textB s fs, 0 ≤ z ∧ z < 128 := by
  have key : ∀ (t : List (Int × Int)) (c : Int), (∀ m ∈ t, (0 ≤ m.1 ∧ m.1 < 128) ∧ 49 ≤ m.2 ∧ m.2 ≤ 57) → (0 ≤ c ∧ c < 128) → ∀ z ∈ tailB c t, 0 ≤ z ∧ z < 128 := by
    intro t
    induction t with
    | nil => intro c _ hc z hz; simp [tailB] at hz; subst hz; exact hc
    | cons m t ih =>
      intro c hm hc z hz
      obtain ⟨a, b⟩ := hm m (List.mem_cons_self ..)
      have ih' := ih m.1 (fun x hx => hm x (List.mem_cons_of_mem _ hx)) a
      rw [tailB] at hz
      split at hz
      · rcases List.mem_cons.1 hz with rfl | hz
        · omega
        · exact ih' z hz
      · rcases List.mem_cons.1 hz with rfl | hz
        · exact hc
        rcases List.mem_cons.1 hz with rfl | hz
        · omega
        · exact ih' z hz
  have hm : ∀ m ∈ fs.map (markF s), (0 ≤ m.1 ∧ m.1 < 128) ∧ 49 ≤ m.2 ∧ m.2 ≤ 57 := fun m hm => by
    have hok := (marks_ok e h m hm).2.2
    obtain ⟨f, hf, rfl⟩ := List.mem_map.1 hm
    obtain ⟨h1, h2⟩ := facesErr_all h f hf
    refine ⟨?_, hok⟩
    rcases place_two s f.1 with hp | ⟨su, r, hp, a0, a1, b0, b1, -, hfl⟩
    · rw [hp] at h1; exact absurd rfl h1
    · have hn := letN_is (red := f.2) a0 a1
      have hl : letN su f.2 < 11 := by
        unfold letN at *
        by_cases hr : f.2 = true
        · have := red_plain e (h2 hr)
          have : su ≠ -3 := fun hs => by have := hfl hs; omega
          rw [if_pos hr] at *
          split <;> omega
        · rw [if_neg hr] at *
          split <;> omega
      have := letB_pos hn.1 hl
      show 0 ≤ letB (letN (placeP s f.1).1 f.2) ∧ letB (letN (placeP s f.1).1 f.2) < 128
      rw [hp]
      simp only
      omega
  unfold textB
  cases hfs : fs.map (markF s) with
  | nil => simp [writeB]
  | cons m t =>
    rw [hfs] at hm
    intro z hz
    rw [writeB] at hz
    obtain ⟨a, b⟩ := hm m (List.mem_cons_self ..)
    rcases List.mem_cons.1 hz with rfl | hz
    · omega
    · exact key t m.1 (fun x hx => hm x (List.mem_cons_of_mem _ hx)) a z hz
theorem read_is (v : Value) (s : TSet) (l : List Int) (w : World) (h : IsSet w v s) (hb : ∀ z ∈ l, 0 ≤ z ∧ z < 128) (hl : l.length ≤ 1000000) {r : Int} {fs : List FaceZ} (hr : readR s l = (r, fs)) : Calls Try.prog 67 #[v, .string (strOfNums l)] w (ReadIs w r fs) := by
  refine (Read_any v s l w h hb hl).mono ?_
  rintro e w' ⟨v', rfl, hi, hg⟩
  rw [hr] at hi ⊢
  obtain ⟨A, c, rfl, _⟩ := id hi
  exact ⟨A, c, rfl, hi, hg⟩

theorem text_pos (s : TSet) (fs : List FaceZ) : fs = [] ∧ textB s fs = [] ∨ fs ≠ [] ∧ 0 < (textB s fs).length := by
  cases fs with
  | nil => exact .inl ⟨rfl, rfl⟩
  | cons f fs => exact .inr ⟨by simp, by simp [textB, writeB]⟩

set_option maxRecDepth 100000 in
set_option maxHeartbeats 40000000 in
theorem walkTileNotes (v : Value) (zs : List Int) (seed k1 k2 : Int) (w : World) (h : IsInts w v zs) (_hz : ∀ z ∈ zs, (Lit.int .i64 z).wf = true) (_hs : (Lit.int .u64 seed).wf = true) (hk1 : (Lit.int .i64 k1).wf = true) (hk2 : (Lit.int .i64 k2).wf = true) :
    Calls Try.prog 16 #[v, .int .u64 seed, .int .i64 k1, .int .i64 k2] w (Gives w (.bool true)) := by
  have hk1 := wf_range hk1
  have hk2 := wf_range hk2
  go_enter Try.func16, Try.ntmps16
  go_wp2_with fail
  refine (NewSource_any _ zs w h).mono ?_
  rintro e w1 ⟨g, rfl, hgw, hs1, hg1⟩
  go_wp2_with fail
  refine (SetOf_any g _ hs1).mono ?_
  rintro e w2 ⟨v', s, rfl, hi, hc, -, hb2⟩
  obtain ⟨A, c, B, d, rfl, -, -⟩ := hi.is.open_
  have HH := hid (set_head hg1 hgw hb2 hi)
  have V := valid_of hc
  clear hs1 hg1 hgw hb2 hi h _hz
  go_upto_region 2 with (refine wpList_store_row (by rfl) 24 (.tmp 9) (.tmp 29) (by rfl) w2.heap.size #[.int .i64 s.pl, .slice A s.su.length c, .int .i64 s.wi, .int .i64 s.dr, .int .i64 s.fl, .int .i64 s.co, .int .i64 s.me, .int .i64 s.de, .slice B s.re.length d] (by rfl) (by rfl) 24 _ (heap_alloc_new w2 _) (by kernel_rfl) (by rfl) (by simp [Value.oneCell']) ?_)
  have HH : Hid (Blk ((w2.alloc (.cells #[.int .i64 0, .slice none 0 0, .int .i64 0, .int .i64 0, .int .i64 0, .int .i64 0, .int .i64 0, .int .i64 0, .slice none 0 0] 24)).setRow w2.heap.size #[.int .i64 s.pl, .slice A s.su.length c, .int .i64 s.wi, .int .i64 s.dr, .int .i64 s.fl, .int .i64 s.co, .int .i64 s.me, .int .i64 s.de, .slice B s.re.length d]) w2.heap.size 24 (setVals s (.slice A s.su.length c) (.slice B s.re.length d)) ∧ IsSet ((w2.alloc (.cells #[.int .i64 0, .slice none 0 0, .int .i64 0, .int .i64 0, .int .i64 0, .int .i64 0, .int .i64 0, .int .i64 0, .slice none 0 0] 24)).setRow w2.heap.size #[.int .i64 s.pl, .slice A s.su.length c, .int .i64 s.wi, .int .i64 s.dr, .int .i64 s.fl, .int .i64 s.co, .int .i64 s.me, .int .i64 s.de, .slice B s.re.length d]) (.agg #[.int .i64 s.pl, .slice A s.su.length c, .int .i64 s.wi, .int .i64 s.dr, .int .i64 s.fl, .int .i64 s.co, .int .i64 s.me, .int .i64 s.de, .slice B s.re.length d]) s ∧ Grow w ((w2.alloc (.cells #[.int .i64 0, .slice none 0 0, .int .i64 0, .int .i64 0, .int .i64 0, .int .i64 0, .int .i64 0, .int .i64 0, .slice none 0 0] 24)).setRow w2.heap.size #[.int .i64 s.pl, .slice A s.su.length c, .int .i64 s.wi, .int .i64 s.dr, .int .i64 s.fl, .int .i64 s.co, .int .i64 s.me, .int .i64 s.de, .slice B s.re.length d]) ∧ w2.heap.size < ((w2.alloc (.cells #[.int .i64 0, .slice none 0 0, .int .i64 0, .int .i64 0, .int .i64 0, .int .i64 0, .int .i64 0, .int .i64 0, .slice none 0 0] 24)).setRow w2.heap.size #[.int .i64 s.pl, .slice A s.su.length c, .int .i64 s.wi, .int .i64 s.dr, .int .i64 s.fl, .int .i64 s.co, .int .i64 s.me, .int .i64 s.de, .slice B s.re.length d]).heap.size) := HH
  generalize ((w2.alloc (.cells #[.int .i64 0, .slice none 0 0, .int .i64 0, .int .i64 0, .int .i64 0, .int .i64 0, .int .i64 0, .int .i64 0, .slice none 0 0] 24)).setRow w2.heap.size #[.int .i64 s.pl, .slice A s.su.length c, .int .i64 s.wi, .int .i64 s.dr, .int .i64 s.fl, .int .i64 s.co, .int .i64 s.me, .int .i64 s.de, .slice B s.re.length d]) = W0 at *
  generalize w2.heap.size = T at *
  have KS := hid (fun W (hg : Grow W0 W) => And.intro hg (set_cells (HH.out.1.grow hg)))
  have HG := hid (fun W (hg : Grow W0 W) => HH.out.2.2.1.trans hg)
  have SI := hid (fun W (hg : Grow W0 W) => HH.out.2.1.grow hg)
  have hT := HH.out.2.2.2
  have hsz := size_pos V
  rw [← size_ok hc] at hsz
  have hsb := size_bound s
  have hwl := wall_length s seed
  have hWP := part_wall s seed
  have WL := fun W n (hg : Grow W0 W) (hn : (wallI s seed).length = n) => wall_is (.agg #[.int .i64 s.pl, .slice A s.su.length c, .int .i64 s.wi, .int .i64 s.dr, .int .i64 s.fl, .int .i64 s.co, .int .i64 s.me, .int .i64 s.de, .slice B s.re.length d]) s seed W (SI.out W hg) hn
  generalize wallI s seed = wl at *
  obtain ⟨n, hn⟩ : ∃ n : Nat, wl.length = n := ⟨_, rfl⟩
  have WL := hid (fun W (hg : Grow W0 W) => WL W n hg hn)
  have n1 : 1 ≤ n := by omega
  have n2 : n ≤ 144 := by omega
  have e1 := Int.emod_nonneg k1 (show (n : Int) ≠ 0 by omega)
  have e2 := Int.emod_lt_of_pos k1 (show 0 < (n : Int) by omega)
  have f1 := Int.emod_nonneg k2 (show (n : Int) ≠ 0 by omega)
  have f2 := Int.emod_lt_of_pos k2 (show 0 < (n : Int) by omega)
  have IN1 := fun W => Into_any k1 (n : Int) W hk1.1 hk1.2 (by omega) (by omega)
  have IN2 := fun W => Into_any k2 (n : Int) W hk2.1 hk2.2 (by omega) (by omega)
  obtain ⟨F, hF⟩ := Int.eq_ofNat_of_zero_le e1
  obtain ⟨T2, hT2⟩ := Int.eq_ofNat_of_zero_le f1
  rw [hF] at IN1 e2
  rw [hT2] at IN2 f2
  have hFn : F < n := by omega
  have hTn : T2 < n := by omega
  have IN1 := hid IN1
  have IN2 := hid IN2
  have HC := hid (And.intro hc (And.intro hWP hn))
  clear hwl hWP hsz hsb V hc hF hT2 e1 f1 hn hk1 hk2
  obtain ⟨-, c0, c1, c2, c3, c4, c5, c6, c7, c8⟩ := KS.out _ (Grow.refl W0)
  go_upto_region 3 with (go_at_call 23; refine (WL.out _ (Grow.refl _)).mono ?_; rintro e w3 ⟨AD, cD, rfl, iw, hg3⟩)
  have KS3 := hid (fun W (hg : Grow w3 W) => And.intro hg (KS.out W (hg3.trans hg)).2)
  have G3 := hid (fun W (hg : Grow w3 W) => hg3.trans hg)
  have IW := hid (fun W (hg : Grow w3 W) => iw.grow hg)
  have a1 : (1 : Int) ≤ (n : Int) := by omega
  clear hg3 iw c0 c1 c2 c3 c4 c5 c6 c7 c8
  obtain ⟨-, c0, c1, c2, c3, c4, c5, c6, c7, c8⟩ := KS3.out _ (Grow.refl _)
  go_upto_region 6 with (go_at_call 33; first | ((with_reducible refine (IN1.out _).mono ?_); rintro e w' ⟨rfl, rfl⟩) | ((with_reducible refine (IN2.out _).mono ?_); rintro e w' ⟨rfl, rfl⟩))
  have hmn : min (F : Int) (T2 : Int) = ((min F T2 : Nat) : Int) := by omega
  have hmx : max (F : Int) (T2 : Int) = ((max F T2 : Nat) : Int) := by omega
  have hlh : min F T2 ≤ max F T2 := by omega
  have hhn : max F T2 < n := by omega
  have HMM := hid (And.intro hmn (And.intro hmx (And.intro hlh hhn)))
  clear hmn hmx hlh hhn
  go_upto_region 7 with fail
  rw [HMM.out.1, HMM.out.2.1]
  have hlh := HMM.out.2.2.1
  have hhn := HMM.out.2.2.2
  clear HMM
  generalize min F T2 = lo at *
  generalize max F T2 = hi at *
  obtain ⟨s1, i1⟩ := first_opt 22 Try.underlying22 (kz := (lo : Int)) (IW.out _ (Grow.refl _)) (by omega) rfl
  obtain ⟨BM, s2, i2⟩ := mid_opt 22 Try.underlying22 (lo := lo) (k := hi - lo) (kl := (lo : Int)) (kh := (hi : Int)) (IW.out _ (Grow.refl _)) (by omega) rfl (by omega)
  obtain ⟨hc, hWP, hn⟩ := HC.out
  have l1 : (wl.take lo).length = lo := by rw [List.length_take]; omega
  have l2 : ((wl.drop lo).take (hi - lo)).length = hi - lo := by rw [List.length_take, List.length_drop]; omega
  have p1 := hWP.sub (List.take_sublist lo wl)
  have p2 := hWP.sub ((List.take_sublist (hi - lo) (wl.drop lo)).trans (List.drop_sublist lo wl))
  have F1 := fun W vv (hg : Grow W0 W) (h2 : IsInts W vv (wl.take lo)) => fcs_is (.agg #[.int .i64 s.pl, .slice A s.su.length c, .int .i64 s.wi, .int .i64 s.dr, .int .i64 s.fl, .int .i64 s.co, .int .i64 s.me, .int .i64 s.de, .slice B s.re.length d]) vv s _ W (SI.out W hg) h2 p1 hc (by omega)
  have F2 := fun W vv (hg : Grow W0 W) (h2 : IsInts W vv ((wl.drop lo).take (hi - lo))) => fcs_is (.agg #[.int .i64 s.pl, .slice A s.su.length c, .int .i64 s.wi, .int .i64 s.dr, .int .i64 s.fl, .int .i64 s.co, .int .i64 s.me, .int .i64 s.de, .slice B s.re.length d]) vv s _ W (SI.out W hg) h2 p2 hc (by omega)
  have E1 := faces_ok hc p1.1
  have E2 := faces_ok hc p2.1
  rw [l1] at F1
  rw [l2] at F2
  have m1 : (facesI s (wl.take lo)).length = lo := by simp [facesI]; omega
  have m2 : (facesI s ((wl.drop lo).take (hi - lo))).length = hi - lo := by simp [facesI]; omega
  generalize facesI s (wl.take lo) = fa at *
  generalize facesI s ((wl.drop lo).take (hi - lo)) = fb at *
  have F1 := hid F1
  have F2 := hid F2
  have I1 := hid (fun W (hg : Grow w3 W) => i1.grow hg)
  have I2 := hid (fun W (hg : Grow w3 W) => i2.grow hg)
  have FE := hid (And.intro hc (And.intro (And.intro E1 E2) (And.intro m1 m2)))
  have hlI : (lo : Int) ≤ (hi : Int) := by omega
  clear hc hWP hn l1 l2 p1 p2 E1 E2 m1 m2 i1 i2 HC
  go_region_held3 (fun W => Grow w3 W ∧ W.cell? ⟨T, 0, none⟩ = some (.int .i64 s.pl) ∧ W.cell? ⟨T, 1, none⟩ = some (.slice A s.su.length c) ∧ W.cell? ⟨T, 2, none⟩ = some (.int .i64 s.wi) ∧ W.cell? ⟨T, 3, none⟩ = some (.int .i64 s.dr) ∧ W.cell? ⟨T, 4, none⟩ = some (.int .i64 s.fl) ∧ W.cell? ⟨T, 5, none⟩ = some (.int .i64 s.co) ∧ W.cell? ⟨T, 6, none⟩ = some (.int .i64 s.me) ∧ W.cell? ⟨T, 7, none⟩ = some (.int .i64 s.de) ∧ W.cell? ⟨T, 8, none⟩ = some (.slice B s.re.length d))
    (exact KS3.out _ (by first | assumption | exact (Grow.refl _).drew))
    ((go_at_call 64; have hS := (‹Grow w3 _ ∧ _›).1; refine (F1.out _ _ (G3.out _ hS) (I1.out _ hS)).mono ?_; rintro e w5 ⟨Aa, ca, rfl, b1, b2, b3, hg5⟩; have hk5 := hS.trans hg5))
  all_goals
    have KS5 := hid (fun W (hg : Grow w5 W) => And.intro hg (KS3.out W (hk5.trans hg)).2)
    have HK5 := hid hk5
    have FA := hid (show IsFaces w5 (.slice Aa lo ca) fa from ⟨Aa, ca, by rw [FE.out.2.2.1], by rw [FE.out.2.2.1]; exact b1, b2, b3⟩)
    clear hk5 b1 b2 b3 hS hg5
    go_wp2
    go_region_held3 (fun W => Grow w5 W ∧ W.cell? ⟨T, 0, none⟩ = some (.int .i64 s.pl) ∧ W.cell? ⟨T, 1, none⟩ = some (.slice A s.su.length c) ∧ W.cell? ⟨T, 2, none⟩ = some (.int .i64 s.wi) ∧ W.cell? ⟨T, 3, none⟩ = some (.int .i64 s.dr) ∧ W.cell? ⟨T, 4, none⟩ = some (.int .i64 s.fl) ∧ W.cell? ⟨T, 5, none⟩ = some (.int .i64 s.co) ∧ W.cell? ⟨T, 6, none⟩ = some (.int .i64 s.me) ∧ W.cell? ⟨T, 7, none⟩ = some (.int .i64 s.de) ∧ W.cell? ⟨T, 8, none⟩ = some (.slice B s.re.length d))
      (exact KS5.out _ (by first | assumption | exact (Grow.refl _).drew))
      ((go_at_call 64; have hS := (‹Grow w5 _ ∧ _›).1; refine (F2.out _ _ (G3.out _ (HK5.out.trans hS)) (I2.out _ (HK5.out.trans hS))).mono ?_; rintro e w6 ⟨Ab, cb, rfl, b1, b2, b3, hg6⟩; have hk6 := hS.trans hg6))
    all_goals
      have KS6 := hid (fun W (hg : Grow w6 W) => And.intro hg (KS5.out W (hk6.trans hg)).2)
      have G6 := hid (fun W (hg : Grow w6 W) => G3.out W (HK5.out.trans (hk6.trans hg)))
      have FA6 := hid (fun W (hg : Grow w6 W) => FA.out.grow (hk6.trans hg))
      have FB6 := hid (fun W (hg : Grow w6 W) => (show IsFaces w6 (.slice Ab (hi - lo) cb) fb from ⟨Ab, cb, by rw [FE.out.2.2.2], by rw [FE.out.2.2.2]; exact b1, b2, b3⟩).grow hg)
      have TX1 := hid (fun W (hg : Grow w6 W) => text_is (.agg #[.int .i64 s.pl, .slice A s.su.length c, .int .i64 s.wi, .int .i64 s.dr, .int .i64 s.fl, .int .i64 s.co, .int .i64 s.me, .int .i64 s.de, .slice B s.re.length d]) _ s fa W (SI.out W (G6.out W hg)) (FA6.out W hg) FE.out.1 FE.out.2.1.1 (by have := FE.out.2.2.1; omega))
      have TX2 := hid (fun W (hg : Grow w6 W) => text_is (.agg #[.int .i64 s.pl, .slice A s.su.length c, .int .i64 s.wi, .int .i64 s.dr, .int .i64 s.fl, .int .i64 s.co, .int .i64 s.me, .int .i64 s.de, .slice B s.re.length d]) _ s fb W (SI.out W (G6.out W hg)) (FB6.out W hg) FE.out.1 FE.out.2.1.2 (by have := FE.out.2.2.2; omega))
      clear hk6 b1 b2 b3 hS hg6 c0 c1 c2 c3 c4 c5 c6 c7 c8
      obtain ⟨-, c0, c1, c2, c3, c4, c5, c6, c7, c8⟩ := KS6.out _ (Grow.refl _)
      go_upto_region 10 with (go_at_call 19; refine (TX1.out _ (Grow.refl _)).mono ?_; rintro e w7 ⟨rfl, hg7⟩; clear c0 c1 c2 c3 c4 c5 c6 c7 c8; obtain ⟨-, c0, c1, c2, c3, c4, c5, c6, c7, c8⟩ := KS6.out _ hg7)
      go_upto_region 11 with (go_at_call 19; refine (TX2.out _ hg7).mono ?_; rintro e w8 ⟨rfl, hg8⟩; clear c0 c1 c2 c3 c4 c5 c6 c7 c8; have hk8 := hg7.trans hg8; obtain ⟨-, c0, c1, c2, c3, c4, c5, c6, c7, c8⟩ := KS6.out _ hk8)
      obtain ⟨v1, wA, AL, cL, w9, r1, r2, iL, hg9⟩ := cat_faces 25 Try.underlying25 25 25 _ _ _ _ w8 (FA6.out _ hk8) (FB6.out _ hk8) (by have := FE.out.2.2.1; have := FE.out.2.2.2; omega)
      obtain ⟨fab, hfab⟩ : ∃ x, x = fa ++ fb := ⟨_, rfl⟩
      rw [← hfab] at r2 iL
      have R1 := hid r1
      have R2 := hid r2
      have hk9 := hk8.trans hg9
      have KS9 := hid (fun W (hg : Grow w9 W) => And.intro hg (KS6.out W (hk9.trans hg)).2)
      have G9 := hid (fun W (hg : Grow w9 W) => G6.out W (hk9.trans hg))
      have IL := hid (fun W (hg : Grow w9 W) => iL.grow hg)
      have EA := facesErr_append FE.out.2.1.1 FE.out.2.1.2
      rw [← hfab] at EA
      have LA : fab.length ≤ 1000 := by rw [hfab, List.length_append]; have := FE.out.2.2.1; have := FE.out.2.2.2; omega
      have TX3 := hid (fun W (hg : Grow w9 W) => text_is (.agg #[.int .i64 s.pl, .slice A s.su.length c, .int .i64 s.wi, .int .i64 s.dr, .int .i64 s.fl, .int .i64 s.co, .int .i64 s.me, .int .i64 s.de, .slice B s.re.length d]) _ s fab W (SI.out W (G9.out W hg)) (IL.out W hg) FE.out.1 EA (by omega))
      have RD1 := hid (fun W (hg : Grow w9 W) => read_is (.agg #[.int .i64 s.pl, .slice A s.su.length c, .int .i64 s.wi, .int .i64 s.dr, .int .i64 s.fl, .int .i64 s.co, .int .i64 s.me, .int .i64 s.de, .slice B s.re.length d]) s (textB s fab) W (SI.out W (G9.out W hg)) (text_bytes FE.out.1 EA) (by have := writeB_length (fab.map (markF s)); rw [List.length_map] at this; show (writeB _).length ≤ _; omega) (read_text FE.out.1 EA))
      have TT := (two_texts FE.out.1 FE.out.2.1.1 FE.out.2.1.2)
      rw [← hfab] at TT
      have TT := hid TT
      have HFAB := hid hfab
      clear hfab r1 r2 iL hg7 hg8 hg9 hk8 hk9 EA LA
      go_upto_region 12 with (first
        | (at_builtin; refine wpList_append_eq R1.out (.tmp 79) (.tmp 80) ?_ ?_ ?_ ?_ ?_ ?_ ?_; exact rfl; exact rfl; exact rfl; exact rfl; exact rfl; exact rfl)
        | (at_builtin; refine wpList_append_eq R2.out (.tmp 81) (.tmp 82) ?_ ?_ ?_ ?_ ?_ ?_ ?_; exact rfl; exact rfl; exact rfl; exact rfl; exact rfl; exact rfl))
      clear c0 c1 c2 c3 c4 c5 c6 c7 c8
      obtain ⟨-, c0, c1, c2, c3, c4, c5, c6, c7, c8⟩ := KS9.out _ (Grow.refl _)
      go_upto_region 13 with (go_at_call 19; refine (TX3.out _ (Grow.refl _)).mono ?_; rintro e wB ⟨rfl, hgB⟩; clear c0 c1 c2 c3 c4 c5 c6 c7 c8; obtain ⟨-, c0, c1, c2, c3, c4, c5, c6, c7, c8⟩ := KS9.out _ hgB)
      go_upto_region 14 with (go_at_call 67; refine (RD1.out _ hgB).mono ?_; rintro e wC ⟨AC, cC, rfl, iC, hgC⟩; clear c0 c1 c2 c3 c4 c5 c6 c7 c8; have hkC := hgB.trans hgC; obtain ⟨-, c0, c1, c2, c3, c4, c5, c6, c7, c8⟩ := KS9.out _ hkC)
      have SF := hid (fun W (hg : Grow wC W) => sameFaces_eq _ _ _ W (iC.grow hg) (IL.out W (hkC.trans hg)))
      go_upto_region 16 with (go_at_call 66; refine (SF.out _ (Grow.refl _)).mono ?_; rintro e wD hD; obtain ⟨rfl, hgD⟩ := gives_says hD; clear hD c0 c1 c2 c3 c4 c5 c6 c7 c8)
      have hkD := hkC.trans hgD
      clear hgB hgC iC
      have LT := hid (show fa = [] ∧ textB s fa = [] ∨ fa ≠ [] ∧ 0 < (textB s fa).length from text_pos s fa)
      have LU := hid (show fb = [] ∧ textB s fb = [] ∨ fb ≠ [] ∧ 0 < (textB s fb).length from text_pos s fb)
      have BA := text_bytes FE.out.1 FE.out.2.1.1
      have BB := text_bytes FE.out.1 FE.out.2.1.2
      have NA : (textB s fa).length ≤ 10000 := by have := writeB_length (fa.map (markF s)); rw [List.length_map] at this; have := FE.out.2.2.1; show (writeB _).length ≤ _; omega
      have NB : (textB s fb).length ≤ 10000 := by have := writeB_length (fb.map (markF s)); rw [List.length_map] at this; have := FE.out.2.2.2; show (writeB _).length ≤ _; omega
      have RD2 := fun r fs hr W (hg : Grow w9 W) => read_is (.agg #[.int .i64 s.pl, .slice A s.su.length c, .int .i64 s.wi, .int .i64 s.dr, .int .i64 s.fl, .int .i64 s.co, .int .i64 s.me, .int .i64 s.de, .slice B s.re.length d]) s (textB s fa ++ textB s fb) W (SI.out W (G9.out W hg)) (fun z hz => (List.mem_append.1 hz).elim (BA z) (BB z)) (by rw [List.length_append]; omega) (r := r) (fs := fs) hr
      have AS := hid (add_str (textB s fa) (textB s fb) (by omega) (by omega))
      have TT := TT.out
      have LT := LT.out
      have LU := LU.out
      clear RD1 TX1 TX2 TX3 BA BB
      have q1 := strOfNums_size (textB s fa)
      have q2 := strOfNums_size (textB s fb)
      have q3 := strOfNums_size (textB s fab)
      generalize textB s fa = xa at *
      generalize textB s fb = xb at *
      generalize textB s fab = xz at *
      rcases TT with ⟨t1, t2⟩ | ⟨t1, t2, t3, t4⟩
      · have q4 : xz.length = xa.length + xb.length := by rw [t1, List.length_append]
        have AS := AS.out
        rw [← t1] at AS
        have AS := hid AS
        have RD := hid (fun W (hg : Grow w9 W) => by have h := RD2 _ _ t2 W hg; rw [← t1] at h; exact h)
        obtain ⟨la, hla⟩ : ∃ x, x = xa.length := ⟨_, rfl⟩
        obtain ⟨lb, hlb⟩ : ∃ x, x = xb.length := ⟨_, rfl⟩
        obtain ⟨lz, hlz⟩ : ∃ x, x = xz.length := ⟨_, rfl⟩
        rw [← hla] at q1
        rw [← hlb] at q2
        rw [← hlz] at q3
        have z1 : IntKind.i64.wrap (((la : Nat) : Int) + (lb : Int)) = (la : Int) + (lb : Int) := by rw [IntWalk.i64_in _ (by omega)]
        have z5 : ((lz : Int) != (la : Int) + (lb : Int)) = false := by simp; omega
        have ZZ : ¬ (0 : Int) < (la : Int) ∨ (0 : Int) < (la : Int) ∧ (¬ (0 : Int) < (lb : Int) ∨ (0 : Int) < (lb : Int)) := by omega
        clear hla hlb hlz q4 t1 t2 NA NB LT LU RD2
        rcases ZZ with z3 | ⟨z3, z4 | z4⟩
        all_goals
          go_upto_region 17 with fail
          clear q1 q2 q3 z1 z3 z5
          try clear z4
          obtain ⟨-, c0, c1, c2, c3, c4, c5, c6, c7, c8⟩ := KS9.out _ hkD
          have aS := AS.out
          go_upto_region 18 with (go_at_call 67; refine (RD.out _ hkD).mono ?_; rintro e wE ⟨AE, cE, rfl, iE, hgE⟩; clear c0 c1 c2 c3 c4 c5 c6 c7 c8; have hkE := hkD.trans hgE)
          have SF2 := hid (fun W (hg : Grow wE W) => sameFaces_eq _ _ _ W (iE.grow hg) (IL.out W (hkE.trans hg)))
          go_wp2_with (first
            | (go_at_call 66; refine (SF2.out _ (Grow.refl _)).mono ?_; rintro e wF hF; obtain ⟨rfl, hgF⟩ := gives_says hF; clear hF)
            | (go_at_call 21; refine (awake_any _).mono ?_; rintro e w8 ⟨rfl, hg8⟩))
          go_ret
          exact ⟨rfl, HG.out _ (G9.out _ (hkE.trans (hgF.trans hg8)))⟩
      · have a0 : 0 < xa.length := by rcases LT with h | h; exact absurd h.1 t1; exact h.2
        have b0 : 0 < xb.length := by rcases LU with h | h; exact absurd h.1 t2; exact h.2
        obtain ⟨la, hla⟩ : ∃ x, x = xa.length := ⟨_, rfl⟩
        obtain ⟨lb, hlb⟩ : ∃ x, x = xb.length := ⟨_, rfl⟩
        obtain ⟨lz, hlz⟩ : ∃ x, x = xz.length := ⟨_, rfl⟩
        rw [← hla] at a0 q1
        rw [← hlb] at b0 q2
        rw [← hlz] at q3
        have z1 : IntKind.i64.wrap (((la : Nat) : Int) + (lb : Int)) = (la : Int) + (lb : Int) := by rw [IntWalk.i64_in _ (by omega)]
        have z2 : IntKind.i64.wrap (((la : Nat) : Int) + (lb : Int) - 1) = (lz : Int) := by rw [IntWalk.i64_in _ (by omega)]; omega
        have z3 : (0 : Int) < (la : Int) := by omega
        have z4 : (0 : Int) < (lb : Int) := by omega
        have z5 : ((lz : Int) != (la : Int) + (lb : Int)) = true := by simp; omega
        have RD := hid (fun W hg => RD2 _ _ t4 W hg)
        clear hla hlb hlz t1 t2 t3 t4 a0 b0 NA NB LT LU RD2
        have QQ := hid (And.intro q1 (And.intro q2 (And.intro q3 (And.intro z1 z2))))
        go_upto_region 17 with fail
        clear q1 q2 q3 z1 z2 z3 z4 z5
        obtain ⟨-, c0, c1, c2, c3, c4, c5, c6, c7, c8⟩ := KS9.out _ hkD
        have aS := AS.out
        go_upto_region 18 with (go_at_call 67; refine (RD.out _ hkD).mono ?_; rintro e wE ⟨AE, cE, rfl, iE, hgE⟩; clear c0 c1 c2 c3 c4 c5 c6 c7 c8; have hkE := hkD.trans hgE)
        clear aS
        have GF := hid ((G9.out _ hkE))
        go_upto_region 19 with fail
        obtain ⟨q1, q2, q3, z1, z2⟩ := QQ.out
        go_wp2_with (go_at_call 21; refine (awake_any _).mono ?_; rintro e w8 ⟨rfl, hg8⟩)
        go_ret
        exact ⟨rfl, HG.out _ (G9.out _ (hkE.trans hg8))⟩
end Go.Proofs.Ytjiahcfegfimmaa
