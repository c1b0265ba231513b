/-
  Parts of the proof: Once, Concat.
-/
import Derived.Test.YtjiahcfegfimmaaKnown10
import Derived.Test.YtjiahcfegfimmaaKnown08
import Derived.Lib.AppendZerosOnto
import Derived.Lib.SliceRun
import Derived.Lib.Walk
/-
  The walk of once.
-/
namespace Go.Proofs.Ytjiahcfegfimmaa
open Go.RowKit

/-- The first error of tiles, of which some have come. -/
def dupE (n : Int) : List Int → List Int → Int
  | _, [] => 0
  | p, t :: l => if t < 0 ∨ n ≤ t then 2 else if t ∈ p then 9 else dupE n (p ++ [t]) l
def onceErr (s : TSet) (l : List Int) : Int := if chkErr s ≠ 0 then chkErr s else dupE (sizeI s) [] l
theorem dupE_drop {n : Int} {p l : List Int} {k : Nat} (h : k < l.length) : dupE n p (l.drop k) = if l[k] < 0 ∨ n ≤ l[k] then 2 else if l[k] ∈ p then 9 else dupE n (p ++ [l[k]]) (l.drop (k + 1)) := by
  rw [List.drop_eq_getElem_cons h]; rfl
abbrev bools (bs : List Bool) : List Value := bs.map Value.bool
theorem Blk.cell_bool {w : World} {g : Nat} {e : TypeId} {bs : List Bool} (h : Blk w g e (bools bs)) {i : Nat} (hi : i < bs.length) : w.cell? ⟨g, i, none⟩ = some (.bool bs[i]) := by rw [h.cell]; simp [hi]
theorem Blk.set_bool {w : World} {g : Nat} {e : TypeId} {bs : List Bool} (h : Blk w g e (bools bs)) (i : Nat) (z : Bool) : Blk (w.setCell ⟨g, i, none⟩ (.bool z)) g e (bools (bs.set i z)) := by
  have := Blk.set h i (.bool z)
  rwa [bools, List.map_set]
def falses144 : Array Value := (bools (List.replicate 144 false)).toArray
theorem infoSeen : (Try.prog.info? 117).map (fun i => (i.zero, i.size)) = some (some (.agg falses144), 144) := by kernel_rfl
/-- Which tiles have come. -/
def SeenBy (p : List Int) (bs : List Bool) : Prop := bs.length = 144 ∧ ∀ (j : Nat) (h : j < bs.length), bs[j] = decide ((j : Int) ∈ p)
theorem seen_none : SeenBy [] (List.replicate 144 false) := ⟨List.length_replicate, fun j h => by rw [List.getElem_replicate]; rfl⟩
theorem SeenBy.set {p : List Int} {bs : List Bool} (h : SeenBy p bs) {t : Int} (h0 : 0 ≤ t) : SeenBy (p ++ [t]) (bs.set t.toNat true) := by
  refine ⟨by rw [List.length_set]; exact h.1, fun j hj => ?_⟩
  rw [List.length_set] at hj
  by_cases e : t.toNat = j
  · subst e
    rw [List.getElem_set_self]
    have : ((t.toNat : Nat) : Int) = t := by omega
    simp [this]
  · rw [List.getElem_set_ne e, h.2 j hj]
    have : (j : Int) ≠ t := by omega
    simp [this]

set_option maxRecDepth 100000 in
set_option maxHeartbeats 2000000 in
theorem once_any (v v2 : Value) (s : TSet) (ts : List Int) (w : World) (h : IsSet w v s) (h2 : IsInts w v2 ts) : Calls Try.prog 81 #[v, v2] w (Gives w (.int .i64 (onceErr s ts))) := by
  have hfin : ∀ r wf, onceErr s ts = r → Grow w wf → Gives w (.int .i64 (onceErr s ts)) (.returned (.int .i64 r)) wf := fun r wf h hg => ⟨by rw [h], hg⟩
  have HF := hid hfin
  have CH := fun W (hg : Grow w W) => Check_any v s W (h.grow hg)
  have SZ := fun W (hg : Grow w W) => Size_any v s W (h.grow hg)
  have hb := size_bound s
  obtain ⟨n, hn⟩ := Int.eq_ofNat_of_zero_le hb.1
  have hn1 : n ≤ 144 := by omega
  rw [hn] at SZ
  have SZ := hid SZ
  have HN := hid hn
  obtain ⟨A2, e2, rfl, q1, q2, rT⟩ := h2
  unfold maxLen at q2
  clear hfin hb
  have HI := hid h
  obtain ⟨A, c, B, d, rfl, h1, k2⟩ := h.open_
  obtain ⟨_, _, e1, c1, m1, r1⟩ := h1
  obtain ⟨_, _, e2x, d1, m2, r2⟩ := k2
  injection e1 with e1 _ e1'
  injection e2x with e2x _ e2'
  subst e1 e1' e2x e2'
  unfold maxLen at m1 m2
  have HG0 := hid (show Grow w (w.alloc (.cells #[.int .i64 s.pl, .slice A s.su.length c, .int .i64 s.wi, .int .i64 s.dr, .int .i64 s.fl, .int .i64 s.co, .int .i64 s.me, .int .i64 s.de, .slice B s.re.length d] 24)) from (Grow.refl w).alloc _)
  have HB0 := hid (show Blk (w.alloc (.cells #[.int .i64 s.pl, .slice A s.su.length c, .int .i64 s.wi, .int .i64 s.dr, .int .i64 s.fl, .int .i64 s.co, .int .i64 s.me, .int .i64 s.de, .slice B s.re.length d] 24)) w.heap.size 24 (setVals s (.slice A s.su.length c) (.slice B s.re.length d)) from heap_alloc_new w _)
  clear h
  by_cases e : chkErr s = 0
  · have HE0 := hid (show onceErr s ts = dupE n [] ts by unfold onceErr; rw [if_neg (by omega), HN.out])
    rw [e] at CH
    have CH := hid CH
    obtain ⟨hz0, hz1⟩ := zero_of_info infoSeen
    clear e hn
    go_enter Try.func81, Try.ntmps81
    go_wp2_with (first
      | (go_at_call 38; refine (CH.out _ HG0.out).mono ?_; rintro e w1 ⟨rfl, hg1⟩; have hg := HG0.out.trans hg1; obtain ⟨c0, c1, c2, c3, c4, c5, c6, c7, c8⟩ := set_cells ((HB0.out.grow hg1).grow ((Grow.refl _).alloc (.cells falses144 117)))
      )
      | (go_at_call 30; refine (SZ.out _ (hg.alloc (.cells falses144 117))).mono ?_; rintro e w2 ⟨rfl, hg2⟩; have bS := (show Blk (w1.alloc (.cells falses144 117)) w1.heap.size 117 (bools (List.replicate 144 false)) from heap_alloc_new w1 _).grow hg2; have hgg := (hg.alloc (.cells falses144 117)).trans hg2))
    have hT : w.heap.size ≤ w1.heap.size := hg.size
    generalize w1.heap.size = T at *
    have BS := hid (And.intro bS hgg)
    clear c0 c1 c2 c3 c4 c5 c6 c7 c8 hg1 hg2 hg bS hgg
    go_loopw [9, 19] (fun _ i wr => ∃ (k : Nat) (bs : List Bool), k ≤ ts.length ∧ i = .int .i64 (k : Int) ∧ SeenBy (ts.take k) bs ∧ Blk wr T 117 (bools bs) ∧ Grow w wr ∧ dupE n [] ts = dupE n (ts.take k) (ts.drop k)) (fun _ i _ => ts.length - (intOf i).toNat)
    case atStart => exact ⟨0, _, Nat.zero_le _, rfl, seen_none, BS.out.1, BS.out.2, rfl⟩
    case round =>
      obtain ⟨k, bs, hk, rfl, hsb, hb, hg, hd⟩ := hrel
      have HS := hid hsb
      have HD := hid hd
      clear hsb hd
      by_cases hlt : k < ts.length
      · obtain ⟨ad, rfl, _, hx⟩ := (rT.grow hg).int hlt
        have hst := HD.out
        rw [dupE_drop hlt] at hst
        have i0 : (0 : Int) ≤ (k : Int) := by omega
        have i1 : (k : Int) < (ts.length : Int) := by omega
        by_cases q1 : ts[k] < 0 ∨ (n : Int) ≤ ts[k]
        · rw [if_pos q1] at hst
          have HE := hid (HE0.out.trans hst)
          clear hst
          rcases q1 with q1 | q1
          · go_wp2
            go_ret
            exact HF.out _ _ HE.out hg
          · have q0 : ¬ ts[k] < 0 := by omega
            go_wp2
            go_ret
            exact HF.out _ _ HE.out hg
        · rw [if_neg q1] at hst
          have z0 : 0 ≤ ts[k] := by omega
          have z1 : ts[k] < (n : Int) := by omega
          have hbl : ts[k].toNat < bs.length := by have := HS.out.1; omega
          have c0 := hb.cell_bool hbl
          rw [HS.out.2 _ hbl, show ((ts[k].toNat : Nat) : Int) = ts[k] by omega] at c0
          by_cases q2 : ts[k] ∈ ts.take k
          · rw [if_pos q2] at hst
            rw [decide_eq_true q2] at c0
            have HE := hid (HE0.out.trans hst)
            have z3 : ts[k] < 144 := by omega
            clear hst q2 q1
            go_wp2
            go_ret
            exact HF.out _ _ HE.out hg
          · rw [if_neg q2, ← List.take_succ_eq_append_getElem hlt] at hst
            rw [decide_eq_false q2] at c0
            have HST := hid hst
            have f0 := hb.free ts[k].toNat
            have hs2 := HS.out.set z0
            rw [← List.take_succ_eq_append_getElem hlt] at hs2
            have NEW := hid (And.intro hs2 (And.intro (hb.set_bool ts[k].toNat true) (hg.set (p := ⟨T, ts[k].toNat, none⟩) hT (.bool true))))
            have z3 : ts[k] < 144 := by omega
            clear hst q2 hs2 q1
            go_wp2
            exact ⟨⟨k + 1, _, by omega, by go_num, NEW.out.1, NEW.out.2.1, NEW.out.2.2, HST.out⟩, by simp only [intOf]; omega⟩
      · have HE := hid (HE0.out.trans (show dupE n [] ts = 0 by rw [HD.out, List.drop_eq_nil_of_le (by omega)]; rfl))
        go_wp2
        go_ret
        exact HF.out _ _ HE.out hg
  · have HE := hid (show onceErr s ts = chkErr s by unfold onceErr; rw [if_pos e])
    have ne : (chkErr s != 0) = true := by simp [e]
    have CH := hid CH
    clear e hn
    generalize chkErr s = z at *
    go_enter Try.func81, Try.ntmps81
    go_wp2_with (go_at_call 38; refine (CH.out _ HG0.out).mono ?_; rintro e w1 ⟨rfl, hg1⟩; have hg := HG0.out.trans hg1)
    go_ret
    exact HF.out _ _ HE.out hg
end Go.Proofs.Ytjiahcfegfimmaa

/-
  Walks of slices.Grow of nil and slices.Concat of two lists, at integers.
-/
namespace Go.Proofs.Ytjiahcfegfimmaa
open Go.RowKit

set_option maxRecDepth 100000 in
theorem grow_nil (n : Nat) (w : World) (hn : n ≤ 1000000) : Calls Try.prog 104 #[.slice none 0 0, .int .i64 (n : Int)] w (CloneRes w []) := by
  obtain ⟨i0, hi0, hz0, hz1, hz2⟩ := info_parts infoInt
  rcases Nat.eq_zero_or_pos n with rfl | hp
  · go_enter Try.func104, Try.ntmps104
    go_wp2
    go_ret
    exact ⟨_, rfl, Own.nil _ _, Grow.refl _⟩
  · have hold : (Builtin.firstCells i0.size 0 (.slice none 0 0)).run Try.prog w.drew = .ok #[] w.drew := run_firstCells_none w.drew i0.size 0 0 0
    have hrz := fun ty => Lib.run_append_grow_zeros (P := Try.prog) w 22 3 ty 3 i0 _ .i64 .i64 Try.underlying22 Try.underlying3 hi0 hz0 none 0 0 [] hold n hp (by omega) (by omega) (by omega) (by rw [hz2]; omega) (growslice_fits (by omega) (by rw [hz2]; omega))
    simp only [Nat.zero_add] at hrz
    have hge := grownCap_ge w n 0 3
    have hG63 := grownCap_le_maxLen w n 0 3 (by unfold maxLen; omega)
    obtain ⟨G, hG⟩ : ∃ G, G = grownCap w n 0 3 := ⟨_, rfl⟩
    rw [← hG] at hrz hge hG63
    have FIN := hid (show CloneRes w [] (.returned (.slice (some ⟨w.heap.size, 0, none⟩) 0 G)) (w.alloc (.cells (Builtin.zeroCells #[.int .i64 0] n ++ Builtin.zeroCells #[.int .i64 0] (G - n)) 3)).drew from
      ⟨_, rfl, ⟨rfl, .inr ⟨w.heap.size, G, _, rfl, Nat.le_refl _, heap_alloc_new w _, Nat.zero_le _, hG63, by simp [size_zeroCells]; omega, rfl⟩⟩, ((Grow.refl w).alloc _).drew⟩)
    have HRZ := hid hrz
    have G0 : (0 : Int) ≤ (G : Int) := by omega
    unfold maxLen at hG63
    clear hold hG hrz
    have n0 : (0 : Int) < (n : Int) := by omega
    go_enter Try.func104, Try.ntmps104
    go_wp2_with (at_builtin; refine Lib.wpList_append_run _ rfl _ _ _ _ rfl _ _ rfl rfl _ _ (HRZ.out _) ?_)
    go_ret
    exact FIN.out

def catTo (xs ys : List Int) : Nat → List Int
  | 0 => []
  | 1 => xs
  | _ => xs ++ ys

set_option maxRecDepth 100000 in
theorem concat_two (L : Nat) (v1 v2 : Value) (xs ys : List Int) (w : World) (hL : Blk w L 22 [v1, v2]) (h1 : IsInts w v1 xs) (h2 : IsInts w v2 ys) (hl : xs.length + ys.length ≤ 1000000) : Calls Try.prog 82 #[.slice (some ⟨L, 0, none⟩) 2 2] w (CloneRes w (xs ++ ys)) := by
  have H1 := hid h1
  have H2 := hid h2
  have HL := hid hL
  obtain ⟨A1, c1, rfl, _, m1, _⟩ := h1
  obtain ⟨A2, c2, rfl, _, m2, _⟩ := h2
  unfold maxLen at m1 m2
  have k0 := hL.cell 0
  have k1 := hL.cell 1
  simp only [List.getElem?_cons_zero, List.getElem?_cons_succ] at k0 k1
  have GN := hid (grow_nil (xs.length + ys.length) w (by omega))
  clear hL
  go_enter Try.func82, Try.ntmps82
  go_wp2
  go_loop [3, 11] (fun z i => ∃ k : Nat, k ≤ 2 ∧ i = .int .i64 (k : Int) ∧ z = .int .i64 (((if 0 < k then xs.length else 0) + (if 1 < k then ys.length else 0) : Nat) : Int)) (fun _ i => 2 - (intOf i).toNat)
  case atStart => exact ⟨0, by omega, rfl, rfl⟩
  case round =>
    obtain ⟨k, hk, rfl, rfl⟩ := hrel
    rcases (show k = 0 ∨ k = 1 ∨ k = 2 by omega) with rfl | rfl | rfl
    · simp only [Nat.lt_irrefl, if_false, Nat.not_lt_zero]
      go_wp2
      exact ⟨⟨1, by omega, by go_num, by simp⟩, by simp only [intOf]; omega⟩
    · simp only [Nat.lt_irrefl, if_false, Nat.zero_lt_one, if_true, Nat.add_zero]
      go_wp2
      exact ⟨⟨2, by omega, by go_num, by simp⟩, by simp only [intOf]; omega⟩
    · simp only [show (0 : Nat) < 2 by omega, show (1 : Nat) < 2 by omega, if_true]
      go_wp2_with (go_at_call 104; refine GN.out.mono ?_; rintro e w1 ⟨v, rfl, ho, hg⟩; have q0 := hg.cell_some k0; have q1 := hg.cell_some k1)
      have HO := hid (And.intro ho hg)
      clear ho hg q0 q1
      go_loopw [6, 8, 27] (fun v _ i wr => ∃ (k : Nat) (u : Value), u = v ∧ k ≤ 2 ∧ i = .int .i64 (k : Int) ∧ Own w wr v (catTo xs ys k) ∧ Grow w wr) (fun _ _ i _ => 2 - (intOf i).toNat)
      case atStart => exact ⟨0, _, rfl, by omega, rfl, HO.out.1, HO.out.2⟩
      case round =>
        obtain ⟨k, v, rfl, hk2, rfl, ho, hg⟩ := hrel
        have q0 := hg.cell_some k0
        have q1 := hg.cell_some k1
        rcases (show k = 0 ∨ k = 1 ∨ k = 2 by omega) with rfl | rfl | rfl
        · go_wp2_with (at_builtin; refine wpList_append_ints w _ rfl (.tmp 31) (.tmp 32) _ rfl Try.underlying22 _ _ _ xs rfl ho rfl (H1.out.grow hg) (by simp [catTo]; omega) hg ?_; intro v' w' ho' hg' _)
          exact ⟨⟨1, _, rfl, by omega, by go_num, by simpa [catTo] using ho', hg'⟩, by simp only [intOf]; omega⟩
        · go_wp2_with (at_builtin; refine wpList_append_ints w _ rfl (.tmp 31) (.tmp 32) _ rfl Try.underlying22 _ _ _ ys rfl ho rfl (H2.out.grow hg) (by simp [catTo]; omega) hg ?_; intro v' w' ho' hg' _)
          exact ⟨⟨2, _, rfl, by omega, by go_num, by simpa [catTo] using ho', hg'⟩, by simp only [intOf]; omega⟩
        · have FIN := hid (show CloneRes w (xs ++ ys) (.returned v) wr from ⟨v, rfl, by simpa [catTo] using ho, hg⟩)
          clear ho
          go_wp2
          go_ret
          exact FIN.out
end Go.Proofs.Ytjiahcfegfimmaa
