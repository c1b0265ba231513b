/-
  The walk of Swap.
-/
import Derived.Test.YtjiahcfegfimmaaKnown27
import Derived.Sort.QuietIn
import Derived.Sort.CutIn
import Derived.Outline
namespace Go.Proofs.Ytjiahcfegfimmaa
open Go.RowKit Go.Shelf

attribute [local go_sem] Oper.semAt_some

/-- Between two rounds: the place has not come. -/
structure SwapI (w : World) (s : TSet) (a b : Value) (R K T Z N : Nat) (r to : Int) (A : Nat) (pre : List KPlace) (W : World) : Prop where
  no : ∀ x ∈ pre, ¬ (x.2.1 = to ∧ x.2.2 = r)
  bR : Blk W R 3 [.int .i64 0]
  bK : Blk W K 3 [.int .i64 r]
  bT : Blk W T 3 [.int .i64 to]
  bZ : Blk W Z 24 (setVals s a b)
  g : Grow w W
  lt : N ≤ A
  bd : w.heap.size ≤ R ∧ R < N ∧ K < N ∧ T < N ∧ Z < N
section
variable {w : World} {s : TSet} {a b : Value} {R K T Z N : Nat} {r to : Int} {A C : Nat} {pre : List KPlace} {W W' : World}
theorem SwapI.turns (h : SwapI w s a b R K T Z N r to A pre W) (hC : w.heap.size ≤ C) (t : Turns C A W W') : SwapI w s a b R K T Z N r to A pre W' := by
  have hl := h.lt
  have hb := h.bd
  exact ⟨h.no, t.cells h.bR (by omega), t.cells h.bK (by omega), t.cells h.bT (by omega), t.cells h.bZ (by omega), t.grow h.g (by omega) hC, hl, hb⟩
theorem SwapI.grow (h : SwapI w s a b R K T Z N r to A pre W) (g : Grow W W') : SwapI w s a b R K T Z N r to A pre W' := h.turns (Nat.le_refl w.heap.size) (Turns.of_grow g)
end
/-- The place has come. -/
structure SwapX (w : World) (R N : Nat) (r to : Int) (A : Nat) (pre : List KPlace) (W : World) : Prop where
  hit : ∃ x ∈ pre, x.2.1 = to ∧ x.2.2 = r ∧ Blk W R 3 [.int .i64 x.1]
  g : Grow w W
  lt : N ≤ A
  bd : w.heap.size ≤ R ∧ R < N
theorem SwapX.turns {w : World} {R N : Nat} {r to : Int} {A C : Nat} {pre : List KPlace} {W W' : World} (h : SwapX w R N r to A pre W) (hC : w.heap.size ≤ C) (t : Turns C A W W') : SwapX w R N r to A pre W' := by
  have hl := h.lt
  have hb := h.bd
  obtain ⟨x, h1, h2, h3, h4⟩ := h.hit
  exact ⟨⟨x, h1, h2, h3, t.cells h4 (by omega)⟩, t.grow h.g (by omega) hC, hl, hb⟩

theorem swap_hit {s : TSet} {k a b su r : Int} (he : chkErr s = 0) (hp : placeP s k = (su, r)) (_h4 : su ≠ -4) (hq : ¬ ((a < 0 ∨ b < 0 ∨ (s.su.length : Int) ≤ a ∨ (s.su.length : Int) ≤ b) ∨ s.su.getD a.toNat 0 ≠ s.su.getD b.toNat 0 ∨ (su ≠ a ∧ su ≠ b))) :
    (∀ x ∈ allP s, x.2.1 = a + b - su → x.2.2 = r → x.1 = sumI (s.su.take (a + b - su).toNat) + r) ∧ ∃ x ∈ allP s, x.2.1 = a + b - su ∧ x.2.2 = r := by
  obtain ⟨i, rfl⟩ := Int.eq_ofNat_of_zero_le (show 0 ≤ a by omega)
  obtain ⟨j, rfl⟩ := Int.eq_ofNat_of_zero_le (show 0 ≤ b by omega)
  have hi : i < s.su.length := by omega
  have hj : j < s.su.length := by omega
  have hd : s.su.getD ((i : Nat) : Int).toNat 0 = s.su.getD ((j : Nat) : Int).toNat 0 := by
    by_cases h : s.su.getD ((i : Nat) : Int).toNat 0 = s.su.getD ((j : Nat) : Int).toNat 0
    · exact h
    · exact absurd (.inr (.inl h)) hq
  rw [show s.su.getD ((i : Nat) : Int).toNat 0 = s.su[i] by simp [List.getD, hi], show s.su.getD ((j : Nat) : Int).toNat 0 = s.su[j] by simp [List.getD, hj]] at hd
  have hs : su = i ∨ su = j := by omega
  rcases place_is s k with h | ⟨_, m, q, h, hm, hr, _⟩ | ⟨_, m, q, h, hm, _, _, _⟩
  · rw [hp] at h; injection h with h _; omega
  · rw [hp] at h
    injection h with h1 h2
    obtain ⟨t, ht, htl, hlen⟩ : ∃ t : Nat, (i : Int) + (j : Int) - su = t ∧ ∃ htl : t < s.su.length, (q : Int) < s.su[t] := by
      rcases hs with e | e
      · obtain rfl : m = i := by omega
        exact ⟨j, by omega, hj, by omega⟩
      · obtain rfl : m = j := by omega
        exact ⟨i, by omega, hi, by omega⟩
    rw [ht, Int.toNat_natCast]
    refine ⟨fun x hx e1 e2 => ?_, ⟨_, mem_suit he ⟨htl, hlen, rfl⟩, rfl, h2.symm⟩⟩
    rcases place_cases he hx with ⟨j', r', ⟨_, _, h'⟩, e⟩ | ⟨r', _, _, e⟩ | ⟨r', _, _, e⟩ | ⟨r', _, _, e⟩
    · rw [e] at e1 e2
      obtain rfl : j' = t := by simp only at e1; omega
      simp only at e2
      omega
    · rw [e] at e1; simp only at e1; omega
    · rw [e] at e1; simp only at e1; omega
    · rw [e] at e1; simp only at e1; omega
  · rw [hp] at h; injection h with h _; omega

set_option maxRecDepth 100000 in
set_option maxHeartbeats 4000000 in
theorem Swap_any (v : Value) (s : TSet) (k a b : Int) (w : World) (h : IsSet w v s) : Calls Try.prog 49 #[v, .int .i64 k, .int .i64 a, .int .i64 b] w (Gives w (.int .i64 (swapI s k a b))) := by
  have hfin : ∀ r wf, swapI s k a b = r → Grow w wf → Gives w (.int .i64 (swapI s k a b)) (.returned (.int .i64 r)) wf := fun r wf h hg => ⟨by rw [h], hg⟩
  have HF := hid hfin
  have PL := fun W (hg : Grow w W) => Place_any v s k W (h.grow hg)
  clear hfin
  have HI := hid h
  obtain ⟨A, c, B, d, rfl, h1, h2⟩ := h.open_
  obtain ⟨_, _, e1, c1, m1, r1⟩ := h1
  obtain ⟨_, _, e2, d1, m2, r2⟩ := h2
  injection e1 with e1 _ e1'
  injection e2 with e2 _ e2'
  subst e1 e1' e2 e2'
  unfold maxLen at m1 m2
  have HG0 := hid (show Grow w (w.alloc (.cells #[.int .i64 s.pl, .slice A s.su.length c, .int .i64 s.wi, .int .i64 s.dr, .int .i64 s.fl, .int .i64 s.co, .int .i64 s.me, .int .i64 s.de, .slice B s.re.length d] 24)) from (Grow.refl w).alloc _)
  have HB0 := hid (show Blk (w.alloc (.cells #[.int .i64 s.pl, .slice A s.su.length c, .int .i64 s.wi, .int .i64 s.dr, .int .i64 s.fl, .int .i64 s.co, .int .i64 s.me, .int .i64 s.de, .slice B s.re.length d] 24)) w.heap.size 24 (setVals s (.slice A s.su.length c) (.slice B s.re.length d)) from heap_alloc_new w _)
  clear h
  have H1 := hid (And.intro (show IsInts w (.slice A s.su.length c) s.su from ⟨A, c, rfl, c1, by unfold maxLen; omega, r1⟩) (show IsInts w (.slice B s.re.length d) s.re from ⟨B, d, rfl, d1, by unfold maxLen; omega, r2⟩))
  have KI := hid (fun W => (callsIn_wide.2 (kinds_any _ s (.slice A s.su.length c) (.slice B s.re.length d) W rfl) : CallsIn Fence.wide 9 _ _ _ _ _))
  refine (callsIn_wide (n := 10)).1 ?_
  refine callsIn_of_wp_marks Try.func49 rfl trivial ?_ rfl
  simp only [Try.ntmps49, List.size_toArray, List.length_cons, List.length_nil, Nat.reduceAdd, Nat.reduceSub, Array.replicate_succ, Array.replicate_zero, List.push_toArray, List.append_toArray, List.nil_append, List.cons_append]
  rcases place_two s k with hp | ⟨su, r, hp, hs0, hs1, hr0, hr1, he, -⟩
  · rw [hp] at PL
    have PL := hid (fun W (hg : Grow w W) => (callsIn_wide.2 (PL W hg) : CallsIn Fence.wide 9 _ _ _ _ _))
    have HE := hid (show swapI s k a b = -1 by unfold swapI; rw [hp]; rfl)
    clear hp
    gi_wp2_with (refine ⟨trivial, ?_⟩; gi_at_call 35; refine (PL.out _ ?_).mono ?_; exact ((Grow.refl w).alloc _).alloc _; rintro e w1 ⟨rfl, hg1⟩; have bR1 := ((Blk.new_at (w := w.alloc (.cells #[.int .i64 s.pl, .slice A s.su.length c, .int .i64 s.wi, .int .i64 s.dr, .int .i64 s.fl, .int .i64 s.co, .int .i64 s.me, .int .i64 s.de, .slice B s.re.length d] 24)) (e := 3) (xs := [.int .i64 0]) (by simp) : Blk _ (w.heap.size + 1) 3 [.int .i64 0]).grow hg1).grow ((Grow.refl w1).alloc (.cells #[.int .i64 (0)] 3)); have b41 := (((HB0.out.grow ((Grow.refl _).alloc _)).grow hg1)).grow ((Grow.refl w1).alloc (.cells #[.int .i64 (0)] 3)); have g2 := ((((Grow.refl w).alloc _).alloc _).trans hg1).alloc (.cells #[.int .i64 (0)] 3); have cR := bR1.cell 0; have fR := bR1.free 0; simp only [List.getElem?_cons_zero] at cR)
    refine ⟨.int .i64 (-1), ?_, HF.out _ _ HE.out (g2.set (p := ⟨w.heap.size + 1, 0, none⟩) (by simp) _)⟩
    simp [results, Try.results49, go_sem, cR]
  · rw [hp] at PL
    have PL := hid (fun W (hg : Grow w W) => (callsIn_wide.2 (PL W hg) : CallsIn Fence.wide 9 _ _ _ _ _))
    have V := hid (valid_of he)
    have q0 : ¬ su < -3 := by omega
    have HS := hid (show swapI s k a b = if (a < 0 ∨ b < 0 ∨ (s.su.length : Int) ≤ a ∨ (s.su.length : Int) ≤ b) ∨ s.su.getD a.toNat 0 ≠ s.su.getD b.toNat 0 ∨ (su ≠ a ∧ su ≠ b) then k else sumI (s.su.take (a + b - su).toNat) + r by
      unfold swapI; rw [hp]; simp only; rw [if_neg (by omega)])
    have h3 := V.out.su3
    have HIT := hid (fun hq => swap_hit (a := a) (b := b) he hp (by omega) hq)
    clear hp he
    gi_upto_region 4 with (refine ⟨trivial, ?_⟩; gi_at_call 35; refine (PL.out _ ?_).mono ?_; exact ((Grow.refl w).alloc _).alloc _; rintro e w1 ⟨rfl, hg1⟩; have bR1 := ((Blk.new_at (w := w.alloc (.cells #[.int .i64 s.pl, .slice A s.su.length c, .int .i64 s.wi, .int .i64 s.dr, .int .i64 s.fl, .int .i64 s.co, .int .i64 s.me, .int .i64 s.de, .slice B s.re.length d] 24)) (e := 3) (xs := [.int .i64 0]) (by simp) : Blk _ (w.heap.size + 1) 3 [.int .i64 0]).grow hg1).grow ((Grow.refl w1).alloc (.cells #[.int .i64 (r)] 3)); have b41 := (((HB0.out.grow ((Grow.refl _).alloc _)).grow hg1)).grow ((Grow.refl w1).alloc (.cells #[.int .i64 (r)] 3)); have g2 := ((((Grow.refl w).alloc _).alloc _).trans hg1).alloc (.cells #[.int .i64 (r)] 3); have cR := bR1.cell 0; have fR := bR1.free 0; simp only [List.getElem?_cons_zero] at cR)
    have hKlt : w1.heap.size < (w1.alloc (.cells #[.int .i64 r] 3)).heap.size := by simp
    have bK1 : Blk (w1.alloc (.cells #[.int .i64 r] 3)) w1.heap.size 3 [.int .i64 r] := Blk.new_at rfl
    clear hg1
    generalize w1.heap.size = K at *
    generalize w1.alloc (.cells #[.int .i64 r] 3) = w2 at *
    obtain ⟨c0, c1, c2, c3, c4, c5, c6, c7, c8⟩ := set_cells b41
    have BB := hid (And.intro (And.intro bR1 bK1) (And.intro b41 g2))
    have hR2 := bR1.lt
    clear bR1 bK1 b41 g2
    obtain ⟨bb, hbb⟩ : ∃ bb : Bool, bb = decide ((a < 0 ∨ b < 0 ∨ (s.su.length : Int) ≤ a ∨ (s.su.length : Int) ≤ b) ∨ s.su.getD a.toNat 0 ≠ s.su.getD b.toNat 0 ∨ (su ≠ a ∧ su ≠ b)) := ⟨_, rfl⟩
    have HBB := hid hbb
    clear hbb
    gi_cut [64] from 22 (fun t wx => t = .bool bb ∧ Grow w2 wx)
    case first =>
      have hc : ∀ (W : World), True := fun _ => trivial
      clear hc
      by_cases b1 : a < 0
      · have d1 : decide (a < 0) = true := decide_eq_true b1
        have HBV := hid (show bb = true by rw [HBB.out]; exact decide_eq_true (.inl (.inl b1)))
        gi_quiet (fail)
        gi_wp2_with (fail)
        gi_meet
        exact ⟨by rw [HBV.out], (Grow.refl _).drewN _⟩
      have d1 : decide (a < 0) = false := decide_eq_false b1
      by_cases b2 : b < 0
      · have d2 : decide (b < 0) = true := decide_eq_true b2
        have HBV := hid (show bb = true by rw [HBB.out]; exact decide_eq_true (.inl (.inr (.inl b2))))
        gi_quiet (fail)
        gi_wp2_with (fail)
        gi_meet
        exact ⟨by rw [HBV.out], (Grow.refl _).drewN _⟩
      have d2 : decide (b < 0) = false := decide_eq_false b2
      by_cases b3 : (s.su.length : Int) ≤ a
      · have d3 : decide ((s.su.length : Int) ≤ a) = true := decide_eq_true b3
        have HBV := hid (show bb = true by rw [HBB.out]; exact decide_eq_true (.inl (.inr (.inr (.inl b3)))))
        gi_quiet (fail)
        gi_wp2_with (fail)
        gi_meet
        exact ⟨by rw [HBV.out], (Grow.refl _).drewN _⟩
      have d3 : decide ((s.su.length : Int) ≤ a) = false := decide_eq_false b3
      by_cases b4 : (s.su.length : Int) ≤ b
      · have d4 : decide ((s.su.length : Int) ≤ b) = true := decide_eq_true b4
        have HBV := hid (show bb = true by rw [HBB.out]; exact decide_eq_true (.inl (.inr (.inr (.inr b4)))))
        gi_quiet (fail)
        gi_wp2_with (fail)
        gi_meet
        exact ⟨by rw [HBV.out], (Grow.refl _).drewN _⟩
      have d4 : decide ((s.su.length : Int) ≤ b) = false := decide_eq_false b4
      obtain ⟨i, rfl⟩ := Int.eq_ofNat_of_zero_le (show 0 ≤ a by omega)
      obtain ⟨j, rfl⟩ := Int.eq_ofNat_of_zero_le (show 0 ≤ b by omega)
      have hi : i < s.su.length := by omega
      have hj : j < s.su.length := by omega
      have i0 : (0 : Int) ≤ (i : Int) := by omega
      have i1 : (i : Int) < (s.su.length : Int) := by omega
      have j0 : (0 : Int) ≤ (j : Int) := by omega
      have j1 : (j : Int) < (s.su.length : Int) := by omega
      obtain ⟨ad, rfl, _, hx⟩ := (r1.grow BB.out.2.2).int hi
      obtain ⟨_, e7, _, hy⟩ := (r1.grow BB.out.2.2).int hj
      obtain rfl := Option.some.inj e7
      have HD := hid (And.intro (show s.su.getD ((i : Nat) : Int).toNat 0 = s.su[i] by simp [List.getD, hi]) (show s.su.getD ((j : Nat) : Int).toNat 0 = s.su[j] by simp [List.getD, hj]))
      clear e7
      generalize s.su[i] = zi at *
      generalize s.su[j] = zj at *
      by_cases b5 : zi = zj
      case neg =>
        have d5 : (zi != zj) = true := by simp [b5]
        have B5 := hid b5
        clear b5
        have HBV := hid (show bb = true by rw [HBB.out]; exact decide_eq_true (.inr (.inl (by rw [HD.out.1, HD.out.2]; exact B5.out))))
        gi_quiet (fail)
        gi_wp2_with (fail)
        gi_meet
        exact ⟨by rw [HBV.out], (Grow.refl _).drewN _⟩
      have d5 : (zi != zj) = false := by simp [b5]
      have B5 := hid b5
      clear b5
      by_cases b6 : su = (i : Int)
      · have d6 : (su != (i : Int)) = false := by simp [b6]
        have B6 := hid b6
        clear b6
        have HBV := hid (show bb = false by rw [HBB.out]; exact decide_eq_false (fun h => h.elim (fun h => by omega) (fun h => h.elim (fun h => h (by rw [HD.out.1, HD.out.2]; exact B5.out)) (fun h => h.1 B6.out))))
        gi_quiet (fail)
        gi_wp2_with (fail)
        gi_meet
        exact ⟨by rw [HBV.out], (Grow.refl _).drewN _⟩
      have d6 : (su != (i : Int)) = true := by simp [b6]
      by_cases b7 : su = (j : Int)
      · have d7 : (su != (j : Int)) = false := by simp [b7]
        have B7 := hid b7
        clear b6 b7
        have HBV := hid (show bb = false by rw [HBB.out]; exact decide_eq_false (fun h => h.elim (fun h => by omega) (fun h => h.elim (fun h => h (by rw [HD.out.1, HD.out.2]; exact B5.out)) (fun h => h.2 B7.out))))
        gi_quiet (fail)
        gi_wp2_with (fail)
        gi_meet
        exact ⟨by rw [HBV.out], (Grow.refl _).drewN _⟩
      have d7 : (su != (j : Int)) = true := by simp [b7]
      have B67 := hid (And.intro b6 b7)
      clear b6 b7
      have HBV := hid (show bb = true by rw [HBB.out]; exact decide_eq_true (.inr (.inr B67.out)))
      gi_quiet (fail)
      gi_wp2_with (fail)
      gi_meet
      exact ⟨by rw [HBV.out], (Grow.refl _).drewN _⟩
    case rest =>
      obtain ⟨rfl, hgc⟩ := hcut
      have bR3 := BB.out.1.1.grow hgc
      have bK3 := BB.out.1.2.grow hgc
      have b43 := BB.out.2.1.grow hgc
      have g3 := BB.out.2.2.trans hgc
      clear c0 c1 c2 c3 c4 c5 c6 c7 c8 cR fR
      obtain ⟨c0, c1, c2, c3, c4, c5, c6, c7, c8⟩ := set_cells b43
      have cR := bR3.cell 0
      have fR := bR3.free 0
      simp only [List.getElem?_cons_zero] at cR
      have B3 := hid (And.intro (And.intro bR3 bK3) (And.intro b43 g3))
      have hR3 := bR3.lt
      have hK3 := bK3.lt
      have h43 := b43.lt
      clear bR3 bK3 b43 g3 hgc hKlt hR2
      cases bb
      · have hq := of_decide_eq_false HBB.out.symm
        have ha : 0 ≤ a ∧ a ≤ 2 := by omega
        have hb : 0 ≤ b ∧ b ≤ 2 := by omega
        have hsu : su = a ∨ su = b := by omega
        have HQ := hid hq
        have HSU := hid hsu
        clear hq hsu
        gi_wp2_with (refine ⟨trivial, ?_⟩; gi_at_call 90; refine (KI.out _).mono ?_; rintro e w' ⟨rfl, rfl⟩)
        have bT0 : Blk ((wc.alloc (.cells #[.int .i64 (a + b - su)] 3)).alloc (.cells #[.int .i64 s.pl, .slice A s.su.length c, .int .i64 s.wi, .int .i64 s.dr, .int .i64 s.fl, .int .i64 s.co, .int .i64 s.me, .int .i64 s.de, .slice B s.re.length d] 24)) wc.heap.size 3 [.int .i64 (a + b - su)] := Blk.grow (Blk.new_at (xs := [.int .i64 (a + b - su)]) rfl) ((Grow.refl _).alloc _)
        have bZ0 : Blk ((wc.alloc (.cells #[.int .i64 (a + b - su)] 3)).alloc (.cells #[.int .i64 s.pl, .slice A s.su.length c, .int .i64 s.wi, .int .i64 s.dr, .int .i64 s.fl, .int .i64 s.co, .int .i64 s.me, .int .i64 s.de, .slice B s.re.length d] 24)) (wc.heap.size + 1) 24 (setVals s (.slice A s.su.length c) (.slice B s.re.length d)) := Blk.new_at (by simp)
        have g0 : Grow wc ((wc.alloc (.cells #[.int .i64 (a + b - su)] 3)).alloc (.cells #[.int .i64 s.pl, .slice A s.su.length c, .int .i64 s.wi, .int .i64 s.dr, .int .i64 s.fl, .int .i64 s.co, .int .i64 s.me, .int .i64 s.de, .slice B s.re.length d] 24)) := ((Grow.refl _).alloc _).alloc _
        have hsz : ((wc.alloc (.cells #[.int .i64 (a + b - su)] 3)).alloc (.cells #[.int .i64 s.pl, .slice A s.su.length c, .int .i64 s.wi, .int .i64 s.dr, .int .i64 s.fl, .int .i64 s.co, .int .i64 s.me, .int .i64 s.de, .slice B s.re.length d] 24)).heap.size = wc.heap.size + 2 := by simp
        have B0 := hid (And.intro (And.intro (B3.out.1.1.grow g0) (B3.out.1.2.grow g0)) (And.intro bT0 (And.intro bZ0 (B3.out.2.2.trans g0))))
        have TO := hid (HIT.out HQ.out)
        have HES := hid (show swapI s k a b = sumI (s.su.take (a + b - su).toNat) + r by rw [HS.out, if_neg HQ.out])
        clear bT0 bZ0 g0 cR fR c0 c1 c2 c3 c4 c5 c6 c7 c8
        generalize ((wc.alloc (.cells #[.int .i64 (a + b - su)] 3)).alloc (.cells #[.int .i64 s.pl, .slice A s.su.length c, .int .i64 s.wi, .int .i64 s.dr, .int .i64 s.fl, .int .i64 s.co, .int .i64 s.me, .int .i64 s.de, .slice B s.re.length d] 24)) = W0 at *
        generalize wc.heap.size = T at *
        obtain ⟨to, hto⟩ : ∃ to, to = a + b - su := ⟨_, rfl⟩
        rw [← hto] at TO HES B0
        have HTO := hid hto
        clear hto
        have hwT : w.heap.size ≤ T := by omega
        have hB0 : w.heap.size ≤ W0.heap.size := by omega
        refine range_law (S := allP s) (encs := encP) (Ok := SetAt (T + 1) s (.slice A s.su.length c) (.slice B s.re.length d)) (gf := 106) (lb := #[.pointer (some ⟨T + 1, 0, none⟩)]) rfl (enters_of Try.func106 (by kernel_rfl) rfl) (kinds_iterates _ s _ _) (fun _ => rfl)
          (fun W hg => ⟨B0.out.2.2.1.grow hg, H1.out.1.grow (B0.out.2.2.2.trans hg), H1.out.2.grow (B0.out.2.2.2.trans hg)⟩)
          (SwapI w s (.slice A s.su.length c) (.slice B s.re.length d) (w.heap.size + 1) K T (T + 1) (T + 2) r to) (SwapX w (w.heap.size + 1) (T + 2) r to) (fun A' pre W W' h t => h.turns (by omega) t) (fun A' pre W W' h t => h.turns (by omega) t) (fun A' pre W h => ⟨h.bZ, H1.out.1.grow h.g, H1.out.2.grow h.g⟩)
          (fun A' W hg hA _ => ⟨by simp, B0.out.1.1.grow hg, B0.out.1.2.grow hg, B0.out.2.1.grow hg, B0.out.2.2.1.grow hg, B0.out.2.2.2.trans hg, by omega, by omega⟩)
          (fun A' pre x a' W => SwapI w s (.slice A s.su.length c) (.slice B s.re.length d) (w.heap.size + 1) K T (T + 1) (T + 2) r to A' pre W ∧ ∃ P, A' < P ∧ Blk W P 100 [.int .i64 x.2.1, .int .i64 x.2.2] ∧ a' = { tmps := #[.agg #[.int .i64 s.pl, .slice A s.su.length c, .int .i64 s.wi, .int .i64 s.dr, .int .i64 s.fl, .int .i64 s.co, .int .i64 s.me, .int .i64 s.de, .slice B s.re.length d], .int .i64 k, .int .i64 a, .int .i64 b, .pointer (some ⟨w.heap.size, 0, none⟩), undef, undef, undef, .pointer (some ⟨w.heap.size + 1, 0, none⟩), .int .i64 su, .pointer (some ⟨K, 0, none⟩), .pointer (some ⟨T, 0, none⟩), .int .i64 x.1, .pointer (some ⟨P, 0, none⟩), .tuple #[.int .i64 su, .int .i64 r], .agg #[.int .i64 s.pl, .slice A s.su.length c, .int .i64 s.wi, .int .i64 s.dr, .int .i64 s.fl, .int .i64 s.co, .int .i64 s.me, .int .i64 s.de, .slice B s.re.length d], .int .i64 k, .tuple #[.int .i64 su, .int .i64 r], .int .i64 su, .int .i64 r, .int .i64 su, .bool (decide (su < -3)), u22, u23, u24, u25, u26, u27, u28, u29, u30, u31, u32, u33, u34, u35, u36, u37, u38, u39, u40, u41, u42, u43, u44, u45, u46, u47, u48, u49, u50, u51, u52, u53, u54, u55, u56, u57, u58, u59, u60, u61, u62, u63, .bool false, u65, .int .i64 a, .int .i64 b, .int .i64 (a + b), .int .i64 su, .int .i64 to, .agg #[.int .i64 s.pl, .slice A s.su.length c, .int .i64 s.wi, .int .i64 s.dr, .int .i64 s.fl, .int .i64 s.co, .int .i64 s.me, .int .i64 s.de, .slice B s.re.length d], .func (.func 106) #[] #[.pointer (some ⟨T + 1, 0, none⟩)], .int .i64 x.1, .agg #[.int .i64 x.2.1, .int .i64 x.2.2], u75, u76, u77, u78, u79, u80, u81, u82, u83, u84, u85, u86], defers := [] })
          (fun A' pre x a' W W' h t => ⟨h.1.turns (by omega) t, h.2.imp fun P hP => ⟨hP.1, t.cells hP.2.1 (by omega), hP.2.2⟩⟩) ?assign ?body ?done ?stop
        case assign =>
          intro l m A' pre x W K' hA hAW hi hpre hK
          simp only [encP]
          gi_wp2
          refine hK _ _ (KeepsOthers.alloc _ _) (fun k h1 h2 => Below.heap_alloc _ _ _ (by omega)) ⟨hi.grow ((Grow.refl _).alloc _), _, hAW, heap_alloc_new W _, ?_⟩
          rw [HTO.out]
        case body =>
          rintro l m A' pre x a' W hA hAW ⟨hi, P, hP, bP, rfl⟩ hpre
          have cT := hi.bT.cell 0
          have cK := hi.bK.cell 0
          have p0 := bP.cell 0
          have p1 := bP.cell 1
          have r0 := hi.bR.cell 0
          have f0 := hi.bR.free 0
          simp only [List.getElem?_cons_zero, List.getElem?_cons_succ] at cT cK p0 p1 r0
          have hlt := hi.lt
          have hbd := hi.bd
          have HI2 := hid hi
          by_cases he : x.2.1 = to
          · have he' : (x.2.1 == to) = true := by simp [he]
            by_cases he2 : x.2.2 = r
            · have he2' : (x.2.2 == r) = true := by simp [he2]
              have FIN := hid (show KeepsOthers W (W.setCell ⟨w.heap.size + 1, 0, none⟩ (.int .i64 x.1)) ∧ SwapX w (w.heap.size + 1) (T + 2) r to A' (pre ++ [x]) (W.setCell ⟨w.heap.size + 1, 0, none⟩ (.int .i64 x.1)) from
                ⟨KeepsOthers.setCell _ _ _, ⟨x, by simp, he, he2, hi.bR.set 0 (.int .i64 x.1)⟩, hi.g.set (p := ⟨w.heap.size + 1, 0, none⟩) (by simp) (.int .i64 x.1), hlt, by omega⟩)
              clear he he2 hi
              gi_wp2
              exact FIN.out
            · have he2' : (x.2.2 == r) = false := by simpa using he2
              have NEW := hid (show SwapI w s (.slice A s.su.length c) (.slice B s.re.length d) (w.heap.size + 1) K T (T + 1) (T + 2) r to A' (pre ++ [x]) W from ⟨fun y hy => by
                rcases List.mem_append.1 hy with h | h
                · exact hi.no y h
                · simp at h; subst h; exact fun hh => he2 hh.2, hi.bR, hi.bK, hi.bT, hi.bZ, hi.g, hi.lt, hi.bd⟩)
              clear he he2 hi
              gi_wp2
              exact ⟨KeepsOthers.refl _, fun _ _ _ => rfl, NEW.out⟩
          · have he' : (x.2.1 == to) = false := by simpa using he
            have NEW := hid (show SwapI w s (.slice A s.su.length c) (.slice B s.re.length d) (w.heap.size + 1) K T (T + 1) (T + 2) r to A' (pre ++ [x]) W from ⟨fun y hy => by
              rcases List.mem_append.1 hy with h | h
              · exact hi.no y h
              · simp at h; subst h; exact fun hh => he hh.1, hi.bR, hi.bK, hi.bT, hi.bZ, hi.g, hi.lt, hi.bd⟩)
            clear he hi
            gi_wp2
            exact ⟨KeepsOthers.refl _, fun _ _ _ => rfl, NEW.out⟩
        case done =>
          intro D A' W hD hA hi hDh
          obtain ⟨x, hx, e1, e2⟩ := TO.out.2
          exact absurd ⟨e1, e2⟩ (hi.no x hx)
        case stop =>
          intro D A' pre W hD hA hpre hx hDh
          obtain ⟨x, hxm, e1, e2, h3⟩ := hx.hit
          have HE := hid (show swapI s k a b = x.1 by rw [HES.out, TO.out.1 x (hpre.subset hxm) e1 e2])
          have t : Turns w.heap.size D W (W.putObj D (.deferred none)) := Turns.putObj _ hDh rfl (by omega)
          have hbd := hx.bd
          have k1 : Blk (W.putObj D (.deferred none)) (w.heap.size + 1) 3 [.int .i64 x.1] := t.cells h3 (by omega)
          have FIN := hid (And.intro (k1.cell 0) (t.grow hx.g (by omega) (Nat.le_refl _)))
          have HD2 := hid hDh
          clear h3 hx hDh t k1 e1 e2
          gi_wp2
          refine ⟨by simp, .inl ⟨_, _, rfl, run_takeDeferred HD2.out, ?_⟩⟩
          obtain ⟨q0, G3⟩ := FIN.out
          refine ⟨.int .i64 x.1, ?_, HF.out _ _ HE.out G3⟩
          simp at q0
          simp [results, Try.results49, go_sem, q0]
      · have HE := hid (show swapI s k a b = k by rw [HS.out, if_pos (of_decide_eq_true HBB.out.symm)])
        gi_wp2
        refine ⟨.int .i64 k, ?_, HF.out _ _ HE.out (B3.out.2.2.set (p := ⟨w.heap.size + 1, 0, none⟩) (by simp) _)⟩
        simp [results, Try.results49, go_sem, cR]
end Go.Proofs.Ytjiahcfegfimmaa
