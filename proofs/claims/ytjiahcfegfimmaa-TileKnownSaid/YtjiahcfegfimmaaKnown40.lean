/-
  The walk of Read.
-/
import Derived.Test.YtjiahcfegfimmaaKnown38
import Derived.Test.YtjiahcfegfimmaaKnown39
import Derived.Test.YtjiahcfegfimmaaKnown30
import Derived.Test.YtjiahcfegfimmaaKnown19
import Derived.Outline
namespace Go.Proofs.Ytjiahcfegfimmaa
open Go.RowKit Go.Maps

attribute [local go_sem] Oper.semAt_some

/-- What Read hands back. -/
def ReadRes (w : World) (s : TSet) (l : List Int) (e : Ending) (w' : World) : Prop := ∃ v, e = .returned (.tuple #[v, .int .i64 (readR s l).1]) ∧ IsFaces w' v (readR s l).2 ∧ Grow w w'
theorem OwnF.ne {w0 w : World} {v : Value} {fs : List (Int × Bool)} (h : OwnF w0 w v fs) {g : Nat} {xs : List Value} (hb : Blk w g 112 xs) : v.ownBlock ≠ some g := fun e => by
  rcases h.2 with ⟨rfl, _⟩ | ⟨g', cap, cur, rfl, _, hh, _⟩
  · cases e
  · have e2 : g' = g := by simpa [Value.ownBlock] using e
    subst e2
    have hb' : w.heap[g']? = some (.cells xs.toArray 112 (0, 0)) := hb
    rw [hh] at hb'
    injection hb' with hb'
    injection hb' with _ hb'
    exact absurd hb' (by decide)
/-- What the range over the kinds keeps. -/
structure ReadI (wg W : World) (s : TSet) (a b : Value) (A : Nat) (pre : List KPlace) : Prop where
  g : Grow wg W
  bM : Blk W (wg.heap.size + 1) 110 [.map (some wg.heap.size)]
  bZ : Blk W (wg.heap.size + 1 + 1) 24 (setVals s a b)
  mp : MapP W wg.heap.size pre
  lt : wg.heap.size + 3 ≤ A
theorem ReadI.turns {wg W W' : World} {s : TSet} {a b : Value} {A B : Nat} {pre : List KPlace} (h : ReadI wg W s a b A pre) (hB : wg.heap.size + 3 ≤ B) (t : Turns B A W W') : ReadI wg W' s a b A pre :=
  have hl := h.lt
  ⟨t.grow h.g (by omega) (by omega), t.cells h.bM (by omega), t.cells h.bZ (by omega), h.mp.at (t.blk _ h.mp.lt (by omega) (.inl (by omega))), h.lt⟩
theorem ReadI.grow {wg W W' : World} {s : TSet} {a b : Value} {A : Nat} {pre : List KPlace} (h : ReadI wg W s a b A pre) (g : Grow W W') : ReadI wg W' s a b A pre :=
  ⟨h.g.trans g, h.bM.grow g, h.bZ.grow g, h.mp.at (g.blk h.mp.lt), h.lt⟩
theorem ReadI.put {wg W W' : World} {s : TSet} {a b : Value} {A : Nat} {pre : List KPlace} {x : KPlace} (h : ReadI wg W s a b A pre) (hm : MapP W' wg.heap.size (pre ++ [x])) (t : W.mapTurned W' wg.heap.size) : ReadI wg W' s a b A (pre ++ [x]) := by
  have tg := t.grown
  have far : ∀ k, k < W.heap.size → k ≠ wg.heap.size → W'.heap[k]? = W.heap[k]? := fun k hk hne => tg.block k hk (fun e => hne (by injection e))
  refine ⟨h.g.own tg (fun k hk => by injection hk with hk; omega), (far _ h.bM.lt (by omega)).trans h.bM, (far _ h.bZ.lt (by omega)).trans h.bZ, hm, h.lt⟩
theorem pre_put {s : TSet} {pre : List KPlace} {x : KPlace} (h : pre ++ [x] <+: allP s) : x ∈ allP s ∧ (∀ y ∈ pre, y ∈ allP s) ∧ (∀ y ∈ pre, y.2 ≠ x.2) ∧ pre.length ≤ 1000 := by
  have hx : x ∈ allP s := h.subset (by simp)
  have hy : ∀ y ∈ pre, y ∈ allP s := fun y hy => h.subset (by simp [hy])
  refine ⟨hx, hy, fun y hyp e => ?_, ?_⟩
  · have e2 := place_unique (hy y hyp) hx e
    obtain ⟨i, hi, rfl⟩ := List.getElem_of_mem hyp
    have hl := h.length_le
    have h1 : (allP s)[i]'(by simp at hl; omega) = pre[i] := by
      have := h.getElem (i := i) (by simp; omega)
      rw [← this, List.getElem_append_left hi]
    have h2 : (allP s)[pre.length]'(by simp at hl; omega) = x := by
      have := h.getElem (i := pre.length) (by simp)
      rw [← this]; simp
    have i1 := allP_indexed s i (by simp at hl; omega)
    have i2 := allP_indexed s pre.length (by simp at hl; omega)
    rw [h1] at i1
    rw [h2] at i2
    rw [e2] at i1
    omega
  · have hl := h.length_le
    simp at hl
    have h3 := allP_length s
    rw [if_pos (allP_valid hx)] at h3
    have V := valid_of (allP_valid hx)
    have := V.plain
    have := V.fl
    omega
/-- What groups hands back where all is in order. -/
def GrpIs (w : World) (gs : List Grp) (e : Ending) (w' : World) : Prop := ∃ A c, e = .returned (.tuple #[.slice A gs.length c, .bool true]) ∧ IsGrps w' (.slice A gs.length c) gs ∧ Grow w w'
theorem grps_is (l : List Int) (w : World) (hg : grpB l = true) (hb : ∀ z ∈ l, 0 ≤ z ∧ z < 128) (hl : l.length ≤ 1000000) : Calls Try.prog 100 #[.string (strOfNums l)] w (GrpIs w (grpV l)) := by
  refine (groups_any l w hb hl).mono ?_
  rintro e w' ⟨v, rfl, hi, hw⟩
  obtain ⟨A, c, us, rfl, h1⟩ := id hi
  exact ⟨A, c, by rw [hg], hi, hw⟩
set_option maxRecDepth 100000 in
set_option maxHeartbeats 40000000 in
theorem Read_ok (v : Value) (s : TSet) (l : List Int) (w : World) (h : IsSet w v s) (e : chkErr s = 0) (hg : grpB l = true) (hb : ∀ z ∈ l, 0 ≤ z ∧ z < 128) (hl : l.length ≤ 1000000) : Calls Try.prog 67 #[v, .string (strOfNums l)] w (ReadRes w s l) := by
  have CH := hid (fun W (hg : Grow w W) => (callsIn_wide.2 (by have k := Check_any v s W (h.grow hg); rw [e] at k; exact k) : CallsIn Fence.wide 9 _ _ _ _ (Gives W (.int .i64 0))))
  obtain ⟨gs, hgs⟩ : ∃ gs, gs = grpV l := ⟨_, rfl⟩
  have GR := fun W => (callsIn_wide.2 (grps_is l W hg hb hl) : CallsIn Fence.wide 9 _ _ _ _ _)
  have HRR := hid (show readR s l = readL s [] (flatG gs) by unfold readR; rw [if_neg (by omega), if_neg (by rw [hg]; decide), hgs])
  rw [← hgs] at GR
  have GR := hid GR
  have HLN := hid (show (∀ g ∈ gs, ∀ r ∈ g.2, 0 ≤ r ∧ r ≤ 8) ∧ (flatG gs).length ≤ 1000000 by rw [hgs]; have := grpV_inv l; exact ⟨this.1, by omega⟩)
  clear hgs
  obtain ⟨S, hS⟩ : ∃ S, S = strOfNums l := ⟨_, rfl⟩
  rw [← hS] at GR ⊢
  clear hS hg
  have HI := hid h
  obtain ⟨A, c, B, d, rfl, h1, h2⟩ := h.open_
  obtain ⟨_, _, e1, c1, m1, r1⟩ := h1
  obtain ⟨_, _, e2, d1, m2, r2⟩ := h2
  injection e1 with e1 _ e1'
  injection e2 with e2 _ e2'
  subst e1 e1' e2 e2'
  unfold maxLen at m1 m2
  have HG0 := hid (show Grow w (w.alloc (.cells #[.int .i64 s.pl, .slice A s.su.length c, .int .i64 s.wi, .int .i64 s.dr, .int .i64 s.fl, .int .i64 s.co, .int .i64 s.me, .int .i64 s.de, .slice B s.re.length d] 24)) from (Grow.refl w).alloc _)
  have HB0 := hid (show Blk (w.alloc (.cells #[.int .i64 s.pl, .slice A s.su.length c, .int .i64 s.wi, .int .i64 s.dr, .int .i64 s.fl, .int .i64 s.co, .int .i64 s.me, .int .i64 s.de, .slice B s.re.length d] 24)) w.heap.size 24 (setVals s (.slice A s.su.length c) (.slice B s.re.length d)) from heap_alloc_new w _)
  clear h
  have H1 := hid (And.intro (show IsInts w (.slice A s.su.length c) s.su from ⟨A, c, rfl, c1, by unfold maxLen; omega, r1⟩) (show IsInts w (.slice B s.re.length d) s.re from ⟨B, d, rfl, d1, by unfold maxLen; omega, r2⟩))
  have KI := hid (fun W => (callsIn_wide.2 (kinds_any _ s (.slice A s.su.length c) (.slice B s.re.length d) W rfl) : CallsIn Fence.wide 9 _ _ _ _ _))
  clear r1 r2
  refine (callsIn_wide (n := 10)).1 ?_
  refine callsIn_of_wp_marks Try.func67 rfl trivial ?_ rfl
  simp only [Try.ntmps67, List.size_toArray, List.length_cons, List.length_nil, Nat.reduceAdd, Nat.reduceSub, Array.replicate_succ, Array.replicate_zero, List.push_toArray, List.append_toArray, List.nil_append, List.cons_append]
  have KS := hid (fun W (hg : Grow (w.alloc (.cells #[.int .i64 s.pl, .slice A s.su.length c, .int .i64 s.wi, .int .i64 s.dr, .int .i64 s.fl, .int .i64 s.co, .int .i64 s.me, .int .i64 s.de, .slice B s.re.length d] 24)) W) => And.intro hg (set_cells (HB0.out.grow hg)))
  obtain ⟨-, c0, c1, c2, c3, c4, c5, c6, c7, c8⟩ := KS.out _ (Grow.refl _)
  have hmm := @run_makeMap Try.prog
  gi_wp2_with (refine ⟨trivial, ?_⟩; gi_at_call 38; refine (CH.out _ HG0.out).mono ?_; rintro e w1 ⟨rfl, hg1⟩; clear c0 c1 c2 c3 c4 c5 c6 c7 c8; obtain ⟨-, c0, c1, c2, c3, c4, c5, c6, c7, c8⟩ := KS.out _ hg1)
  refine ⟨trivial, ?_⟩
  refine (GR.out _).mono ?_
  rintro e wg ⟨AG, cG, rfl, ig, hg2⟩
  have hk2 := hg1.trans hg2
  clear c0 c1 c2 c3 c4 c5 c6 c7 c8
  obtain ⟨-, c0, c1, c2, c3, c4, c5, c6, c7, c8⟩ := KS.out _ hk2
  have bTg := HB0.out.grow hk2
  have hTg : w.heap.size < wg.heap.size := bTg.lt
  have hTg2 : w.heap.size < wg.heap.size + 1 := by omega
  have GG := hid (And.intro (HG0.out.trans hk2) (And.intro bTg ig))
  clear hg1 hg2 hk2 bTg ig
  gi_wp2_with (refine ⟨trivial, ?_⟩; gi_at_call 90; refine (KI.out _).mono ?_; rintro e w' ⟨rfl, rfl⟩)
  have hsz : (((wg.alloc (.map #[] 0)).alloc (.cells #[.map (some wg.heap.size)] 110)).alloc (.cells #[.int .i64 s.pl, .slice A s.su.length c, .int .i64 s.wi, .int .i64 s.dr, .int .i64 s.fl, .int .i64 s.co, .int .i64 s.me, .int .i64 s.de, .slice B s.re.length d] 24)).heap.size = wg.heap.size + 3 := by simp
  have I0 : ∀ A', wg.heap.size + 3 ≤ A' → ReadI wg (((wg.alloc (.map #[] 0)).alloc (.cells #[.map (some wg.heap.size)] 110)).alloc (.cells #[.int .i64 s.pl, .slice A s.su.length c, .int .i64 s.wi, .int .i64 s.dr, .int .i64 s.fl, .int .i64 s.co, .int .i64 s.me, .int .i64 s.de, .slice B s.re.length d] 24)) s (.slice A s.su.length c) (.slice B s.re.length d) A' [] := fun A' hA => by
    have g1 : Grow (wg.alloc (.map #[] 0)) (((wg.alloc (.map #[] 0)).alloc (.cells #[.map (some wg.heap.size)] 110)).alloc (.cells #[.int .i64 s.pl, .slice A s.su.length c, .int .i64 s.wi, .int .i64 s.dr, .int .i64 s.fl, .int .i64 s.co, .int .i64 s.me, .int .i64 s.de, .slice B s.re.length d] 24)) := ((Grow.refl _).alloc _).alloc _
    refine ⟨((((Grow.refl wg).alloc _).alloc _).alloc _), Blk.grow (Blk.new_at (w := wg.alloc (.map #[] 0)) (xs := [.map (some wg.heap.size)]) (by simp)) ((Grow.refl _).alloc _), Blk.new_at (by simp), (MapP.made wg).at (g1.blk (by simp)), hA⟩
  have II0 := hid I0
  clear I0 hTg hTg2 hmm c0 c1 c2 c3 c4 c5 c6 c7 c8
  generalize (((wg.alloc (.map #[] 0)).alloc (.cells #[.map (some wg.heap.size)] 110)).alloc (.cells #[.int .i64 s.pl, .slice A s.su.length c, .int .i64 s.wi, .int .i64 s.dr, .int .i64 s.fl, .int .i64 s.co, .int .i64 s.me, .int .i64 s.de, .slice B s.re.length d] 24)) = W0 at *
  refine range_law_m (S := allP s) (encs := encP) (Ok := SetAt (wg.heap.size + 1 + 1) s (.slice A s.su.length c) (.slice B s.re.length d)) (gf := 106) (lb := #[.pointer (some ⟨wg.heap.size + 1 + 1, 0, none⟩)]) rfl (enters_of Try.func106 (by kernel_rfl) rfl) (kinds_iterates _ s _ _) (fun _ => rfl)
    (fun W hg => ⟨(II0.out _ (Nat.le_refl _)).bZ.grow hg, H1.out.1.grow (GG.out.1.trans ((II0.out _ (Nat.le_refl _)).g.trans hg)), H1.out.2.grow (GG.out.1.trans ((II0.out _ (Nat.le_refl _)).g.trans hg))⟩)
    (fun A' pre W => ReadI wg W s (.slice A s.su.length c) (.slice B s.re.length d) A' pre) (fun _ _ _ => False) (fun A' pre W W' h t => h.turns (by omega) t) (fun A' pre W W' h t => h) (fun A' pre W h => ⟨h.bZ, H1.out.1.grow (GG.out.1.trans h.g), H1.out.2.grow (GG.out.1.trans h.g)⟩)
    (fun A' W hg hA hAW => (II0.out A' (by omega)).grow hg)
    (fun A' pre x a' W => ReadI wg W s (.slice A s.su.length c) (.slice B s.re.length d) A' pre ∧ ∃ P, A' < P ∧ Blk W P 100 [.int .i64 x.2.1, .int .i64 x.2.2] ∧ a' = { tmps := #[.agg #[.int .i64 s.pl, .slice A s.su.length c, .int .i64 s.wi, .int .i64 s.dr, .int .i64 s.fl, .int .i64 s.co, .int .i64 s.me, .int .i64 s.de, .slice B s.re.length d], .string S, .pointer (some ⟨w.heap.size, 0, none⟩), undef, .slice none 0 0, .int .i64 0, .int .i64 0, .slice AG gs.length cG, .bool true, .pointer (some ⟨wg.heap.size + 1, 0, none⟩), .int .i64 x.1, .pointer (some ⟨P, 0, none⟩), undef, undef, undef, undef, undef, undef, undef, undef, .agg #[.int .i64 s.pl, .slice A s.su.length c, .int .i64 s.wi, .int .i64 s.dr, .int .i64 s.fl, .int .i64 s.co, .int .i64 s.me, .int .i64 s.de, .slice B s.re.length d], .int .i64 0, .int .i64 0, .bool false, undef, .tuple #[.slice AG gs.length cG, .bool true], .string S, .tuple #[.slice AG gs.length cG, .bool true], .slice AG gs.length cG, .bool true, .bool true, .bool false, .map (some wg.heap.size), .agg #[.int .i64 s.pl, .slice A s.su.length c, .int .i64 s.wi, .int .i64 s.dr, .int .i64 s.fl, .int .i64 s.co, .int .i64 s.me, .int .i64 s.de, .slice B s.re.length d], .func (.func 106) #[] #[.pointer (some ⟨wg.heap.size + 1 + 1, 0, none⟩)], .int .i64 x.1, .agg #[.int .i64 x.2.1, .int .i64 x.2.2], undef, undef, undef, undef, undef, undef, undef, undef, undef, undef, undef, undef, undef, undef, undef, undef, undef, undef, undef, undef, undef, undef, undef, undef, undef, undef, undef, undef, undef, undef, undef, undef, undef, undef, undef, undef, undef, undef, undef, undef, undef, undef, undef, undef, undef, undef, undef, undef], defers := [] })
    (fun A' pre x a' W W' h t => ⟨h.1.turns (by omega) t, h.2.imp fun P hP => ⟨hP.1, t.cells hP.2.1 (by omega), hP.2.2⟩⟩) ?assign ?body ?done ?stop
  case assign =>
    intro l2 m A' pre x W K hA hAW hi hpre hK
    simp only [encP]
    gi_wp2
    refine hK _ _ (KeepsFrom.of (KeepsOthers.alloc _ _)) (fun k h1 h2 => Below.heap_alloc _ _ _ (by omega)) ⟨hi.grow ((Grow.refl _).alloc _), _, hAW, heap_alloc_new W _, ?_⟩
    rfl
  case body =>
    rintro l2 m A' pre x a' W hA hAW ⟨hi, P, hP, bP, rfl⟩ hpre
    have p0 := bP.cell 0
    have p1 := bP.cell 1
    simp only [List.getElem?_cons_zero, List.getElem?_cons_succ] at p0 p1
    have m0 := hi.bM.cell 0
    simp only [List.getElem?_cons_zero] at m0
    obtain ⟨hx1, hx2, hx3, hx4⟩ := pre_put hpre
    obtain ⟨w', hrun, hm, ht⟩ := hi.mp.put x 110 Try.underlying110 (allP_fit hx1).2 (allP_fit hx1).1 (fun y hy => (allP_fit (hx2 y hy)).1) hx3 (by omega)
    have NEW := hid (hi.put hm ht)
    have TG := hid ht.grown
    have hl := hi.lt
    clear hi bP hpre hx1 hx2 hx3 hx4 hm ht
    gi_wp2
    refine ⟨⟨TG.out.size, fun k o hb hk _ => ?_⟩, fun k h1 h2 => ?_, NEW.out⟩
    · rw [TG.out.block k (lt_of_block hk) (fun e => by injection e with e; omega)]; exact hk
    · exact TG.out.block k (by omega) (fun e => by injection e with e; omega)
  case done =>
    intro D A' W hD hA hi hDh
    have bT := GG.out.2.1.grow hi.g
    have KS := hid (fun X (hg : Grow W X) => And.intro hg (set_cells (bT.grow hg)))
    have KM := hid (fun X (hg : Grow W X) => (hi.bM.grow hg).cell 0)
    have MP := hid (fun X (hg : Grow W X) => hi.mp.at (hg.blk hi.mp.lt))
    have IG := hid (GG.out.2.2.grow hi.g)
    have HD := hid (fun X (hg : Grow W X) => hg.blk_some hDh)
    have hDw : w.heap.size ≤ D := by have := GG.out.1.size; omega
    have FIN := hid (show ∀ (X : World) (v : Value) (r : Int) (fs : List FaceZ), Grow W X → readR s l = (r, fs) → IsFaces X v fs → ReadRes w s l (.returned (.tuple #[v, .int .i64 r])) (X.putObj D (.deferred none)) from fun X v r fs hg hr hf => by
      refine ⟨v, by rw [hr], by rw [hr]; exact hf.put (hg.blk_some hDh) rfl, ?_⟩
      have t : Turns w.heap.size D X (X.putObj D (.deferred none)) := Turns.putObj _ (hg.blk_some hDh) rfl hDw
      exact t.grow (GG.out.1.trans (hi.g.trans hg)) hDw (Nat.le_refl _))
    have WG := hid hi.g
    clear hi hDh bT hD hA hsz
    have hmapk : ∀ (g : Grp) (j : Nat) (hj : j < g.2.length), (g.2.drop j).map (fun r => (g.1, r)) = (g.1, g.2[j]) :: (g.2.drop (j + 1)).map (fun r => (g.1, r)) := fun g j hj => by rw [List.drop_eq_getElem_cons hj]; rfl
    have HMK := hid hmapk
    obtain ⟨AGa, cGa, us, eG, hG1, hG2, hG3, hG4, hG5⟩ := IG.out
    injection eG with eG1 _ eG2
    subst eG1 eG2
    have HGR := hid (And.intro hG3 (And.intro hG4 hG5))
    unfold maxLen at hG2
    clear hmapk hG3 hG4 hG5 IG
    gi_wp2
    gi_loopw [12, 42] (fun o i wr => ∃ (k : Nat) (fs : List FaceZ), k ≤ gs.length ∧ i = .int .i64 (k : Int) ∧ OwnF W wr o fs ∧ fs.length + (flatG (gs.drop k)).length ≤ 1000000 ∧ readL s fs (flatG (gs.drop k)) = readR s l ∧ Grow W wr) (fun _ i _ => gs.length - (intOf i).toNat)
    case atStart => exact ⟨0, [], Nat.zero_le _, rfl, OwnF.nil, by simp; have := HLN.out.2; omega, by rw [HRR.out]; rfl, Grow.refl _⟩
    case round =>
      obtain ⟨k, fs, hk, rfl, ho, hfl, hrd, hgr⟩ := hrel
      obtain ⟨wo, rfl⟩ : ∃ wo, wo = wr := ⟨_, rfl⟩
      by_cases hlt : k < gs.length
      · obtain ⟨ad, u, rfl, hu, x0, x1⟩ := (HGR.out.2.1.grow hgr).grp HGR.out.1 hlt
        have iu := HGR.out.2.2 k u gs[k] hu (List.getElem?_eq_getElem hlt)
        have hrk := HLN.out.1 _ (List.getElem_mem hlt)
        rw [List.drop_eq_getElem_cons hlt, flatG_cons] at hrd hfl
        obtain ⟨gk, hgk⟩ : ∃ g, gs[k] = g := ⟨_, rfl⟩
        rw [hgk] at x0 iu hrk hrd hfl
        clear hgk hu
        obtain ⟨c', rs⟩ := gk
        simp only at x0 iu hrk hrd hfl
        obtain ⟨Au, cu, rfl, huc, hum, _⟩ := id iu
        unfold maxLen at hum
        have IU := hid iu
        have HRK := hid hrk
        have HRD := hid (And.intro hrd hfl)
        have HO := hid ho
        obtain ⟨Ao, co, rfl, _⟩ := id ho.is
        obtain ⟨red, hred⟩ : ∃ red, decide (c' < 97) = red := ⟨_, rfl⟩
        have HRE := hid hred
        have i0 : (0 : Int) ≤ (k : Int) := by omega
        have i1 : (k : Int) < (gs.length : Int) := by omega
        clear iu hrk hrd hfl ho
        have SUO := hid (fun X => suitOf_any c' X)
        gi_wp2
        gi_loopw [12, 52] (fun o i wr2 => ∃ (j : Nat) (fs2 : List FaceZ), j ≤ rs.length ∧ i = .int .i64 (j : Int) ∧ OwnF W wr2 o fs2 ∧ fs2.length + ((rs.drop j).length + (flatG (gs.drop (k + 1))).length) ≤ 1000000 ∧ readL s fs2 ((rs.drop j).map (fun r => (c', r)) ++ flatG (gs.drop (k + 1))) = readR s l ∧ Grow W wr2 ∧ Blk wr2 wo.heap.size 112 [.int .i32 c', .slice Au rs.length cu]) (fun _ i _ => rs.length - (intOf i).toNat)
        case atStart => exact ⟨0, fs, Nat.zero_le _, rfl, HO.out.kept ((Grow.refl _).alloc _), by have := HRD.out.2; rw [List.length_append, List.length_map] at this; rw [List.drop_zero]; omega, HRD.out.1, hgr.alloc _, heap_alloc_new wo _⟩
        case round =>
          obtain ⟨j, fs2, hj, rfl, ho2, hfl2, hrd2, hg2, bP⟩ := hrel
          by_cases hlt2 : j < rs.length
          · have t2 := (ints_rd (IU.out.grow hg2)).int hlt2
            obtain ⟨ad2, rfl, -, t2⟩ := t2
            have hr := HRK.out _ (List.getElem_mem hlt2)
            have hmk := HMK.out (c', rs) j hlt2
            simp only at hmk
            rw [hmk, List.cons_append, readL] at hrd2
            have hdl : (rs.drop j).length = (rs.drop (j + 1)).length + 1 := by rw [List.length_drop, List.length_drop]; omega
            rw [hdl] at hfl2
            have p0 := bP.cell 0
            have m0 := KM.out _ hg2
            simp only [List.getElem?_cons_zero] at p0 m0
            have q1 := rg_cell p0
            have q2 := rg_cell m0
            have j0 : (0 : Int) ≤ (j : Int) := by omega
            have j1 : (j : Int) < (rs.length : Int) := by omega
            have HLEN := hid hfl2
            have HO2 := hid ho2
            obtain ⟨Ao2, co2, rfl, _⟩ := id ho2.is
            generalize rs[j] = r at *
            have hwr : (Lit.int .i64 r).wf = true := wf_small (by omega) (by omega)
            have hws : (Lit.int .i64 (suitN c')).wf = true := by have := suitN_bound c'; exact wf_small (by omega) (by omega)
            clear hfl2 hmk hdl ho2 p0 m0
            cases hka : kindAt s (suitN c', r) with
            | none =>
              rw [hka] at hrd2
              simp only at hrd2
              have HRD2 := hid hrd2
              have LK : ∀ p : Regrown, (Instr.lookup 110 (.map (some wg.heap.size)) (.agg #[.int .i64 (suitN c'), .int .i64 r]) true).run Try.prog (Sort.grow (redrawn wr p.d) p.os) = .ok (.tuple #[.int .i64 0, .bool false]) (Sort.grow (redrawn wr p.d) p.os) := fun p => (MP.out _ (hg2.trans (grow_rg wr p))).miss 110 Try.underlying110 (p := (suitN c', r)) ⟨hws, hwr⟩ (kindAt_none hka)
              clear hrd2 hka
              generalize suitN c' = su at *
              gi_wp2
              refine wpIn_wide.2 ?_
              refine wp_region_quiet_below (by kernel_rfl) (by kernel_rfl) ?_
              repeat (go_big_quiet_step ((go_at_call 101; exact q_gives (SUO.out _))))
              refine wpQuiet_nil ?_
              intro _ hw'
              obtain ⟨pq, hw''⟩ := hw'
              subst hw''
              have hg3 := hg2.trans (grow_rg wr pq)
              gi_wp2
              refine ⟨by simp, .inl ⟨_, _, rfl, run_takeDeferred (HD.out _ hg3), ?_⟩⟩
              refine ⟨.tuple #[.slice none 0 0, .int .i64 2], ?_, FIN.out _ _ _ _ hg3 HRD2.out.symm IsFaces.nil⟩
              simp [results, Try.results67, go_sem]
            | some kk =>
              have hmem := kindAt_some hka
              rw [hka] at hrd2
              simp only at hrd2
              have LK : ∀ p : Regrown, (Instr.lookup 110 (.map (some wg.heap.size)) (.agg #[.int .i64 (suitN c'), .int .i64 r]) true).run Try.prog (Sort.grow (redrawn wr p.d) p.os) = .ok (.tuple #[.int .i64 kk, .bool true]) (Sort.grow (redrawn wr p.d) p.os) := fun p => (MP.out _ (hg2.trans (grow_rg wr p))).look 110 Try.underlying110 hmem ⟨hws, hwr⟩
              clear hka hmem
              generalize suitN c' = su at *
              gi_wp2
              refine wpIn_wide.2 ?_
              refine wp_region_quiet_below (by kernel_rfl) (by kernel_rfl) ?_
              repeat (go_big_quiet_step ((go_at_call 101; exact q_gives (SUO.out _))))
              refine wpQuiet_nil ?_
              intro _ hw'
              obtain ⟨pq, hw''⟩ := hw'
              subst hw''
              have hg3 := hg2.trans (grow_rg wr pq)
              have HX := hid (And.intro hg3 (And.intro (HO2.out.kept (grow_rg wr pq)) (bP.grow (grow_rg wr pq))))
              clear q1 q2 LK bP hg2
              generalize Sort.grow (redrawn wr pq.d) pq.os = X at *
              obtain ⟨-, c0, c1, c2, c3, c4, c5, c6, c7, c8⟩ := KS.out _ hg3
              cases red with
              | false =>
                have hc97 : ¬ c' < 97 := by simpa using HRE.out
                rw [if_neg (fun h => hc97 h.1), decide_eq_false hc97] at hrd2
                clear hc97
                obtain ⟨v', w5, hrun, ho5, hg5, hgb⟩ := run_append_face W X 25 25 Try.underlying25 (kk, false) _ fs2 HX.out.2.1 (by have := HLEN.out; omega) HX.out.1
                obtain ⟨A9, m9, c9, rfl⟩ : ∃ A m c, v' = .slice A m c := by obtain ⟨A, c, e, _⟩ := ho5.is; exact ⟨A, _, c, e⟩
                have hb5 : Blk w5 wo.heap.size 112 [.int .i32 c', .slice (some ad2) rs.length cu] := ((hgb.block _ (by have := HX.out.2.2.lt; simp; omega) (fun e => HX.out.2.1.ne HX.out.2.2 e.symm)).trans (Below.heap_alloc _ _ _ HX.out.2.2.lt)).trans HX.out.2.2
                have HR := hid hrun
                have H5 := hid (And.intro ho5 (And.intro hg5 hb5))
                have HRD2 := hid hrd2
                clear hrun ho5 hg5 hgb hb5 hrd2
                gi_wp2_with (first
                  | (refine ⟨trivial, ?_⟩)
                  | (gi_at_builtin; refine wpListIn_append_run rfl (.tmp 76) (.tmp 80) _ (by rfl) (by rfl) (by rfl) HR.out ?_))
                exact ⟨⟨j + 1, _, by omega, by go_num, H5.out.1, by have := HLEN.out; rw [List.length_append, List.length_singleton]; omega, HRD2.out, H5.out.2.1, H5.out.2.2⟩, by simp only [intOf]; omega⟩
              | true =>
                have hc97 : c' < 97 := by simpa using HRE.out
                have CO := hid (callsIn_wide.2 (Contains_any (.slice B s.re.length d) s.re kk X (H1.out.2.grow (GG.out.1.trans (WG.out.trans hg3)))) : CallsIn Fence.wide 9 _ _ _ _ _)
                by_cases hin : kk ∈ s.re
                · rw [if_neg (fun h => h.2 hin), decide_eq_true hc97] at hrd2
                  rw [decide_eq_true hin] at CO
                  clear hc97 hin
                  obtain ⟨v', w5, hrun, ho5, hg5, hgb⟩ := run_append_face W X 25 25 Try.underlying25 (kk, true) _ fs2 HX.out.2.1 (by have := HLEN.out; omega) HX.out.1
                  obtain ⟨A9, m9, c9, rfl⟩ : ∃ A m c, v' = .slice A m c := by obtain ⟨A, c, e, _⟩ := ho5.is; exact ⟨A, _, c, e⟩
                  have hb5 : Blk w5 wo.heap.size 112 [.int .i32 c', .slice (some ad2) rs.length cu] := ((hgb.block _ (by have := HX.out.2.2.lt; simp; omega) (fun e => HX.out.2.1.ne HX.out.2.2 e.symm)).trans (Below.heap_alloc _ _ _ HX.out.2.2.lt)).trans HX.out.2.2
                  have HR := hid hrun
                  have H5 := hid (And.intro ho5 (And.intro hg5 hb5))
                  have HRD2 := hid hrd2
                  clear hrun ho5 hg5 hgb hb5 hrd2
                  gi_wp2_with (first
                    | (refine ⟨trivial, ?_⟩; gi_at_call 73; refine CO.out.mono ?_; rintro e w7 ⟨rfl, rfl⟩)
                    | (gi_at_builtin; refine wpListIn_append_run rfl (.tmp 76) (.tmp 80) _ (by rfl) (by rfl) (by rfl) HR.out ?_))
                  exact ⟨⟨j + 1, _, by omega, by go_num, H5.out.1, by have := HLEN.out; rw [List.length_append, List.length_singleton]; omega, HRD2.out, H5.out.2.1, H5.out.2.2⟩, by simp only [intOf]; omega⟩
                · rw [if_pos ⟨hc97, hin⟩] at hrd2
                  rw [decide_eq_false hin] at CO
                  have HRD2 := hid hrd2
                  clear hc97 hin hrd2
                  gi_wp2_with (refine ⟨trivial, ?_⟩; gi_at_call 73; refine CO.out.mono ?_; rintro e w7 ⟨rfl, rfl⟩)
                  refine ⟨by simp, .inl ⟨_, _, rfl, run_takeDeferred (HD.out _ hg3), ?_⟩⟩
                  refine ⟨.tuple #[.slice none 0 0, .int .i64 4], ?_, FIN.out _ _ _ _ hg3 HRD2.out.symm IsFaces.nil⟩
                  simp [results, Try.results67, go_sem]
          · obtain rfl : j = rs.length := by omega
            have j1 : ¬ (rs.length : Int) < (rs.length : Int) := by omega
            rw [List.drop_eq_nil_of_le (Nat.le_refl _), List.map_nil, List.nil_append] at hrd2
            have HF := hid (And.intro ho2 (And.intro hrd2 hg2))
            have HLEN := hid hfl2
            clear ho2 hrd2 hfl2
            gi_wp2
            exact ⟨⟨k + 1, fs2, by omega, by go_num, HF.out.1, by have := HLEN.out; omega, HF.out.2.1, HF.out.2.2⟩, by simp only [intOf]; omega⟩
      · obtain rfl : k = gs.length := by omega
        have i1 : ¬ (gs.length : Int) < (gs.length : Int) := by omega
        rw [List.drop_eq_nil_of_le (Nat.le_refl _)] at hrd
        obtain ⟨Ao, co, rfl, _⟩ := id ho.is
        have HF := hid (And.intro ho.is (show readR s l = (0, fs) from hrd.symm))
        have hg3 := hgr
        clear ho hrd hfl
        gi_wp2
        refine ⟨by simp, .inl ⟨_, _, rfl, run_takeDeferred (HD.out _ hg3), ?_⟩⟩
        refine ⟨.tuple #[.slice Ao fs.length co, .int .i64 0], ?_, FIN.out _ _ _ _ hg3 HF.out.2 HF.out.1⟩
        simp [results, Try.results67, go_sem]
  case stop =>
    intro D A' pre W hD hA hpre hx hDh
    exact hx.elim
end Go.Proofs.Ytjiahcfegfimmaa
