/-
  The walk of Read, errors and all.
-/
import Derived.Test.YtjiahcfegfimmaaKnown40
namespace Go.Proofs.Ytjiahcfegfimmaa
open Go.RowKit Go.Maps

attribute [local go_sem] Oper.semAt_some

def GrpNo (w : World) (e : Ending) (w' : World) : Prop := ∃ A n c, e = .returned (.tuple #[.slice A n c, .bool false]) ∧ Grow w w'
theorem grps_no (l : List Int) (w : World) (hg : grpB l = false) (hb : ∀ z ∈ l, 0 ≤ z ∧ z < 128) (hl : l.length ≤ 1000000) : Calls Try.prog 100 #[.string (strOfNums l)] w (GrpNo w) := by
  refine (groups_any l w hb hl).mono ?_
  rintro e w' ⟨v, rfl, hi, hw⟩
  obtain ⟨A, c, us, rfl, h1⟩ := id hi
  exact ⟨A, _, c, by rw [hg], hw⟩
set_option maxRecDepth 100000 in
set_option maxHeartbeats 40000000 in
theorem Read_no (v : Value) (s : TSet) (l : List Int) (w : World) (h : IsSet w v s) (e : chkErr s = 0) (hg' : grpB l = false) (hb : ∀ z ∈ l, 0 ≤ z ∧ z < 128) (hl : l.length ≤ 1000000) : Calls Try.prog 67 #[v, .string (strOfNums l)] w (ReadRes w s l) := by
  have CH := hid (fun W (hg : Grow w W) => (callsIn_wide.2 (by have k := Check_any v s W (h.grow hg); rw [e] at k; exact k) : CallsIn Fence.wide 9 _ _ _ _ (Gives W (.int .i64 0))))
  have GR := fun W => (callsIn_wide.2 (grps_no l W hg' hb hl) : CallsIn Fence.wide 9 _ _ _ _ _)
  have FIN := hid (show ∀ wf, Grow w wf → ReadRes w s l (.returned (.tuple #[.slice none 0 0, .int .i64 3])) wf from fun wf hw => by
    have hr : readR s l = (3, []) := by unfold readR; rw [if_neg (by omega), if_pos hg']
    exact ⟨_, by rw [hr], by rw [hr]; exact IsFaces.nil, hw⟩)
  obtain ⟨S, hS⟩ : ∃ S, S = strOfNums l := ⟨_, rfl⟩
  rw [← hS] at GR ⊢
  have GR := hid GR
  clear hS hg'
  have HI := hid h
  obtain ⟨A, c, B, d, rfl, h1, h2⟩ := h.open_
  obtain ⟨_, _, e1, c1, m1, r1⟩ := h1
  obtain ⟨_, _, e2, d1, m2, r2⟩ := h2
  injection e1 with e1 _ e1'
  injection e2 with e2 _ e2'
  subst e1 e1' e2 e2'
  unfold maxLen at m1 m2
  have HG0 := hid (show Grow w (w.alloc (.cells #[.int .i64 s.pl, .slice A s.su.length c, .int .i64 s.wi, .int .i64 s.dr, .int .i64 s.fl, .int .i64 s.co, .int .i64 s.me, .int .i64 s.de, .slice B s.re.length d] 24)) from (Grow.refl w).alloc _)
  have HB0 := hid (show Blk (w.alloc (.cells #[.int .i64 s.pl, .slice A s.su.length c, .int .i64 s.wi, .int .i64 s.dr, .int .i64 s.fl, .int .i64 s.co, .int .i64 s.me, .int .i64 s.de, .slice B s.re.length d] 24)) w.heap.size 24 (setVals s (.slice A s.su.length c) (.slice B s.re.length d)) from heap_alloc_new w _)
  clear h
  clear r1 r2
  refine (callsIn_wide (n := 10)).1 ?_
  refine callsIn_of_wp_marks Try.func67 rfl trivial ?_ rfl
  simp only [Try.ntmps67, List.size_toArray, List.length_cons, List.length_nil, Nat.reduceAdd, Nat.reduceSub, Array.replicate_succ, Array.replicate_zero, List.push_toArray, List.append_toArray, List.nil_append, List.cons_append]
  have KS := hid (fun W (hg : Grow (w.alloc (.cells #[.int .i64 s.pl, .slice A s.su.length c, .int .i64 s.wi, .int .i64 s.dr, .int .i64 s.fl, .int .i64 s.co, .int .i64 s.me, .int .i64 s.de, .slice B s.re.length d] 24)) W) => And.intro hg (set_cells (HB0.out.grow hg)))
  obtain ⟨-, c0, c1, c2, c3, c4, c5, c6, c7, c8⟩ := KS.out _ (Grow.refl _)
  gi_wp2_with (refine ⟨trivial, ?_⟩; gi_at_call 38; refine (CH.out _ HG0.out).mono ?_; rintro e w1 ⟨rfl, hg1⟩; clear c0 c1 c2 c3 c4 c5 c6 c7 c8; obtain ⟨-, c0, c1, c2, c3, c4, c5, c6, c7, c8⟩ := KS.out _ hg1)
  refine ⟨trivial, ?_⟩
  refine (GR.out _).mono ?_
  rintro e wg ⟨AG, nG, cG, rfl, hg2⟩
  have hk2 := HG0.out.trans (hg1.trans hg2)
  clear c0 c1 c2 c3 c4 c5 c6 c7 c8
  gi_wp2
  refine ⟨.tuple #[.slice none 0 0, .int .i64 3], ?_, FIN.out _ hk2⟩
  simp [results, Try.results67, go_sem]
set_option maxRecDepth 100000 in
set_option maxHeartbeats 40000000 in
theorem Read_bad (v : Value) (s : TSet) (l : List Int) (w : World) (h : IsSet w v s) (e : chkErr s ≠ 0) : Calls Try.prog 67 #[v, .string (strOfNums l)] w (ReadRes w s l) := by
  have CH := fun W (hg : Grow w W) => (callsIn_wide.2 (Check_any v s W (h.grow hg)) : CallsIn Fence.wide 9 _ _ _ _ (Gives W (.int .i64 (chkErr s))))
  have FIN := hid (show ∀ wf, Grow w wf → ReadRes w s l (.returned (.tuple #[.slice none 0 0, .int .i64 (chkErr s)])) wf from fun wf hw => by
    have hr : readR s l = (chkErr s, []) := by unfold readR; rw [if_pos e]
    exact ⟨_, by rw [hr], by rw [hr]; exact IsFaces.nil, hw⟩)
  have ne : (chkErr s != 0) = true := by simp [e]
  have CH := hid CH
  obtain ⟨S, hS⟩ : ∃ S, S = strOfNums l := ⟨_, rfl⟩
  rw [← hS]
  clear hS e
  have HI := hid h
  obtain ⟨A, c, B, d, rfl, h1, h2⟩ := h.open_
  obtain ⟨_, _, e1, c1, m1, r1⟩ := h1
  obtain ⟨_, _, e2, d1, m2, r2⟩ := h2
  injection e1 with e1 _ e1'
  injection e2 with e2 _ e2'
  subst e1 e1' e2 e2'
  unfold maxLen at m1 m2
  have HG0 := hid (show Grow w (w.alloc (.cells #[.int .i64 s.pl, .slice A s.su.length c, .int .i64 s.wi, .int .i64 s.dr, .int .i64 s.fl, .int .i64 s.co, .int .i64 s.me, .int .i64 s.de, .slice B s.re.length d] 24)) from (Grow.refl w).alloc _)
  have HB0 := hid (show Blk (w.alloc (.cells #[.int .i64 s.pl, .slice A s.su.length c, .int .i64 s.wi, .int .i64 s.dr, .int .i64 s.fl, .int .i64 s.co, .int .i64 s.me, .int .i64 s.de, .slice B s.re.length d] 24)) w.heap.size 24 (setVals s (.slice A s.su.length c) (.slice B s.re.length d)) from heap_alloc_new w _)
  clear h
  clear r1 r2
  refine (callsIn_wide (n := 10)).1 ?_
  refine callsIn_of_wp_marks Try.func67 rfl trivial ?_ rfl
  simp only [Try.ntmps67, List.size_toArray, List.length_cons, List.length_nil, Nat.reduceAdd, Nat.reduceSub, Array.replicate_succ, Array.replicate_zero, List.push_toArray, List.append_toArray, List.nil_append, List.cons_append]
  have KS := hid (fun W (hg : Grow (w.alloc (.cells #[.int .i64 s.pl, .slice A s.su.length c, .int .i64 s.wi, .int .i64 s.dr, .int .i64 s.fl, .int .i64 s.co, .int .i64 s.me, .int .i64 s.de, .slice B s.re.length d] 24)) W) => And.intro hg (set_cells (HB0.out.grow hg)))
  obtain ⟨-, c0, c1, c2, c3, c4, c5, c6, c7, c8⟩ := KS.out _ (Grow.refl _)
  generalize chkErr s = z at *
  gi_wp2_with (refine ⟨trivial, ?_⟩; gi_at_call 38; refine (CH.out _ HG0.out).mono ?_; rintro e w1 ⟨rfl, hg1⟩)
  have hk2 := HG0.out.trans hg1
  clear c0 c1 c2 c3 c4 c5 c6 c7 c8
  refine ⟨.tuple #[.slice none 0 0, .int .i64 z], ?_, FIN.out _ hk2⟩
  simp [results, Try.results67, go_sem]
theorem Read_any (v : Value) (s : TSet) (l : List Int) (w : World) (h : IsSet w v s) (hb : ∀ z ∈ l, 0 ≤ z ∧ z < 128) (hl : l.length ≤ 1000000) : Calls Try.prog 67 #[v, .string (strOfNums l)] w (ReadRes w s l) := by
  by_cases e : chkErr s = 0
  · by_cases hg : grpB l = true
    · exact Read_ok v s l w h e hg hb hl
    · exact Read_no v s l w h e (by simpa using hg) hb hl
  · exact Read_bad v s l w h e
end Go.Proofs.Ytjiahcfegfimmaa
