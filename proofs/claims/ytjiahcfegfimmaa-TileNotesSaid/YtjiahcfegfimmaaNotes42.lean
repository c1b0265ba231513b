/-
  Parts of the proof: ReadE, PermS.
-/
import Derived.Test.YtjiahcfegfimmaaNotes41
import Derived.Test.YtjiahcfegfimmaaNotes05
import Derived.Test.YtjiahcfegfimmaaNotes14
/-
  The walk of Read, errors and all.
-/
namespace Go.Proofs.Ytjiahcfegfimmaa
open Go.RowKit Go.Maps

attribute [local go_sem] Oper.semAt_some

def GrpNo (w : World) (e : Ending) (w' : World) : Prop := ∃ A n c, e = .returned (.tuple #[.slice A n c, .bool false]) ∧ Grow w w'
theorem grps_no (l : List Int) (w : World) (hg : grpB l = false) (hb : ∀ z ∈ l, 0 ≤ z ∧ z < 128) (hl : l.length ≤ 1000000) : Calls Try.prog 100 #[.string (strOfNums l)] w (GrpNo w) := by
  refine (groups_any l w hb hl).mono ?_
  rintro e w' ⟨v, rfl, hi, hw⟩
  obtain ⟨A, c, us, rfl, h1⟩ := id hi
  exact ⟨A, _, c, by rw [hg], hw⟩
set_option maxRecDepth 100000 in
set_option maxHeartbeats 40000000 in
theorem Read_no (v : Value) (s : TSet) (l : List Int) (w : World) (h : IsSet w v s) (e : chkErr s = 0) (hg' : grpB l = false) (hb : ∀ z ∈ l, 0 ≤ z ∧ z < 128) (hl : l.length ≤ 1000000) : Calls Try.prog 67 #[v, .string (strOfNums l)] w (ReadRes w s l) := by
  have CH := hid (fun W (hg : Grow w W) => (callsIn_wide.2 (by have k := Check_any v s W (h.grow hg); rw [e] at k; exact k) : CallsIn Fence.wide 9 _ _ _ _ (Gives W (.int .i64 0))))
  have GR := fun W => (callsIn_wide.2 (grps_no l W hg' hb hl) : CallsIn Fence.wide 9 _ _ _ _ _)
  have FIN := hid (show ∀ wf, Grow w wf → ReadRes w s l (.returned (.tuple #[.slice none 0 0, .int .i64 3])) wf from fun wf hw => by
    have hr : readR s l = (3, []) := by unfold readR; rw [if_neg (by omega), if_pos hg']
    exact ⟨_, by rw [hr], by rw [hr]; exact IsFaces.nil, hw⟩)
  obtain ⟨S, hS⟩ : ∃ S, S = strOfNums l := ⟨_, rfl⟩
  rw [← hS] at GR ⊢
  have GR := hid GR
  clear hS hg'
  have HI := hid h
  obtain ⟨A, c, B, d, rfl, h1, h2⟩ := h.open_
  obtain ⟨_, _, e1, c1, m1, r1⟩ := h1
  obtain ⟨_, _, e2, d1, m2, r2⟩ := h2
  injection e1 with e1 _ e1'
  injection e2 with e2 _ e2'
  subst e1 e1' e2 e2'
  unfold maxLen at m1 m2
  have HG0 := hid (show Grow w (w.alloc (.cells #[.int .i64 s.pl, .slice A s.su.length c, .int .i64 s.wi, .int .i64 s.dr, .int .i64 s.fl, .int .i64 s.co, .int .i64 s.me, .int .i64 s.de, .slice B s.re.length d] 24)) from (Grow.refl w).alloc _)
  have HB0 := hid (show Blk (w.alloc (.cells #[.int .i64 s.pl, .slice A s.su.length c, .int .i64 s.wi, .int .i64 s.dr, .int .i64 s.fl, .int .i64 s.co, .int .i64 s.me, .int .i64 s.de, .slice B s.re.length d] 24)) w.heap.size 24 (setVals s (.slice A s.su.length c) (.slice B s.re.length d)) from heap_alloc_new w _)
  clear h
  clear r1 r2
  refine (callsIn_wide (n := 10)).1 ?_
  refine callsIn_of_wp_marks Try.func67 rfl trivial ?_ rfl
  simp only [Try.ntmps67, List.size_toArray, List.length_cons, List.length_nil, Nat.reduceAdd, Nat.reduceSub, Array.replicate_succ, Array.replicate_zero, List.push_toArray, List.append_toArray, List.nil_append, List.cons_append]
  have KS := hid (fun W (hg : Grow (w.alloc (.cells #[.int .i64 s.pl, .slice A s.su.length c, .int .i64 s.wi, .int .i64 s.dr, .int .i64 s.fl, .int .i64 s.co, .int .i64 s.me, .int .i64 s.de, .slice B s.re.length d] 24)) W) => And.intro hg (set_cells (HB0.out.grow hg)))
  obtain ⟨-, c0, c1, c2, c3, c4, c5, c6, c7, c8⟩ := KS.out _ (Grow.refl _)
  gi_wp2_with (refine ⟨trivial, ?_⟩; gi_at_call 38; refine (CH.out _ HG0.out).mono ?_; rintro e w1 ⟨rfl, hg1⟩; clear c0 c1 c2 c3 c4 c5 c6 c7 c8; obtain ⟨-, c0, c1, c2, c3, c4, c5, c6, c7, c8⟩ := KS.out _ hg1)
  refine ⟨trivial, ?_⟩
  refine (GR.out _).mono ?_
  rintro e wg ⟨AG, nG, cG, rfl, hg2⟩
  have hk2 := HG0.out.trans (hg1.trans hg2)
  clear c0 c1 c2 c3 c4 c5 c6 c7 c8
  gi_wp2
  refine ⟨.tuple #[.slice none 0 0, .int .i64 3], ?_, FIN.out _ hk2⟩
  simp [results, Try.results67, go_sem]
set_option maxRecDepth 100000 in
set_option maxHeartbeats 40000000 in
theorem Read_bad (v : Value) (s : TSet) (l : List Int) (w : World) (h : IsSet w v s) (e : chkErr s ≠ 0) : Calls Try.prog 67 #[v, .string (strOfNums l)] w (ReadRes w s l) := by
  have CH := fun W (hg : Grow w W) => (callsIn_wide.2 (Check_any v s W (h.grow hg)) : CallsIn Fence.wide 9 _ _ _ _ (Gives W (.int .i64 (chkErr s))))
  have FIN := hid (show ∀ wf, Grow w wf → ReadRes w s l (.returned (.tuple #[.slice none 0 0, .int .i64 (chkErr s)])) wf from fun wf hw => by
    have hr : readR s l = (chkErr s, []) := by unfold readR; rw [if_pos e]
    exact ⟨_, by rw [hr], by rw [hr]; exact IsFaces.nil, hw⟩)
  have ne : (chkErr s != 0) = true := by simp [e]
  have CH := hid CH
  obtain ⟨S, hS⟩ : ∃ S, S = strOfNums l := ⟨_, rfl⟩
  rw [← hS]
  clear hS e
  have HI := hid h
  obtain ⟨A, c, B, d, rfl, h1, h2⟩ := h.open_
  obtain ⟨_, _, e1, c1, m1, r1⟩ := h1
  obtain ⟨_, _, e2, d1, m2, r2⟩ := h2
  injection e1 with e1 _ e1'
  injection e2 with e2 _ e2'
  subst e1 e1' e2 e2'
  unfold maxLen at m1 m2
  have HG0 := hid (show Grow w (w.alloc (.cells #[.int .i64 s.pl, .slice A s.su.length c, .int .i64 s.wi, .int .i64 s.dr, .int .i64 s.fl, .int .i64 s.co, .int .i64 s.me, .int .i64 s.de, .slice B s.re.length d] 24)) from (Grow.refl w).alloc _)
  have HB0 := hid (show Blk (w.alloc (.cells #[.int .i64 s.pl, .slice A s.su.length c, .int .i64 s.wi, .int .i64 s.dr, .int .i64 s.fl, .int .i64 s.co, .int .i64 s.me, .int .i64 s.de, .slice B s.re.length d] 24)) w.heap.size 24 (setVals s (.slice A s.su.length c) (.slice B s.re.length d)) from heap_alloc_new w _)
  clear h
  clear r1 r2
  refine (callsIn_wide (n := 10)).1 ?_
  refine callsIn_of_wp_marks Try.func67 rfl trivial ?_ rfl
  simp only [Try.ntmps67, List.size_toArray, List.length_cons, List.length_nil, Nat.reduceAdd, Nat.reduceSub, Array.replicate_succ, Array.replicate_zero, List.push_toArray, List.append_toArray, List.nil_append, List.cons_append]
  have KS := hid (fun W (hg : Grow (w.alloc (.cells #[.int .i64 s.pl, .slice A s.su.length c, .int .i64 s.wi, .int .i64 s.dr, .int .i64 s.fl, .int .i64 s.co, .int .i64 s.me, .int .i64 s.de, .slice B s.re.length d] 24)) W) => And.intro hg (set_cells (HB0.out.grow hg)))
  obtain ⟨-, c0, c1, c2, c3, c4, c5, c6, c7, c8⟩ := KS.out _ (Grow.refl _)
  generalize chkErr s = z at *
  gi_wp2_with (refine ⟨trivial, ?_⟩; gi_at_call 38; refine (CH.out _ HG0.out).mono ?_; rintro e w1 ⟨rfl, hg1⟩)
  have hk2 := HG0.out.trans hg1
  clear c0 c1 c2 c3 c4 c5 c6 c7 c8
  refine ⟨.tuple #[.slice none 0 0, .int .i64 z], ?_, FIN.out _ hk2⟩
  simp [results, Try.results67, go_sem]
theorem Read_any (v : Value) (s : TSet) (l : List Int) (w : World) (h : IsSet w v s) (hb : ∀ z ∈ l, 0 ≤ z ∧ z < 128) (hl : l.length ≤ 1000000) : Calls Try.prog 67 #[v, .string (strOfNums l)] w (ReadRes w s l) := by
  by_cases e : chkErr s = 0
  · by_cases hg : grpB l = true
    · exact Read_ok v s l w h e hg hb hl
    · exact Read_no v s l w h e (by simpa using hg) hb hl
  · exact Read_bad v s l w h e
end Go.Proofs.Ytjiahcfegfimmaa

/-
  Walls are shuffles; what is dealt is the wall; sorted lists. Plain laws.
-/
namespace Go.Proofs.Ytjiahcfegfimmaa

theorem swapL_perm {l : List Int} {a b : Nat} (ha : a < l.length) (hb : b < l.length) : (swapL l a b).Perm l := by
  have h := Array.swap_perm (xs := l.toArray) (i := a) (j := b) (by simpa using ha) (by simpa using hb)
  have e : (l.toArray.swap a b (by simpa using ha) (by simpa using hb)) = (swapL l a b).toArray := by
    unfold swapL
    rw [Array.swap_def]
    simp [List.getD, ha, hb]
  rw [e] at h
  exact Array.perm_iff_toList_perm.1 h
theorem shuf_perm (i : Nat) (x : Int) (l : List Int) (h : i < l.length ∨ i = 0) : (shuf i x l).Perm l := by
  induction i generalizing x l with
  | zero => exact List.Perm.refl _
  | succ i ih =>
    rw [shuf]
    have hd := drawV_in (n := (i : Int) + 2) x (by omega)
    have hp : (swapL l (i + 1) (drawV ((i : Int) + 2) x).toNat).Perm l := swapL_perm (by omega) (by omega)
    exact (ih _ _ (by rw [swapL_length]; omega)).trans hp
theorem upto_sorted (n : Nat) : (upto n).Pairwise (· ≤ ·) := by
  unfold upto
  rw [List.pairwise_map]
  exact List.pairwise_lt_range.imp (fun h => by omega)
theorem sorted_upto {r : List Int} {n : Nat} (hs : r.Pairwise (· ≤ ·)) (hp : r.Perm (upto n)) : r = upto n :=
  List.Perm.eq_of_pairwise (fun _ _ _ _ h1 h2 => Int.le_antisymm h1 h2) hs (upto_sorted n) hp

/-- All that is dealt is there before and after: hands and the rest. -/
theorem flat_set {hs : List (List Int)} {i : Nat} (h : i < hs.length) (l : List Int) : ((hs.set i (hs.getD i [] ++ l)).flatten).Perm (hs.flatten ++ l) := by
  induction hs generalizing i with
  | nil => simp at h
  | cons x hs ih =>
    cases i with
    | zero =>
      simp [List.getD]
      exact (List.perm_append_comm.append_left x).trans (by simp)
    | succ i =>
      simp at h
      have := ih h
      simp only [List.set_cons_succ, List.flatten_cons, List.getD_cons_succ, List.append_assoc]
      exact this.append_left x
theorem giveN_perm {P d m : Nat} {hs : List (List Int)} {r : List Int} (hP : 0 < P) (hl : hs.length = P) : ∀ i, i * m ≤ r.length → ((giveN P d m i hs r).flatten).Perm (hs.flatten ++ r.take (i * m)) := by
  intro i
  induction i with
  | zero => intro _; simp [giveN]
  | succ i ih =>
    intro h
    have h' : i * m + m ≤ r.length := by rw [Nat.succ_mul] at h; exact h
    rw [giveN]
    refine (flat_set (by rw [giveN_length, hl]; exact Nat.mod_lt _ hP) _).trans ?_
    refine ((ih (by omega)).append_right _).trans ?_
    rw [List.append_assoc, show (i + 1) * m = i * m + m from Nat.succ_mul i m, List.take_add]
theorem dealF_perm {P d : Nat} (hP : P = 3 ∨ P = 4) : ∀ (f lack : Nat) (hs : List (List Int)) (r : List Int), hs.length = P → lack ≤ f → P * lack ≤ r.length →
    ((dealF P d f lack hs r).1.flatten ++ (dealF P d f lack hs r).2).Perm (hs.flatten ++ r) ∧ (dealF P d f lack hs r).2.length = r.length - P * lack ∧ (dealF P d f lack hs r).1.length = P := by
  intro f
  induction f with
  | zero => intro lack hs r hl hf _; obtain rfl : lack = 0 := by omega
            exact ⟨List.Perm.refl _, by simp [dealF], hl⟩
  | succ f ih =>
    intro lack hs r hl hf hlen
    by_cases h0 : lack = 0
    · subst h0; rw [dealF_zero]; exact ⟨List.Perm.refl _, by simp, hl⟩
    rw [dealF_succ (by omega)]
    have hE : Enough 0 P lack r := by unfold Enough; omega
    have hs' := hE.next hP (by omega)
    unfold Enough at hs'
    have hm : someN lack ≤ lack := by rcases someN_is lack with ⟨h1, h2⟩ | ⟨h1, h2⟩ <;> omega
    have hm0 : 0 < someN lack := by rcases someN_is lack with ⟨h1, h2⟩ | ⟨h1, h2⟩ <;> omega
    have hq : P * someN lack ≤ P * lack := Nat.mul_le_mul (Nat.le_refl _) hm
    obtain ⟨h1, h2, h3⟩ := ih (lack - someN lack) (giveN P d (someN lack) P hs r) (r.drop (P * someN lack)) (by rw [giveN_length, hl]) (by omega) (by omega)
    refine ⟨h1.trans ?_, ?_, h3⟩
    · refine ((giveN_perm (by omega) hl P (by omega)).append_right _).trans ?_
      rw [List.append_assoc, List.take_append_drop]
    · rw [h2, List.length_drop, Nat.mul_sub]; omega
theorem giveN_lens {P d m L : Nat} {hs : List (List Int)} {r : List Int} (hl : hs.length = P) (hd : d < P) (h : ∀ j (hj : j < hs.length), hs[j].length = L) : ∀ i, i ≤ P → i * m ≤ r.length →
    ∀ j (hj : j < (giveN P d m i hs r).length), ((giveN P d m i hs r)[j]).length = L + if (∃ k, k < i ∧ (d + k) % P = j) then m else 0 := by
  intro i
  induction i with
  | zero => intro _ _ j hj; simp [giveN] at hj ⊢; exact h j hj
  | succ i ih =>
    intro hi hr j hj
    have h' : i * m + m ≤ r.length := by rw [Nat.succ_mul] at hr; exact hr
    have hI := ih (by omega) (by omega)
    have hgl : (giveN P d m i hs r).length = P := by rw [giveN_length, hl]
    have hmod : ∀ a, a < P → (d + a) % P = if d + a < P then d + a else d + a - P := fun a ha => by
      split
      · exact Nat.mod_eq_of_lt (by omega)
      · rw [Nat.mod_eq_sub_mod (by omega), Nat.mod_eq_of_lt (by omega)]
    have hinj : ∀ a b, a < P → b < P → (d + a) % P = (d + b) % P → a = b := fun a b ha hb he => by
      rw [hmod a ha, hmod b hb] at he
      split at he <;> split at he <;> omega
    simp only [giveN, List.getElem_set]
    simp only [giveN, List.length_set] at hj
    by_cases he : (d + i) % P = j
    · rw [if_pos he]
      have hx := hI j (by omega)
      have hno : ¬ ∃ k, k < i ∧ (d + k) % P = j := fun ⟨k, hk, e⟩ => by
        have := hinj k i (by omega) (by omega) (by rw [e, he])
        omega
      rw [if_neg hno] at hx
      rw [if_pos ⟨i, by omega, he⟩, List.length_append, he, List.getD_eq_getElem?_getD, List.getElem?_eq_getElem (by omega), Option.getD_some, hx, List.length_take, List.length_drop]
      omega
    · rw [if_neg he, hI j (by omega)]
      by_cases hk : ∃ k, k < i ∧ (d + k) % P = j
      · obtain ⟨k, hk, e⟩ := hk
        rw [if_pos ⟨k, hk, e⟩, if_pos ⟨k, by omega, e⟩]
      · rw [if_neg hk, if_neg]
        rintro ⟨k, h1, e⟩
        by_cases hki : k = i
        · subst hki; exact he e
        · exact hk ⟨k, by omega, e⟩
theorem all_seats {P d : Nat} (hd : d < P) {j : Nat} (hj : j < P) : ∃ k, k < P ∧ (d + k) % P = j := by
  by_cases h : d ≤ j
  · exact ⟨j - d, by omega, by rw [Nat.mod_eq_of_lt (by omega)]; omega⟩
  · exact ⟨j + P - d, by omega, by rw [Nat.mod_eq_sub_mod (by omega), Nat.mod_eq_of_lt (by omega)]; omega⟩
theorem dealF_lens {P d : Nat} (hP : P = 3 ∨ P = 4) (hd : d < P) : ∀ (f lack L : Nat) (hs : List (List Int)) (r : List Int), hs.length = P → lack ≤ f → P * lack ≤ r.length → (∀ j (hj : j < hs.length), hs[j].length = L) →
    ∀ j (hj : j < (dealF P d f lack hs r).1.length), ((dealF P d f lack hs r).1[j]).length = L + lack := by
  intro f
  induction f with
  | zero =>
    intro lack L hs r hl hf _ h j hj
    obtain rfl : lack = 0 := by omega
    rw [Nat.add_zero]; exact h j hj
  | succ f ih =>
    intro lack L hs r hl hf hlen h
    by_cases h0 : lack = 0
    · subst h0; rw [dealF_zero]; exact h
    rw [dealF_succ (by omega)]
    have hE : Enough 0 P lack r := by unfold Enough; omega
    have hs' := hE.next hP (by omega)
    unfold Enough at hs'
    have hm : someN lack ≤ lack := by rcases someN_is lack with ⟨h1, h2⟩ | ⟨h1, h2⟩ <;> omega
    have hm0 : 0 < someN lack := by rcases someN_is lack with ⟨h1, h2⟩ | ⟨h1, h2⟩ <;> omega
    have hq : P * someN lack ≤ P * lack := Nat.mul_le_mul (Nat.le_refl _) hm
    intro j hj
    rw [ih (lack - someN lack) (L + someN lack) _ _ (by rw [giveN_length, hl]) (by omega) (by omega) (fun k hk => ?_) j hj]
    · omega
    · rw [giveN_lens hl hd h P (Nat.le_refl _) (by omega) k hk, if_pos (all_seats hd (by rw [giveN_length, hl] at hk; exact hk))]
end Go.Proofs.Ytjiahcfegfimmaa
