/-
  Parts of the proof: ReadL, NotesL.
-/
import Derived.Test.YtjiahcfegfimmaaNotes17
import Derived.Test.YtjiahcfegfimmaaNotes22
import Derived.Test.YtjiahcfegfimmaaNotes28
/-
  What is read of a text: plain laws.
-/
namespace Go.Proofs.Ytjiahcfegfimmaa

/-- The kind at a place. -/
def kindAt (s : TSet) (p : Int × Int) : Option Int := ((allP s).find? (fun x => x.2 == p)).map (·.1)
/-- The faces of letters and ranks, or which error there is. -/
def readL (s : TSet) : List FaceZ → List (Int × Int) → Int × List FaceZ
  | out, [] => (0, out)
  | out, (c, r) :: t => match kindAt s (suitN c, r) with
    | none => (2, [])
    | some k => if c < 97 ∧ k ∉ s.re then (4, []) else readL s (out ++ [(k, decide (c < 97))]) t
def flatG (gs : List Grp) : List (Int × Int) := gs.flatMap fun g => g.2.map fun r => (g.1, r)
theorem flatG_cons (g : Grp) (gs : List Grp) : flatG (g :: gs) = (g.2.map fun r => (g.1, r)) ++ flatG gs := rfl
theorem flatG_append (gs hs : List Grp) : flatG (gs ++ hs) = flatG gs ++ flatG hs := by simp [flatG]
def readR (s : TSet) (l : List Int) : Int × List FaceZ := if chkErr s ≠ 0 then (chkErr s, []) else if grpB l = false then (3, []) else readL s [] (flatG (grpV l))

theorem kindAt_some {s : TSet} {p : Int × Int} {k : Int} (h : kindAt s p = some k) : (k, p) ∈ allP s := by
  unfold kindAt at h
  obtain ⟨x, hx, e⟩ := Option.map_eq_some_iff.1 h
  have h1 := List.mem_of_find?_eq_some hx
  have h2 := List.find?_some hx
  simp at h2
  subst h2
  rw [← e]
  exact h1
theorem kindAt_none {s : TSet} {p : Int × Int} (h : kindAt s p = none) : ∀ x ∈ allP s, x.2 ≠ p := by
  unfold kindAt at h
  rw [Option.map_eq_none_iff, List.find?_eq_none] at h
  intro x hx e
  exact h x hx (by simp [e])
/-- Where the kinds of a suit begin. -/
def kindOff (s : TSet) (su : Int) : Int := if 0 ≤ su then sumI (s.su.take su.toNat) else if su = -1 then sumI s.su else if su = -2 then sumI s.su + s.wi else sumI s.su + s.wi + s.dr
theorem allP_valid {s : TSet} {x : KPlace} (hx : x ∈ allP s) : chkErr s = 0 := by
  by_cases e : chkErr s = 0
  · exact e
  · have h3 := allP_length s
    rw [if_neg e] at h3
    rw [show allP s = [] from List.eq_nil_of_length_eq_zero (by omega)] at hx
    simp at hx
theorem kind_off {s : TSet} {x : KPlace} (hx : x ∈ allP s) : x.1 = kindOff s x.2.1 + x.2.2 ∧ -3 ≤ x.2.1 ∧ x.2.1 ≤ 2 ∧ 0 ≤ x.2.2 ∧ x.2.2 ≤ 8 := by
  have e := allP_valid hx
  have V := valid_of e
  have v1 := V.wi
  have v2 := V.dr
  have v3 := V.fl
  have v4 := V.su3
  obtain ⟨k, su, r⟩ := x
  rcases place_cases e hx with ⟨j, q, ⟨hj, hq, hk⟩, h2⟩ | ⟨q, hq, hk, h2⟩ | ⟨q, hq, hk, h2⟩ | ⟨q, hq, hk, h2⟩
  · simp only at hk h2
    injection h2 with h2 h3
    subst h2 h3
    have hz := V.su s.su[j] (List.getElem_mem hj)
    refine ⟨?_, by simp only; omega, by simp only; omega, by simp only; omega, by simp only; omega⟩
    unfold kindOff
    simp only
    rw [if_pos (by omega), Int.toNat_natCast]
    omega
  · simp only at hk h2
    injection h2 with h2 h3
    subst h2 h3
    refine ⟨?_, by simp only; omega, by simp only; omega, by simp only; omega, by simp only; omega⟩
    unfold kindOff
    simp only
    rw [if_neg (by omega), if_pos (by trivial)]
    omega
  · simp only at hk h2
    injection h2 with h2 h3
    subst h2 h3
    refine ⟨?_, by simp only; omega, by simp only; omega, by simp only; omega, by simp only; omega⟩
    unfold kindOff
    simp only
    rw [if_neg (by omega), if_neg (by omega), if_pos (by trivial)]
    omega
  · simp only at hk h2
    injection h2 with h2 h3
    subst h2 h3
    refine ⟨?_, by simp only; omega, by simp only; omega, by simp only; omega, by simp only; omega⟩
    unfold kindOff
    simp only
    rw [if_neg (by omega), if_neg (by omega), if_neg (by omega)]
    omega
theorem kind_bound {s : TSet} {x : KPlace} (hx : x ∈ allP s) : 0 ≤ x.1 ∧ x.1 ≤ 60 := by
  have e := allP_valid hx
  have V := valid_of e
  have v1 := V.plain
  have v3 := V.fl
  have h3 := allP_length s
  rw [if_pos e] at h3
  obtain ⟨i, hi, rfl⟩ := List.getElem_of_mem hx
  rw [allP_indexed s i hi]
  omega
/-- No two kinds have one place. -/
theorem place_unique {s : TSet} {x y : KPlace} (hx : x ∈ allP s) (hy : y ∈ allP s) (h : x.2 = y.2) : x = y := by
  have h1 := (kind_off hx).1
  have h2 := (kind_off hy).1
  rw [h] at h1
  exact Prod.ext (h1.trans h2.symm) h
theorem wf_small {n : Int} (h0 : -1000 ≤ n) (h1 : n ≤ 1000) : (Go.Lit.int .i64 n).wf = true := WalkArith.wf_i64 (by omega)
theorem allP_fit {s : TSet} {x : KPlace} (hx : x ∈ allP s) : FitP x.2 ∧ (Go.Lit.int .i64 x.1).wf = true := by
  have h := kind_off hx
  have hb := kind_bound hx
  exact ⟨⟨wf_small (by omega) (by omega), wf_small (by omega) (by omega)⟩, wf_small (by omega) (by omega)⟩
theorem kindAt_mem {s : TSet} {x : KPlace} (hx : x ∈ allP s) : kindAt s x.2 = some x.1 := by
  cases h : kindAt s x.2 with
  | none => exact absurd rfl (kindAt_none h x hx)
  | some k =>
    have := place_unique (kindAt_some h) hx rfl
    rw [← this]
end Go.Proofs.Ytjiahcfegfimmaa

/-
  What was written is read; two texts behind one another. Plain laws.
-/
namespace Go.Proofs.Ytjiahcfegfimmaa

/-- A mark: a letter that is one, a digit. -/
def MarkOk (m : Int × Int) : Prop := suitN m.1 ≠ -4 ∧ ¬ (49 ≤ m.1 ∧ m.1 ≤ 57) ∧ 49 ≤ m.2 ∧ m.2 ≤ 57
def runsG : Int → List Int → List (Int × Int) → List Grp
  | c, cur, [] => [(c, cur)]
  | c, cur, m :: t => if c = m.1 then runsG m.1 (cur ++ [m.2 - 49]) t else (c, cur) :: runsG m.1 [m.2 - 49] t
theorem runs_ne (t : List (Int × Int)) : ∀ (c : Int) (cur : List Int), runsG c cur t ≠ [] := by
  induction t with
  | nil => intro c cur; simp [runsG]
  | cons m t ih =>
    intro c cur
    rw [runsG]
    by_cases he : c = m.1
    · rw [if_pos he]; exact ih _ _
    · rw [if_neg he]; simp
theorem lastB_snoc (out : List Grp) (g : Grp) (c : Int) : lastB (out ++ [g]) c = decide (g.1 = c) := by simp [lastB]
theorem grp_tail (t : List (Int × Int)) : ∀ (out : List Grp) (c : Int) (cur : List Int), suitN c ≠ -4 → ¬ (49 ≤ c ∧ c ≤ 57) → (∀ m ∈ t, MarkOk m) → cur ≠ [] → lastB out c = false → grpF out cur (tailB c t) = some (out ++ runsG c cur t, []) := by
  induction t with
  | nil =>
    intro out c cur h1 h2 _ h3 h4
    simp only [tailB]
    rw [grpF, if_neg h2, if_neg h1, if_neg (by simp [h3, h4]), grpF]
    rfl
  | cons m t ih =>
    intro out c cur h1 h2 hm h3 h4
    obtain ⟨m1, m2, m3⟩ := hm m (List.mem_cons_self ..)
    have hm' : ∀ x ∈ t, MarkOk x := fun x hx => hm x (List.mem_cons_of_mem _ hx)
    rw [tailB, runsG]
    by_cases he : c = m.1
    · rw [if_pos he, if_pos he, grpF, if_pos m3]
      exact ih out m.1 _ m1 m2 hm' (by simp) (by rw [← he]; exact h4)
    · rw [if_neg he, if_neg he, grpF, if_neg h2, if_neg h1, if_neg (by simp [h3, h4]), grpF, if_pos m3]
      rw [ih (out ++ [(c, cur)]) m.1 _ m1 m2 hm' (by simp) (by rw [lastB_snoc]; simpa using he)]
      simp
theorem flat_runs (t : List (Int × Int)) : ∀ (c : Int) (cur : List Int), flatG (runsG c cur t) = cur.map (fun r => (c, r)) ++ t.map (fun m => (m.1, m.2 - 49)) := by
  induction t with
  | nil => intro c cur; simp [runsG, flatG]
  | cons m t ih =>
    intro c cur
    rw [runsG]
    by_cases he : c = m.1
    · rw [if_pos he, ih, he]; simp
    · rw [if_neg he, flatG_cons, ih]; simp
theorem grp_write {t : List (Int × Int)} (h : ∀ m ∈ t, MarkOk m) : ∃ gs, grpF [] [] (writeB t) = some (gs, []) ∧ flatG gs = t.map (fun m => (m.1, m.2 - 49)) ∧ (∀ c, lastB gs c = match t.getLast? with | none => false | some m => decide (m.1 = c)) := by
  cases t with
  | nil => exact ⟨[], rfl, rfl, fun c => rfl⟩
  | cons m t =>
    obtain ⟨m1, m2, m3⟩ := h m (List.mem_cons_self ..)
    refine ⟨runsG m.1 [m.2 - 49] t, ?_, ?_, fun c => ?_⟩
    · rw [writeB, grpF, if_pos m3, List.nil_append]
      rw [grp_tail t [] m.1 [m.2 - 49] m1 m2 (fun x hx => h x (List.mem_cons_of_mem _ hx)) (by simp) rfl]
      simp
    · rw [flat_runs]; simp
    · have key : ∀ (t : List (Int × Int)) (c0 : Int) (cur : List Int) (d : Int), lastB (runsG c0 cur t) c = match ((c0, d) :: t).getLast? with | none => false | some m => decide (m.1 = c) := by
        intro t
        induction t with
        | nil => intro c0 cur d; simp [runsG, lastB]
        | cons x t ih =>
          intro c0 cur d
          rw [runsG]
          by_cases he : c0 = x.1
          · rw [if_pos he, ih x.1 _ x.2]; simp [List.getLast?_cons_cons]
          · rw [if_neg he]
            have h2 := ih x.1 [x.2 - 49] x.2
            have hne : runsG x.1 [x.2 - 49] t ≠ [] := runs_ne _ _ _
            have e : lastB ((c0, cur) :: runsG x.1 [x.2 - 49] t) c = lastB (runsG x.1 [x.2 - 49] t) c := by
              unfold lastB
              rw [List.getLast?_cons]
              cases hl : (runsG x.1 [x.2 - 49] t).getLast? with
              | none => rw [List.getLast?_eq_none_iff] at hl; exact absurd hl hne
              | some g => simp
            rw [e, h2]; simp [List.getLast?_cons_cons]
      exact key t m.1 _ m.2
theorem grp_append (l1 l2 : List Int) : ∀ (out : List Grp) (cur : List Int), grpF out cur (l1 ++ l2) = match grpF out cur l1 with | none => none | some (o, c) => grpF o c l2 := by
  induction l1 with
  | nil => intro out cur; rfl
  | cons c l ih =>
    intro out cur
    rw [List.cons_append, grpF, grpF]
    by_cases hd : 49 ≤ c ∧ c ≤ 57
    · rw [if_pos hd, if_pos hd]; exact ih _ _
    · rw [if_neg hd, if_neg hd]
      by_cases hs : suitN c = -4
      · rw [if_pos hs, if_pos hs]
      · rw [if_neg hs, if_neg hs]
        by_cases hn : cur = [] ∨ lastB out c = true
        · rw [if_pos hn, if_pos hn]
        · rw [if_neg hn, if_neg hn]; exact ih _ _
theorem grp_meet (t : List (Int × Int)) : ∀ (out : List Grp) (c : Int) (cur : List Int), suitN c ≠ -4 → ¬ (49 ≤ c ∧ c ≤ 57) → (∀ m ∈ t, MarkOk m) → lastB out c = true → grpF out cur (tailB c t) = none := by
  induction t with
  | nil =>
    intro out c cur h1 h2 _ h4
    simp only [tailB]
    rw [grpF, if_neg h2, if_neg h1, if_pos (.inr h4)]
  | cons m t ih =>
    intro out c cur h1 h2 hm h4
    obtain ⟨m1, m2, m3⟩ := hm m (List.mem_cons_self ..)
    have hm' : ∀ x ∈ t, MarkOk x := fun x hx => hm x (List.mem_cons_of_mem _ hx)
    rw [tailB]
    by_cases he : c = m.1
    · rw [if_pos he, grpF, if_pos m3]
      exact ih out m.1 _ m1 m2 hm' (by rw [← he]; exact h4)
    · rw [if_neg he, grpF, if_neg h2, if_neg h1, if_pos (.inr h4)]
/-- Two texts behind one another. -/
theorem tail_append (t : List (Int × Int)) : ∀ (c d : Int) (m : Int × Int) (t' : List (Int × Int)), ∃ last : Int × Int, ((c, d) :: t).getLast? = some last ∧
    (last.1 ≠ m.1 → tailB c (t ++ m :: t') = tailB c t ++ writeB (m :: t')) ∧ (last.1 = m.1 → (tailB c (t ++ m :: t')).length + 1 = (tailB c t).length + (writeB (m :: t')).length) := by
  induction t with
  | nil =>
    intro c d m t'
    refine ⟨(c, d), rfl, fun h => ?_, fun h => ?_⟩
    · simp only at h
      simp only [List.nil_append, tailB, writeB]
      rw [if_neg h]; rfl
    · simp only at h
      simp only [List.nil_append, tailB, writeB]
      rw [if_pos h]; simp; omega
  | cons x t ih =>
    intro c d m t'
    obtain ⟨last, h1, h2, h3⟩ := ih x.1 x.2 m t'
    refine ⟨last, by rw [List.getLast?_cons_cons]; exact h1, fun h => ?_, fun h => ?_⟩
    · have := h2 h
      rw [List.cons_append, tailB, tailB]
      by_cases he : c = x.1
      · rw [if_pos he, if_pos he, this]; rfl
      · rw [if_neg he, if_neg he, this]; rfl
    · have := h3 h
      rw [List.cons_append, tailB, tailB]
      by_cases he : c = x.1
      · rw [if_pos he, if_pos he]; simp; omega
      · rw [if_neg he, if_neg he]; simp; omega
end Go.Proofs.Ytjiahcfegfimmaa
