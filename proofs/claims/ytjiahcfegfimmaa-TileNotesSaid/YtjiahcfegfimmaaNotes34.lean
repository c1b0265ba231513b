/-
  Parts of the proof: NotesR, ReadP.
-/
import Derived.Test.YtjiahcfegfimmaaNotes29
import Derived.Test.YtjiahcfegfimmaaNotes30
import Derived.Test.YtjiahcfegfimmaaNotes25
import Derived.Test.YtjiahcfegfimmaaNotes33
import Derived.Test.YtjiahcfegfimmaaNotes18
/-
  The text of faces is read as these faces; two lists behind one another. Plain laws.
-/
namespace Go.Proofs.Ytjiahcfegfimmaa

theorem suit_letter {su : Int} {red : Bool} (h0 : -3 ≤ su) (h1 : su ≤ 2) (h2 : red = true → su ≠ -3) : suitN (letB (letN su red)) = su ∧ ¬ (49 ≤ letB (letN su red) ∧ letB (letN su red) ≤ 57) ∧ decide (letB (letN su red) < 97) = red := by
  rcases (show su = -3 ∨ su = -2 ∨ su = -1 ∨ su = 0 ∨ su = 1 ∨ su = 2 by omega) with rfl | rfl | rfl | rfl | rfl | rfl <;> cases red
  all_goals first
    | exact absurd rfl (h2 rfl)
    | decide
theorem facesErr_all {s : TSet} {l : List FaceZ} (h : facesErr s l = 0) : ∀ f ∈ l, (placeP s f.1).1 ≠ -4 ∧ (f.2 = true → f.1 ∈ s.re) := by
  induction l with
  | nil => simp
  | cons f l ih =>
    simp only [facesErr] at h
    by_cases h1 : (placeP s f.1).1 = -4
    · rw [if_pos h1] at h; omega
    rw [if_neg h1] at h
    by_cases h2 : f.2 = true ∧ f.1 ∉ s.re
    · rw [if_pos h2] at h; omega
    rw [if_neg h2] at h
    intro g hg
    rcases List.mem_cons.1 hg with rfl | hg
    · exact ⟨h1, fun hr => Classical.byContradiction fun hn => h2 ⟨hr, hn⟩⟩
    · exact ih h g hg
/-- What is known of a face without an error. -/
theorem face_mark {s : TSet} {f : FaceZ} (e : chkErr s = 0) (h4 : (placeP s f.1).1 ≠ -4) (hr : f.2 = true → f.1 ∈ s.re) :
    MarkOk (markF s f) ∧ kindAt s (suitN (markF s f).1, (markF s f).2 - 49) = some f.1 ∧ decide ((markF s f).1 < 97) = f.2 := by
  rcases place_two s f.1 with h | ⟨su, r, hp, a0, a1, b0, b1, -, hfl⟩
  · rw [h] at h4; exact absurd rfl h4
  have hne : f.2 = true → su ≠ -3 := fun h hs => by
    have := red_plain e (hr h)
    have := hfl hs
    omega
  obtain ⟨l1, l2, l3⟩ := suit_letter (red := f.2) a0 a1 hne
  have hm : markF s f = (letB (letN su f.2), 49 + r) := by unfold markF; rw [hp]
  have hin : (f.1, placeP s f.1) ∈ allP s := by
    have hk : ¬ (f.1 < 0 ∨ ((allP s).length : Int) ≤ f.1) := fun hk => by rw [place_out hk] at h4; exact h4 rfl
    exact place_in (by omega) (by omega)
  have hka := kindAt_mem hin
  rw [hp] at hka
  rw [hm]
  refine ⟨⟨by rw [l1]; omega, l2, by simp only; omega, by simp only; omega⟩, ?_, l3⟩
  simp only
  rw [l1, show 49 + r - 49 = r by omega]
  exact hka
theorem read_marks {s : TSet} (e : chkErr s = 0) (fs : List FaceZ) : ∀ out, (∀ f ∈ fs, (placeP s f.1).1 ≠ -4 ∧ (f.2 = true → f.1 ∈ s.re)) → readL s out (fs.map fun f => ((markF s f).1, (markF s f).2 - 49)) = (0, out ++ fs) := by
  induction fs with
  | nil => intro out _; simp [readL]
  | cons f fs ih =>
    intro out h
    obtain ⟨h1, h2⟩ := h f (List.mem_cons_self ..)
    obtain ⟨-, hk, hd⟩ := face_mark e h1 h2
    rw [List.map_cons, readL, hk]
    simp only
    rw [if_neg (fun hh => hh.2 (h2 (by rw [← hd]; exact decide_eq_true hh.1))), hd, ih _ (fun g hg => h g (List.mem_cons_of_mem _ hg))]
    simp
theorem marks_ok {s : TSet} (e : chkErr s = 0) {fs : List FaceZ} (h : facesErr s fs = 0) : ∀ m ∈ fs.map (markF s), MarkOk m := fun m hm => by
  obtain ⟨f, hf, rfl⟩ := List.mem_map.1 hm
  obtain ⟨h1, h2⟩ := facesErr_all h f hf
  exact (face_mark e h1 h2).1
theorem read_text {s : TSet} (e : chkErr s = 0) {fs : List FaceZ} (h : facesErr s fs = 0) : readR s (textB s fs) = (0, fs) := by
  obtain ⟨gs, hg, hf, -⟩ := grp_write (marks_ok e h)
  unfold readR
  rw [if_neg (by omega), if_neg (by unfold grpB textB; rw [hg]; simp)]
  have hv : grpV (textB s fs) = gs := by unfold grpV textB; rw [hg]
  rw [hv, hf, List.map_map]
  have := read_marks e fs [] (facesErr_all h)
  rw [List.nil_append] at this
  exact this
theorem facesErr_append {s : TSet} {a b : List FaceZ} (ha : facesErr s a = 0) (hb : facesErr s b = 0) : facesErr s (a ++ b) = 0 := by
  induction a with
  | nil => exact hb
  | cons f l ih =>
    simp only [facesErr, List.cons_append] at ha ⊢
    by_cases h1 : (placeP s f.1).1 = -4
    · rw [if_pos h1] at ha; omega
    rw [if_neg h1] at ha ⊢
    by_cases h2 : f.2 = true ∧ f.1 ∉ s.re
    · rw [if_pos h2] at ha; omega
    rw [if_neg h2] at ha ⊢
    exact ih ha
/-- Two texts: they meet in a letter, or not. -/
theorem two_texts {s : TSet} (e : chkErr s = 0) {a b : List FaceZ} (ha : facesErr s a = 0) (hb : facesErr s b = 0) :
    (textB s (a ++ b) = textB s a ++ textB s b ∧ readR s (textB s a ++ textB s b) = (0, a ++ b)) ∨
    (a ≠ [] ∧ b ≠ [] ∧ (textB s (a ++ b)).length + 1 = (textB s a).length + (textB s b).length ∧ readR s (textB s a ++ textB s b) = (3, [])) := by
  have hall := read_text e (facesErr_append ha hb)
  cases a with
  | nil => exact .inl ⟨rfl, hall⟩
  | cons f a =>
    cases b with
    | nil => refine .inl ⟨by simp [textB, writeB], ?_⟩; rw [List.append_nil] at hall; simpa [textB, writeB] using hall
    | cons g b =>
      obtain ⟨last, h1, h2, h3⟩ := tail_append (a.map (markF s)) (markF s f).1 (markF s f).2 (markF s g) (b.map (markF s))
      have hm : markF s f = ((markF s f).1, (markF s f).2) := rfl
      have et : textB s (f :: a ++ g :: b) = (markF s f).2 :: tailB (markF s f).1 (a.map (markF s) ++ markF s g :: b.map (markF s)) := by simp [textB, writeB]
      have ea : textB s (f :: a) = (markF s f).2 :: tailB (markF s f).1 (a.map (markF s)) := rfl
      have eb : textB s (g :: b) = writeB (markF s g :: b.map (markF s)) := rfl
      by_cases he : last.1 = (markF s g).1
      · refine .inr ⟨by simp, by simp, ?_, ?_⟩
        · rw [et, ea, eb]
          have := h3 he
          simp only [List.length_cons]
          omega
        · obtain ⟨gs, k1, k2, k3⟩ := grp_write (marks_ok e ha)
          have k4 := k3 (markF s g).1
          rw [List.map_cons] at k4
          rw [show (markF s f :: a.map (markF s)).getLast? = some last from h1] at k4
          simp only at k4
          rw [he] at k4
          obtain ⟨m1, m2, m3⟩ := marks_ok e hb _ (List.mem_cons_self ..)
          have hno : grpF [] [] (textB s (f :: a) ++ textB s (g :: b)) = none := by
            rw [grp_append]
            have k1' : grpF [] [] (textB s (f :: a)) = some (gs, []) := k1
            rw [k1', eb]
            simp only
            rw [writeB, grpF, if_pos m3]
            exact grp_meet _ gs _ _ m1 m2 (fun x hx => marks_ok e hb x (List.mem_cons_of_mem _ hx)) (by rw [k4]; simp)
          unfold readR
          rw [if_neg (by omega), if_pos (by unfold grpB; rw [hno])]
      · refine .inl ?_
        have h5 : textB s (f :: a ++ g :: b) = textB s (f :: a) ++ textB s (g :: b) := by rw [et, ea, eb, h2 he]; rfl
        exact ⟨h5, by rw [← h5]; exact hall⟩
/-- The faces of tiles of a set have no error. -/
theorem faces_ok {s : TSet} (e : chkErr s = 0) {ts : List Int} (h : ∀ t ∈ ts, 0 ≤ t ∧ t < sizeI s) : facesErr s (facesI s ts) = 0 := by
  induction ts with
  | nil => rfl
  | cons t ts ih =>
    have ht := h t (List.mem_cons_self ..)
    have V := valid_of e
    have hc := V.co
    have hf := V.fl
    have hz := size_ok e
    have hk : 0 ≤ kindI s t ∧ kindI s t < plainI s + s.fl := by
      have hq := kind_quo e ht.1 ht.2
      refine ⟨hq.1, ?_⟩
      unfold kindI
      rw [if_neg (by omega)]
      by_cases hp : plainI s * s.co ≤ t
      · rw [if_pos hp]; omega
      · rw [if_neg hp]
        have : t / s.co < plainI s := Int.ediv_lt_of_lt_mul (by omega) (by omega)
        omega
    have hl := allP_length s
    rw [if_pos e] at hl
    have hin := place_in (s := s) hk.1 (by omega)
    have hs := (kind_off hin).2.1
    simp only at hs
    show facesErr s ((kindI s t, redB s t) :: facesI s ts) = 0
    simp only [facesErr]
    rw [if_neg (by omega), if_neg (fun hh => hh.2 (by
      have := hh.1
      unfold redB at this
      simp at this
      exact this.2.2))]
    exact ih (fun x hx => h x (List.mem_cons_of_mem _ hx))
end Go.Proofs.Ytjiahcfegfimmaa

/-
  Reading: plain laws and memory words for the loops over groups.
-/
namespace Go.Proofs.Ytjiahcfegfimmaa
open Go.RowKit

theorem grp_inv : ∀ (l : List Int) (out : List Grp) (cur : List Int) (gs : List Grp) (cur' : List Int), grpF out cur l = some (gs, cur') → (∀ g ∈ out, ∀ r ∈ g.2, 0 ≤ r ∧ r ≤ 8) → (∀ r ∈ cur, 0 ≤ r ∧ r ≤ 8) →
    (∀ g ∈ gs, ∀ r ∈ g.2, 0 ≤ r ∧ r ≤ 8) ∧ (flatG gs).length + cur'.length ≤ (flatG out).length + cur.length + l.length := by
  intro l
  induction l with
  | nil =>
    intro out cur gs cur' h h1 h2
    simp only [grpF] at h
    injection h with h
    injection h with h h'
    subst h h'
    exact ⟨h1, by simp⟩
  | cons c l ih =>
    intro out cur gs cur' h h1 h2
    rw [grpF] at h
    by_cases hd : 49 ≤ c ∧ c ≤ 57
    · rw [if_pos hd] at h
      obtain ⟨a, b⟩ := ih out (cur ++ [c - 49]) gs cur' h h1 (fun r hr => by
        rcases List.mem_append.1 hr with hr | hr
        · exact h2 r hr
        · rw [List.mem_singleton] at hr; omega)
      refine ⟨a, ?_⟩
      rw [List.length_append] at b
      simp at b ⊢
      omega
    · rw [if_neg hd] at h
      by_cases hs : suitN c = -4
      · rw [if_pos hs] at h; cases h
      · rw [if_neg hs] at h
        by_cases hn : cur = [] ∨ lastB out c = true
        · rw [if_pos hn] at h; cases h
        · rw [if_neg hn] at h
          obtain ⟨a, b⟩ := ih (out ++ [(c, cur)]) [] gs cur' h (fun g hg => by
            rcases List.mem_append.1 hg with hg | hg
            · exact h1 g hg
            · rw [List.mem_singleton] at hg; subst hg; exact h2) (by simp)
          refine ⟨a, ?_⟩
          rw [flatG_append, List.length_append] at b
          simp [flatG] at b ⊢
          omega
theorem grpV_inv (l : List Int) : (∀ g ∈ grpV l, ∀ r ∈ g.2, 0 ≤ r ∧ r ≤ 8) ∧ (flatG (grpV l)).length ≤ l.length := by
  unfold grpV
  cases h : grpF [] [] l with
  | none => simp [flatG]
  | some p =>
    obtain ⟨gs, cur⟩ := p
    obtain ⟨a, b⟩ := grp_inv l [] [] gs cur h (by simp) (by simp)
    refine ⟨a, ?_⟩
    simp [flatG] at b ⊢
    omega
theorem Rd.grp {w : World} {A : Option Addr} {gs : List Grp} {us : List Value} (h : Rd w A (grpCells gs us)) (hu : us.length = gs.length) {k : Nat} (hk : k < gs.length) :
    ∃ ad u, A = some ad ∧ us[k]? = some u ∧ w.cell? (ad.add (k * 2)) = some (.int .i32 gs[k].1) ∧ w.cell? ⟨(ad.add (k * 2)).block, (ad.add (k * 2)).off + 1, none⟩ = some u := by
  obtain ⟨ad, e, hb, hc⟩ := h _ _ (grpCells_let hu hk)
  have hku : us[k]? = some us[k] := List.getElem?_eq_getElem (by omega)
  obtain ⟨ad', e', _, hc'⟩ := h (k * 2 + 1) us[k] (by rw [grpCells_ranks hu hk]; exact hku)
  rw [e] at e'
  injection e' with e'
  subst e'
  exact ⟨ad, _, e, hku, hc, by rw [show (⟨(ad.add (k * 2)).block, (ad.add (k * 2)).off + 1, none⟩ : Addr) = (ad.add (k * 2)).add 1 from rfl, add_add]; exact hc'⟩
theorem Rd.put {w : World} {A : Option Addr} {xs : List Value} {D : Nat} {o o' : Obj} (h : Rd w A xs) (hD : w.heap[D]? = some o) (ho : o.isCells = false) : Rd (w.putObj D o') A xs := fun i u hu => by
  obtain ⟨ad, e, hb, hc⟩ := h i u hu
  have hne : ad.block ≠ D := fun e2 => by
    have hb2 : (ad.add i).block = ad.block := block_add ad i
    unfold World.cell? at hc
    rw [hb2, e2, hD] at hc
    cases o <;> simp_all [Obj.isCells]
  refine ⟨ad, e, by simp; omega, ?_⟩
  rw [World.cell?_of_block (w := w) (by rw [block_add]; exact World.putObj_heap_other hne)]
  exact hc
theorem IsFaces.put {w : World} {v : Value} {fs : List (Int × Bool)} {D : Nat} {o o' : Obj} (h : IsFaces w v fs) (hD : w.heap[D]? = some o) (ho : o.isCells = false) : IsFaces (w.putObj D o') v fs := by
  obtain ⟨A, c, e, h1, h2, h3⟩ := h
  exact ⟨A, c, e, h1, h2, h3.put hD ho⟩
end Go.Proofs.Ytjiahcfegfimmaa
