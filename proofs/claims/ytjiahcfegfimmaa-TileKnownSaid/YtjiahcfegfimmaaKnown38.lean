/-
  Parts of the proof: ReadL, ReadP.
-/
import Derived.Test.YtjiahcfegfimmaaKnown34
import Derived.Test.YtjiahcfegfimmaaKnown18
import Derived.Test.YtjiahcfegfimmaaKnown35
import Derived.Test.YtjiahcfegfimmaaKnown37
import Derived.Test.YtjiahcfegfimmaaKnown14
/-
  What is read of a text: plain laws.
-/
namespace Go.Proofs.Ytjiahcfegfimmaa

/-- The kind at a place. -/
def kindAt (s : TSet) (p : Int × Int) : Option Int := ((allP s).find? (fun x => x.2 == p)).map (·.1)
/-- The faces of letters and ranks, or which error there is. -/
def readL (s : TSet) : List FaceZ → List (Int × Int) → Int × List FaceZ
  | out, [] => (0, out)
  | out, (c, r) :: t => match kindAt s (suitN c, r) with
    | none => (2, [])
    | some k => if c < 97 ∧ k ∉ s.re then (4, []) else readL s (out ++ [(k, decide (c < 97))]) t
def flatG (gs : List Grp) : List (Int × Int) := gs.flatMap fun g => g.2.map fun r => (g.1, r)
theorem flatG_cons (g : Grp) (gs : List Grp) : flatG (g :: gs) = (g.2.map fun r => (g.1, r)) ++ flatG gs := rfl
theorem flatG_append (gs hs : List Grp) : flatG (gs ++ hs) = flatG gs ++ flatG hs := by simp [flatG]
def readR (s : TSet) (l : List Int) : Int × List FaceZ := if chkErr s ≠ 0 then (chkErr s, []) else if grpB l = false then (3, []) else readL s [] (flatG (grpV l))

theorem kindAt_some {s : TSet} {p : Int × Int} {k : Int} (h : kindAt s p = some k) : (k, p) ∈ allP s := by
  unfold kindAt at h
  obtain ⟨x, hx, e⟩ := Option.map_eq_some_iff.1 h
  have h1 := List.mem_of_find?_eq_some hx
  have h2 := List.find?_some hx
  simp at h2
  subst h2
  rw [← e]
  exact h1
theorem kindAt_none {s : TSet} {p : Int × Int} (h : kindAt s p = none) : ∀ x ∈ allP s, x.2 ≠ p := by
  unfold kindAt at h
  rw [Option.map_eq_none_iff, List.find?_eq_none] at h
  intro x hx e
  exact h x hx (by simp [e])
/-- Where the kinds of a suit begin. -/
def kindOff (s : TSet) (su : Int) : Int := if 0 ≤ su then sumI (s.su.take su.toNat) else if su = -1 then sumI s.su else if su = -2 then sumI s.su + s.wi else sumI s.su + s.wi + s.dr
theorem allP_valid {s : TSet} {x : KPlace} (hx : x ∈ allP s) : chkErr s = 0 := by
  by_cases e : chkErr s = 0
  · exact e
  · have h3 := allP_length s
    rw [if_neg e] at h3
    rw [show allP s = [] from List.eq_nil_of_length_eq_zero (by omega)] at hx
    simp at hx
theorem kind_off {s : TSet} {x : KPlace} (hx : x ∈ allP s) : x.1 = kindOff s x.2.1 + x.2.2 ∧ -3 ≤ x.2.1 ∧ x.2.1 ≤ 2 ∧ 0 ≤ x.2.2 ∧ x.2.2 ≤ 8 := by
  have e := allP_valid hx
  have V := valid_of e
  have v1 := V.wi
  have v2 := V.dr
  have v3 := V.fl
  have v4 := V.su3
  obtain ⟨k, su, r⟩ := x
  rcases place_cases e hx with ⟨j, q, ⟨hj, hq, hk⟩, h2⟩ | ⟨q, hq, hk, h2⟩ | ⟨q, hq, hk, h2⟩ | ⟨q, hq, hk, h2⟩
  · simp only at hk h2
    injection h2 with h2 h3
    subst h2 h3
    have hz := V.su s.su[j] (List.getElem_mem hj)
    refine ⟨?_, by simp only; omega, by simp only; omega, by simp only; omega, by simp only; omega⟩
    unfold kindOff
    simp only
    rw [if_pos (by omega), Int.toNat_natCast]
    omega
  · simp only at hk h2
    injection h2 with h2 h3
    subst h2 h3
    refine ⟨?_, by simp only; omega, by simp only; omega, by simp only; omega, by simp only; omega⟩
    unfold kindOff
    simp only
    rw [if_neg (by omega), if_pos (by trivial)]
    omega
  · simp only at hk h2
    injection h2 with h2 h3
    subst h2 h3
    refine ⟨?_, by simp only; omega, by simp only; omega, by simp only; omega, by simp only; omega⟩
    unfold kindOff
    simp only
    rw [if_neg (by omega), if_neg (by omega), if_pos (by trivial)]
    omega
  · simp only at hk h2
    injection h2 with h2 h3
    subst h2 h3
    refine ⟨?_, by simp only; omega, by simp only; omega, by simp only; omega, by simp only; omega⟩
    unfold kindOff
    simp only
    rw [if_neg (by omega), if_neg (by omega), if_neg (by omega)]
    omega
theorem kind_bound {s : TSet} {x : KPlace} (hx : x ∈ allP s) : 0 ≤ x.1 ∧ x.1 ≤ 60 := by
  have e := allP_valid hx
  have V := valid_of e
  have v1 := V.plain
  have v3 := V.fl
  have h3 := allP_length s
  rw [if_pos e] at h3
  obtain ⟨i, hi, rfl⟩ := List.getElem_of_mem hx
  rw [allP_indexed s i hi]
  omega
/-- No two kinds have one place. -/
theorem place_unique {s : TSet} {x y : KPlace} (hx : x ∈ allP s) (hy : y ∈ allP s) (h : x.2 = y.2) : x = y := by
  have h1 := (kind_off hx).1
  have h2 := (kind_off hy).1
  rw [h] at h1
  exact Prod.ext (h1.trans h2.symm) h
theorem wf_small {n : Int} (h0 : -1000 ≤ n) (h1 : n ≤ 1000) : (Go.Lit.int .i64 n).wf = true := WalkArith.wf_i64 (by omega)
theorem allP_fit {s : TSet} {x : KPlace} (hx : x ∈ allP s) : FitP x.2 ∧ (Go.Lit.int .i64 x.1).wf = true := by
  have h := kind_off hx
  have hb := kind_bound hx
  exact ⟨⟨wf_small (by omega) (by omega), wf_small (by omega) (by omega)⟩, wf_small (by omega) (by omega)⟩
theorem kindAt_mem {s : TSet} {x : KPlace} (hx : x ∈ allP s) : kindAt s x.2 = some x.1 := by
  cases h : kindAt s x.2 with
  | none => exact absurd rfl (kindAt_none h x hx)
  | some k =>
    have := place_unique (kindAt_some h) hx rfl
    rw [← this]
end Go.Proofs.Ytjiahcfegfimmaa

/-
  Reading: plain laws and memory words for the loops over groups.
-/
namespace Go.Proofs.Ytjiahcfegfimmaa
open Go.RowKit

theorem grp_inv : ∀ (l : List Int) (out : List Grp) (cur : List Int) (gs : List Grp) (cur' : List Int), grpF out cur l = some (gs, cur') → (∀ g ∈ out, ∀ r ∈ g.2, 0 ≤ r ∧ r ≤ 8) → (∀ r ∈ cur, 0 ≤ r ∧ r ≤ 8) →
    (∀ g ∈ gs, ∀ r ∈ g.2, 0 ≤ r ∧ r ≤ 8) ∧ (flatG gs).length + cur'.length ≤ (flatG out).length + cur.length + l.length := by
  intro l
  induction l with
  | nil =>
    intro out cur gs cur' h h1 h2
    simp only [grpF] at h
    injection h with h
    injection h with h h'
    subst h h'
    exact ⟨h1, by simp⟩
  | cons c l ih =>
    intro out cur gs cur' h h1 h2
    rw [grpF] at h
    by_cases hd : 49 ≤ c ∧ c ≤ 57
    · rw [if_pos hd] at h
      obtain ⟨a, b⟩ := ih out (cur ++ [c - 49]) gs cur' h h1 (fun r hr => by
        rcases List.mem_append.1 hr with hr | hr
        · exact h2 r hr
        · rw [List.mem_singleton] at hr; omega)
      refine ⟨a, ?_⟩
      rw [List.length_append] at b
      simp at b ⊢
      omega
    · rw [if_neg hd] at h
      by_cases hs : suitN c = -4
      · rw [if_pos hs] at h; cases h
      · rw [if_neg hs] at h
        by_cases hn : cur = [] ∨ lastB out c = true
        · rw [if_pos hn] at h; cases h
        · rw [if_neg hn] at h
          obtain ⟨a, b⟩ := ih (out ++ [(c, cur)]) [] gs cur' h (fun g hg => by
            rcases List.mem_append.1 hg with hg | hg
            · exact h1 g hg
            · rw [List.mem_singleton] at hg; subst hg; exact h2) (by simp)
          refine ⟨a, ?_⟩
          rw [flatG_append, List.length_append] at b
          simp [flatG] at b ⊢
          omega
theorem grpV_inv (l : List Int) : (∀ g ∈ grpV l, ∀ r ∈ g.2, 0 ≤ r ∧ r ≤ 8) ∧ (flatG (grpV l)).length ≤ l.length := by
  unfold grpV
  cases h : grpF [] [] l with
  | none => simp [flatG]
  | some p =>
    obtain ⟨gs, cur⟩ := p
    obtain ⟨a, b⟩ := grp_inv l [] [] gs cur h (by simp) (by simp)
    refine ⟨a, ?_⟩
    simp [flatG] at b ⊢
    omega
theorem Rd.grp {w : World} {A : Option Addr} {gs : List Grp} {us : List Value} (h : Rd w A (grpCells gs us)) (hu : us.length = gs.length) {k : Nat} (hk : k < gs.length) :
    ∃ ad u, A = some ad ∧ us[k]? = some u ∧ w.cell? (ad.add (k * 2)) = some (.int .i32 gs[k].1) ∧ w.cell? ⟨(ad.add (k * 2)).block, (ad.add (k * 2)).off + 1, none⟩ = some u := by
  obtain ⟨ad, e, hb, hc⟩ := h _ _ (grpCells_let hu hk)
  have hku : us[k]? = some us[k] := List.getElem?_eq_getElem (by omega)
  obtain ⟨ad', e', _, hc'⟩ := h (k * 2 + 1) us[k] (by rw [grpCells_ranks hu hk]; exact hku)
  rw [e] at e'
  injection e' with e'
  subst e'
  exact ⟨ad, _, e, hku, hc, by rw [show (⟨(ad.add (k * 2)).block, (ad.add (k * 2)).off + 1, none⟩ : Addr) = (ad.add (k * 2)).add 1 from rfl, add_add]; exact hc'⟩
theorem Rd.put {w : World} {A : Option Addr} {xs : List Value} {D : Nat} {o o' : Obj} (h : Rd w A xs) (hD : w.heap[D]? = some o) (ho : o.isCells = false) : Rd (w.putObj D o') A xs := fun i u hu => by
  obtain ⟨ad, e, hb, hc⟩ := h i u hu
  have hne : ad.block ≠ D := fun e2 => by
    have hb2 : (ad.add i).block = ad.block := block_add ad i
    unfold World.cell? at hc
    rw [hb2, e2, hD] at hc
    cases o <;> simp_all [Obj.isCells]
  refine ⟨ad, e, by simp; omega, ?_⟩
  rw [World.cell?_of_block (w := w) (by rw [block_add]; exact World.putObj_heap_other hne)]
  exact hc
theorem IsFaces.put {w : World} {v : Value} {fs : List (Int × Bool)} {D : Nat} {o o' : Obj} (h : IsFaces w v fs) (hD : w.heap[D]? = some o) (ho : o.isCells = false) : IsFaces (w.putObj D o') v fs := by
  obtain ⟨A, c, e, h1, h2, h3⟩ := h
  exact ⟨A, c, e, h1, h2, h3.put hD ho⟩
end Go.Proofs.Ytjiahcfegfimmaa
