/-
  Parts of the proof: SplX, FrmL, SplqF, OrdV.
-/
import Derived.Test.YthblfhgofopcaaaGreatHA33
import Derived.Test.YthblfhgofopcaaaGreatHA38
import Derived.Test.YthblfhgofopcaaaGreatHA16
import Derived.Test.YthblfhgofopcaaaGreatHA17
import Derived.Test.YthblfhgofopcaaaGreatHA27
set_option linter.all false
namespace Go.Proofs.YthblfhgofopcaaaGreat
open Go.RowKit
set_option maxRecDepth 100000
structure Sx where
 left : List Int
 pd : Bool
 so : List Gp
 junk : List Gp
 gs : Nat
 go : Nat
def fromC : AV := .clo 158 [.ref 1 0 0 0, .ref 2 0 0 0, .ref 3 0 0 0, .ref 4 0 0 0, .ref 5 0 0 0, .ref 6 0 0 0, .ref 0 0 0 0]
def putC : AV := .clo 157 [.ref 0 0 0 0, .ref 1 0 0 0, .ref 4 0 0 0]
def onC : AV := .clo 160 [.ref 5 0 0 0, .ref 10 0 0 0]
theorem inc_dec {X : List Int} {ks : List Int} (hk : InB X.length ks) : incL (decL X ks) ks = X := by
 refine List.ext_getElem (by rw [incL_len, decL_len]) fun i h1 h2 => ?_
 have h3 := incL_get ks (decL X ks) (by rw [decL_len]; exact hk) i
 have h4 := decL_get ks X hk i
 rw [h4] at h3
 have e1 : (incL (decL X ks) ks).getD i 0 = (incL (decL X ks) ks)[i] := by simp [List.getD_eq_getElem?_getD, h1]
 have e2 : X.getD i 0 = X[i] := by simp [List.getD_eq_getElem?_getD, h2]
 rw [e1, e2] at h3; omega
end Go.Proofs.YthblfhgofopcaaaGreat

namespace Go.Proofs.YthblfhgofopcaaaGreat
open Go.RowKit
theorem splP_len (rn : Int → Bool) : ∀ (f : Nat) (left : List Int) (pr : Option Gp) (pd : Bool), (splP rn f left pr pd).length ≤ 3 ^ f
 | 0, _, _, _ => by simp [splP]
 | f + 1, left, pr, pd => by
  have e : 3 ^ (f + 1) = 3 ^ f + 3 ^ f + 3 ^ f := by rw [Nat.pow_succ]; omega
  have h0 : 1 ≤ 3 ^ f := Nat.one_le_pow _ _ (by omega)
  have ih := splP_len rn f
  rw [splP]
  split
  ·split <;> simp <;> omega
  ·simp only [List.length_append]
   have h1 : ∀ (c : Prop) [Decidable c] (l : List (List Gp)), l.length ≤ 3 ^ f → (if c then l else []).length ≤ 3 ^ f := fun c _ l hl => by
    split
    ·exact hl
    ·simp
   have a1 := h1 (2 ≤ left.getD (firstK left) 0 ∧ pd = false ∧ lastW pr (firstK left) = 0) _ (by rw [List.length_map]; exact ih (decL left [(firstK left : Int), (firstK left : Int)]) (some (gp 4 (firstK left))) true : ((splP rn f (decL left [(firstK left : Int), (firstK left : Int)]) (some (gp 4 (firstK left))) true).map (gp 4 (firstK left) :: ·)).length ≤ 3 ^ f)
   have a2 := h1 (3 ≤ left.getD (firstK left) 0 ∧ lastW pr (firstK left) ≠ 1) _ (by rw [List.length_map]; exact ih (decL left [(firstK left : Int), (firstK left : Int), (firstK left : Int)]) (some (gp 2 (firstK left))) pd : ((splP rn f (decL left [(firstK left : Int), (firstK left : Int), (firstK left : Int)]) (some (gp 2 (firstK left))) pd).map (gp 2 (firstK left) :: ·)).length ≤ 3 ^ f)
   have a3 := h1 (rn (firstK left) = true ∧ 0 < left.getD (firstK left + 1) 0 ∧ 0 < left.getD (firstK left + 2) 0) _ (by rw [List.length_map]; exact ih (decL left [(firstK left : Int), (firstK left : Int) + 1, (firstK left : Int) + 2]) (some (gp 1 (firstK left))) pd : ((splP rn f (decL left [(firstK left : Int), (firstK left : Int) + 1, (firstK left : Int) + 2]) (some (gp 1 (firstK left))) pd).map (gp 1 (firstK left) :: ·)).length ≤ 3 ^ f)
   omega
structure FP (s : TSet) (f k : Nat) (x : Sx) : Prop where
 sb : Sb x.left
 ln : (x.left.length : Int) = kindsI s
 sm : x.left.sum < (f : Int)
 k0 : k ≤ x.left.length
 kz : ∀ i, i < k → x.left.getD i 0 = 0
 so : x.so.length + f ≤ 1000
 cl : Cl x.so
 pr : x.pd = true → x.so ≠ []
def newL (s : TSet) (f : Nat) (x : Sx) : List (List Gp) := (splP (runsB s) f x.left x.so.getLast? x.pd).map fun r => sortG (x.so ++ r)
theorem newL_len (s : TSet) (f : Nat) (x : Sx) : (newL s f x).length ≤ 3 ^ f := by unfold newL; rw [List.length_map]; exact splP_len _ _ _ _ _
theorem FP.le {s : TSet} {f k : Nat} {x : Sx} (h : FP s f k x) : k ≤ firstK x.left := by
 by_cases hk : firstK x.left < x.left.length
 ·have h1 := firstK_ne x.left hk
  rcases Nat.lt_or_ge (firstK x.left) k with h2 | h2
  ·exact absurd (h.kz _ h2) h1
  ·exact h2
 ·have := firstK_le x.left; have := h.k0; omega
theorem FP.next {s : TSet} {f k : Nat} {x : Sx} (h : FP s (f + 1) k x) (g : Gp) (pd : Bool) (gs go : Nat) (hg : g.op = false) (hk : InB x.left.length (tilesL g.wh g.kd)) (hc : ∀ i, cntI (tilesL g.wh g.kd) i ≤ x.left.getD i 0) (hlow : ∀ z ∈ tilesL g.wh g.kd, (firstK x.left : Int) ≤ z) (hpos : 0 < (tilesL g.wh g.kd).length) :
  FP s f (firstK x.left) ⟨decL x.left (tilesL g.wh g.kd), pd, x.so ++ [g], [], gs, go⟩ where
 sb i := by
  show 0 ≤ (decL x.left (tilesL g.wh g.kd)).getD i 0 ∧ _
  rw [decL_get _ _ hk]
  have := hc i; have := h.sb i; have := cntI_nonneg (tilesL g.wh g.kd) i
  omega
 ln := by rw [decL_len]; exact h.ln
 sm := by rw [decL_sum _ _ hk]; have := h.sm; omega
 k0 := by rw [decL_len]; exact firstK_le _
 kz i hi := by
  rw [decL_get _ _ hk, firstK_lt _ _ hi]
  have : cntI (tilesL g.wh g.kd) i = 0 := by
   unfold cntI
   rw [List.count_eq_zero_of_not_mem fun hm => by have := hlow _ hm; omega]; rfl
  omega
 so := by have := h.so; simp; omega
 cl z hz := by
  rcases List.mem_append.1 hz with hz | hz
  ·exact h.cl z hz
  ·simp at hz; subst hz; exact hg
 pr _ := by simp
theorem newL_next (s : TSet) (f : Nat) (left : List Int) (pd : Bool) (so : List Gp) (g : Gp) (gs go : Nat) : newL s f ⟨left, pd, so ++ [g], [], gs, go⟩ = ((splP (runsB s) f left (some g) pd).map (g :: ·)).map fun r => sortG (so ++ r) := by
 unfold newL
 simp only [List.getLast?_append, List.getLast?_singleton, Option.some_or, List.map_map]
 congr 1
 funext r
 simp
def c1 (x : Sx) : Prop := 2 ≤ x.left.getD (firstK x.left) 0 ∧ x.pd = false ∧ lastW x.so.getLast? (firstK x.left) = 0
def c2 (x : Sx) : Prop := 3 ≤ x.left.getD (firstK x.left) 0 ∧ lastW x.so.getLast? (firstK x.left) ≠ 1
def c3 (s : TSet) (x : Sx) : Prop := runsB s (firstK x.left) = true ∧ 0 < x.left.getD (firstK x.left + 1) 0 ∧ 0 < x.left.getD (firstK x.left + 2) 0
instance (x : Sx) : Decidable (c1 x) := by unfold c1; infer_instance
instance (x : Sx) : Decidable (c2 x) := by unfold c2; infer_instance
instance (s : TSet) (x : Sx) : Decidable (c3 s x) := by unfold c3; infer_instance
def new1 (s : TSet) (f : Nat) (x : Sx) : List (List Gp) := if c1 x then newL s f ⟨decL x.left (tilesL 4 (firstK x.left)), true, x.so ++ [gp 4 (firstK x.left)], [], 0, 0⟩ else []
def new2 (s : TSet) (f : Nat) (x : Sx) : List (List Gp) := if c2 x then newL s f ⟨decL x.left (tilesL 2 (firstK x.left)), x.pd, x.so ++ [gp 2 (firstK x.left)], [], 0, 0⟩ else []
def new3 (s : TSet) (f : Nat) (x : Sx) : List (List Gp) := if c3 s x then newL s f ⟨decL x.left (tilesL 1 (firstK x.left)), x.pd, x.so ++ [gp 1 (firstK x.left)], [], 0, 0⟩ else []
theorem newL_succ (s : TSet) (f : Nat) (x : Sx) (h : ¬ firstK x.left = x.left.length) : newL s (f + 1) x = new1 s f x ++ (new2 s f x ++ new3 s f x) := by
 unfold new1 new2 new3
 rw [newL_next, newL_next, newL_next]
 have e1 : ∀ k : Int, tilesL 4 k = [k, k] := fun k => by simp [tilesL]
 have e2 : ∀ k : Int, tilesL 2 k = [k, k, k] := fun k => by simp [tilesL]
 have e3 : ∀ k : Int, tilesL 1 k = [k, k + 1, k + 2] := fun k => by simp [tilesL]
 rw [e1, e2, e3]
 show (splP (runsB s) (f + 1) x.left x.so.getLast? x.pd).map _ = _
 rw [splP, if_neg h, List.map_append, List.map_append]
 congr 1
 ·by_cases hc : c1 x
  ·have hc' : 2 ≤ x.left.getD (firstK x.left) 0 ∧ x.pd = false ∧ lastW x.so.getLast? (firstK x.left) = 0 := hc
   rw [if_pos hc, if_pos hc']
  ·have hc' : ¬ (2 ≤ x.left.getD (firstK x.left) 0 ∧ x.pd = false ∧ lastW x.so.getLast? (firstK x.left) = 0) := hc
   rw [if_neg hc, if_neg hc']; rfl
 ·congr 1
  ·by_cases hc : c2 x
   ·have hc' : 3 ≤ x.left.getD (firstK x.left) 0 ∧ lastW x.so.getLast? (firstK x.left) ≠ 1 := hc
    rw [if_pos hc, if_pos hc']
   ·have hc' : ¬ (3 ≤ x.left.getD (firstK x.left) 0 ∧ lastW x.so.getLast? (firstK x.left) ≠ 1) := hc
    rw [if_neg hc, if_neg hc']; rfl
  ·by_cases hc : c3 s x
   ·have hc' : runsB s (firstK x.left) = true ∧ 0 < x.left.getD (firstK x.left + 1) 0 ∧ 0 < x.left.getD (firstK x.left + 2) 0 := hc
    rw [if_pos hc, if_pos hc']
   ·have hc' : ¬ (runsB s (firstK x.left) = true ∧ 0 < x.left.getD (firstK x.left + 1) 0 ∧ 0 < x.left.getD (firstK x.left + 2) 0) := hc
    rw [if_neg hc, if_neg hc']; rfl
theorem newL_end (s : TSet) (f : Nat) (x : Sx) (h : firstK x.left = x.left.length) : newL s (f + 1) x = if x.pd = true then [sortG x.so] else [] := by
 show (splP (runsB s) (f + 1) x.left x.so.getLast? x.pd).map _ = _
 rw [splP, if_pos h]
 split <;> simp
theorem ob_snoc (out : List (List Gp)) (w : List Gp) (i : Nat) (e e' : AV) (h : (out.map (eGps false) ++ [eGps true w])[i]? = some e) (h' : ((out ++ [w]).map (eGps false))[i]? = some e') : e.cs = [e] ∧ e'.cs = [e'] ∧ LeV e e' := by
 rw [List.map_append] at h'
 by_cases hi : i < out.length
 ·rw [List.getElem?_append_left (by simpa using hi)] at h h'
  rw [h] at h'
  injection h' with h'
  subst h'
  rw [List.getElem?_map] at h
  cases hx : out[i]? with
  | none => rw [hx] at h; cases h
  | some y => rw [hx] at h; simp at h; subst h; exact ⟨rfl, rfl, LeV.rfl'⟩
 ·rw [List.getElem?_append_right (by simp; omega)] at h h'
  simp only [List.length_map, List.map_cons, List.map_nil] at h h'
  cases hm : i - out.length with
  | zero => rw [hm] at h h'; simp at h h'; subst h h'; exact ⟨rfl, rfl, LeV.sl _ _ _⟩
  | succ m => rw [hm] at h; simp at h
structure Way (s : TSet) (x : Sx) (wh : Int) : Prop where
 gr : grpErr s wh (firstK x.left) = 0
 inb : InB x.left.length (tilesL wh (firstK x.left))
 ct : ∀ i, cntI (tilesL wh (firstK x.left)) i ≤ x.left.getD i 0
 low : ∀ z ∈ tilesL wh (firstK x.left), (firstK x.left : Int) ≤ z
 pos : 0 < (tilesL wh (firstK x.left)).length
theorem way4 {s : TSet} {f k : Nat} {x : Sx} (h : FP s f k x) (hq : firstK x.left < x.left.length) (hc : 2 ≤ x.left.getD (firstK x.left) 0) : Way s x 4 where
 gr := by unfold grpErr; rw [if_neg (by omega), if_neg (by have := h.ln; omega), if_neg (by simp)]
 inb z hz := by simp [tilesL] at hz; omega
 ct i := by
  have := h.sb i
  have e : cntI (tilesL 4 (firstK x.left)) i = if (firstK x.left : Int) = (i : Int) then 2 else 0 := by rw [show tilesL 4 (firstK x.left) = [(firstK x.left : Int), (firstK x.left : Int)] by simp [tilesL], cntI_cons, cntI_cons]; simp only [cntI]; split <;> simp
  rw [e]; split
  ·rename_i hi; have : firstK x.left = i := by omega
   subst this; exact hc
  ·exact this.1
 low z hz := by simp [tilesL] at hz; omega
 pos := by simp [tilesL]
theorem way2 {s : TSet} {f k : Nat} {x : Sx} (h : FP s f k x) (hq : firstK x.left < x.left.length) (hc : 3 ≤ x.left.getD (firstK x.left) 0) : Way s x 2 where
 gr := by unfold grpErr; rw [if_neg (by omega), if_neg (by have := h.ln; omega), if_neg (by simp)]
 inb z hz := by simp [tilesL] at hz; omega
 ct i := by
  have := h.sb i
  have e : cntI (tilesL 2 (firstK x.left)) i = if (firstK x.left : Int) = (i : Int) then 3 else 0 := by rw [show tilesL 2 (firstK x.left) = [(firstK x.left : Int), (firstK x.left : Int), (firstK x.left : Int)] by simp [tilesL], cntI_cons, cntI_cons, cntI_cons]; simp only [cntI]; split <;> simp
  rw [e]; split
  ·rename_i hi; have : firstK x.left = i := by omega
   subst this; exact hc
  ·exact this.1
 low z hz := by simp [tilesL] at hz; omega
 pos := by simp [tilesL]
theorem way1 {s : TSet} {f k : Nat} {x : Sx} (h : FP s f k x) (hq : firstK x.left < x.left.length) (hr : runsB s (firstK x.left) = true) (h1 : 0 < x.left.getD (firstK x.left + 1) 0) (h2 : 0 < x.left.getD (firstK x.left + 2) 0) : Way s x 1 where
 gr := by unfold grpErr; rw [if_neg (by omega), if_neg (by have := h.ln; omega), if_neg (by simp [hr])]
 inb z hz := by have := runs_in hr; have := h.ln; simp [tilesL] at hz; omega
 ct i := by
  have hb := h.sb i
  have h0 := firstK_ne x.left hq
  have h00 := (h.sb (firstK x.left)).1
  have e : cntI (tilesL 1 (firstK x.left)) i = if (firstK x.left : Int) = (i : Int) ∨ (firstK x.left : Int) + 1 = (i : Int) ∨ (firstK x.left : Int) + 2 = (i : Int) then 1 else 0 := cntG_chow (firstK x.left) false i
  rw [e]; split
  ·rename_i hi
   rcases hi with hi | hi | hi
   ·have : firstK x.left = i := by omega
    subst this; omega
   ·have : firstK x.left + 1 = i := by omega
    subst this; omega
   ·have : firstK x.left + 2 = i := by omega
    subst this; omega
  ·exact hb.1
 low z hz := by simp [tilesL] at hz; omega
 pos := by simp [tilesL]
theorem Way.next {s : TSet} {f k : Nat} {x : Sx} {wh : Int} (w : Way s x wh) (h : FP s (f + 1) k x) (pd : Bool) (gs go : Nat) : FP s f (firstK x.left) ⟨decL x.left (tilesL wh (firstK x.left)), pd, x.so ++ [gp wh (firstK x.left)], [], gs, go⟩ :=
 h.next (gp wh (firstK x.left)) pd gs go rfl w.inb w.ct w.low w.pos
theorem new1_eq (s : TSet) (f : Nat) (left : List Int) (pd : Bool) (so junk : List Gp) (gs go : Nat) {j : Nat} (hq : firstK left = j) {last : Int} (hl : lastW so.getLast? j = last) : new1 s f ⟨left, pd, so, junk, gs, go⟩ = if 2 ≤ left.getD j 0 ∧ pd = false ∧ last = 0 then newL s f ⟨decL left (tilesL 4 j), true, so ++ [gp 4 j], [], 0, 0⟩ else [] := by
 subst hq hl
 unfold new1
 by_cases hc : c1 ⟨left, pd, so, junk, gs, go⟩
 ·have hc' : 2 ≤ left.getD (firstK left) 0 ∧ pd = false ∧ lastW so.getLast? (firstK left) = 0 := hc
  rw [if_pos hc, if_pos hc']
 ·have hc' : ¬ (2 ≤ left.getD (firstK left) 0 ∧ pd = false ∧ lastW so.getLast? (firstK left) = 0) := hc
  rw [if_neg hc, if_neg hc']
theorem new2_eq (s : TSet) (f : Nat) (left : List Int) (pd : Bool) (so junk : List Gp) (gs go : Nat) {j : Nat} (hq : firstK left = j) {last : Int} (hl : lastW so.getLast? j = last) : new2 s f ⟨left, pd, so, junk, gs, go⟩ = if 3 ≤ left.getD j 0 ∧ last ≠ 1 then newL s f ⟨decL left (tilesL 2 j), pd, so ++ [gp 2 j], [], 0, 0⟩ else [] := by
 subst hq hl
 unfold new2
 by_cases hc : c2 ⟨left, pd, so, junk, gs, go⟩
 ·have hc' : 3 ≤ left.getD (firstK left) 0 ∧ lastW so.getLast? (firstK left) ≠ 1 := hc
  rw [if_pos hc, if_pos hc']
 ·have hc' : ¬ (3 ≤ left.getD (firstK left) 0 ∧ lastW so.getLast? (firstK left) ≠ 1) := hc
  rw [if_neg hc, if_neg hc']
theorem new3_eq (s : TSet) (f : Nat) (left : List Int) (pd : Bool) (so junk : List Gp) (gs go : Nat) {j : Nat} (hq : firstK left = j) : new3 s f ⟨left, pd, so, junk, gs, go⟩ = if runsB s (j : Int) = true ∧ 0 < left.getD (j + 1) 0 ∧ 0 < left.getD (j + 2) 0 then newL s f ⟨decL left (tilesL 1 j), pd, so ++ [gp 1 j], [], 0, 0⟩ else [] := by
 subst hq
 unfold new3
 by_cases hc : c3 s ⟨left, pd, so, junk, gs, go⟩
 ·have hc' : runsB s (firstK left : Int) = true ∧ 0 < left.getD (firstK left + 1) 0 ∧ 0 < left.getD (firstK left + 2) 0 := hc
  rw [if_pos hc, if_pos hc']
 ·have hc' : ¬ (runsB s (firstK left : Int) = true ∧ 0 < left.getD (firstK left + 1) 0 ∧ 0 < left.getD (firstK left + 2) 0) := hc
  rw [if_neg hc, if_neg hc']
end Go.Proofs.YthblfhgofopcaaaGreat

namespace Go.Proofs.YthblfhgofopcaaaGreat
open Go.RowKit
set_option maxRecDepth 100000
set_option maxHeartbeats 2000000
def FromF (s : TSet) (k : Nat) (x : Sx) (out new : List (List Gp)) : Prop := ACall Tryz.prog 158 [I k, .ref 1 0 0 0, .ref 2 0 0 0, .ref 3 0 0 0, .ref 4 0 0 0, .ref 5 0 0 0, .ref 6 0 0 0, .ref 0 0 0 0] [(0, .arr 0 9 [eSet s]), (1, .arr 0 1 [.rsl 7 1 0 x.left.length]), (2, .arr 0 1 [B x.pd]), (3, .arr 0 1 [.rsl 9 x.go 0 out.length]), (4, .arr 0 1 [.rsl 8 x.gs 0 x.so.length]), (5, .arr 0 1 [fromC]), (6, .arr 0 1 [putC]), (7, .arr 1 1 (x.left.map I)), (8, .arr x.gs 3 ((x.so ++ x.junk).map eGp)), (9, .arr x.go 1 (out.map (eGps false)))]
 fun v hl => v = .tup [] ∧ ∃ (junk : List Gp) (gs go : Nat), hl = [(0, .arr 0 9 [eSet s]), (1, .arr 0 1 [.rsl 7 1 0 x.left.length]), (2, .arr 0 1 [B x.pd]), (3, .arr 0 1 [.rsl 9 go 0 (out.length + new.length)]), (4, .arr 0 1 [.rsl 8 gs 0 x.so.length]), (5, .arr 0 1 [fromC]), (6, .arr 0 1 [putC]), (7, .arr 1 1 (x.left.map I)), (8, .arr gs 3 ((x.so ++ junk).map eGp)), (9, .arr go 1 ((out ++ new).map (eGps false)))]
def OnF (s : TSet) (k : Nat) (x : Sx) (out new : List (List Gp)) : Prop := ACall Tryz.prog 160 [.ref 5 0 0 0, .ref 10 0 0 0] [(0, .arr 0 9 [eSet s]), (1, .arr 0 1 [.rsl 7 1 0 x.left.length]), (2, .arr 0 1 [B x.pd]), (3, .arr 0 1 [.rsl 9 x.go 0 out.length]), (4, .arr 0 1 [.rsl 8 x.gs 0 x.so.length]), (5, .arr 0 1 [fromC]), (6, .arr 0 1 [putC]), (7, .arr 1 1 (x.left.map I)), (8, .arr x.gs 3 ((x.so ++ x.junk).map eGp)), (9, .arr x.go 1 (out.map (eGps false))), (10, .arr 0 1 [I k])]
 fun v hl => v = .tup [] ∧ ∃ (junk : List Gp) (gs go : Nat), hl = [(0, .arr 0 9 [eSet s]), (1, .arr 0 1 [.rsl 7 1 0 x.left.length]), (2, .arr 0 1 [B x.pd]), (3, .arr 0 1 [.rsl 9 go 0 (out.length + new.length)]), (4, .arr 0 1 [.rsl 8 gs 0 x.so.length]), (5, .arr 0 1 [fromC]), (6, .arr 0 1 [putC]), (7, .arr 1 1 (x.left.map I)), (8, .arr gs 3 ((x.so ++ junk).map eGp)), (9, .arr go 1 ((out ++ new).map (eGps false))), (10, .arr 0 1 [I k])]
def PutF (s : TSet) (k : Nat) (g : Gp) (x : Sx) (out new : List (List Gp)) : Prop := ACall Tryz.prog 157 [eGp g, onC, .ref 0 0 0 0, .ref 1 0 0 0, .ref 4 0 0 0] [(0, .arr 0 9 [eSet s]), (1, .arr 0 1 [.rsl 7 1 0 x.left.length]), (2, .arr 0 1 [B x.pd]), (3, .arr 0 1 [.rsl 9 x.go 0 out.length]), (4, .arr 0 1 [.rsl 8 x.gs 0 x.so.length]), (5, .arr 0 1 [fromC]), (6, .arr 0 1 [putC]), (7, .arr 1 1 (x.left.map I)), (8, .arr x.gs 3 ((x.so ++ x.junk).map eGp)), (9, .arr x.go 1 (out.map (eGps false))), (10, .arr 0 1 [I k])]
 fun v hl => v = .tup [] ∧ ∃ (junk : List Gp) (gs go : Nat), hl = [(0, .arr 0 9 [eSet s]), (1, .arr 0 1 [.rsl 7 1 0 x.left.length]), (2, .arr 0 1 [B x.pd]), (3, .arr 0 1 [.rsl 9 go 0 (out.length + new.length)]), (4, .arr 0 1 [.rsl 8 gs 0 x.so.length]), (5, .arr 0 1 [fromC]), (6, .arr 0 1 [putC]), (7, .arr 1 1 (x.left.map I)), (8, .arr gs 3 ((x.so ++ junk).map eGp)), (9, .arr go 1 ((out ++ new).map (eGps false))), (10, .arr 0 1 [I k])]
set_option maxHeartbeats 2000000 in
theorem on_F (s : TSet) (k : Nat) (x : Sx) (out new : List (List Gp)) (h : FromF s k x out new) : OnF s k x out new := by
 unfold OnF
 unfold FromF at h
 refine acall_ofW (nx := 64) (ne := 11) tysGood (DD_ok tysGood mixed _) Tryz.func160 (by rfl) (by rfl) (by simp [Tryz.ntmps160]) (by simp) ?_; rw [Tryz.ntmps160]; let tb := ord_160; let lv := live_160
 (have fa := @fromC.eq_1; (repeat' first | refine zQ ?_ | (refine zN ?_; intro K hC hK) | ((repeat clear hJo hJU hJC Jo JU JC); (repeat (fail_if_success (refine hK _ ?_)); clear hK hC K); refine hK _ ?_; clear hK hC K) | (refine zC ?_ ?_ <;> intro hb) | (refine zK ?_; intro Jo JU JC hJo hJU hJC)) <;> (try clear fa))
 with_reducible apply CallW.obj [0, 1, 2, 3, 4, 5, 6, 7, 8, 9] h
 ·(have fa := @fromC.eq_1; first | exact zE0 | (refine zE ?_; try clear fa))
 ·(have fa := (And.intro @fromC.eq_1 @putC.eq_1); first | exact zE0 | (refine zE ?_; try clear fa))
 ·decide
 ·intro r hr; simp at hr; rcases hr with rfl | rfl | rfl | rfl | rfl | rfl | rfl | rfl | rfl | rfl <;> exact ⟨_, _, _, rfl⟩
 ·refine ⟨by (have fa := @fromC.eq_1; first | exact zE0 | (refine zE ?_; try clear fa)), ?_⟩
  intro r hr g sz es he
  simp at hr
  rcases hr with rfl | rfl | rfl | rfl | rfl | rfl | rfl | rfl | rfl | rfl
  all_goals
   injection he with h1 h2 h3
   subst h1 h2 h3
   first | rfl | ((have fa := (And.intro @fromC.eq_1 @putC.eq_1); first | exact zE0 | (refine zE ?_; try clear fa)); done) | ((have fa := (And.intro @fromC.eq_1 @putC.eq_1); first | exact zE0 | (refine zE ?_; try clear fa)); rfl)
 ·rintro v hl ⟨rfl, junk, gs, go, rfl⟩
  refine ⟨?_, ?_, ?_⟩
  ·exact ⟨by simp, by simp⟩
  ·intro p hp; simp at hp; rcases hp with rfl | rfl | rfl | rfl | rfl | rfl | rfl | rfl | rfl | rfl <;> intro h <;> simp at h
  ·(have fa := (And.intro @fromC.eq_1 @putC.eq_1); first | exact zE0 | (refine zE ?_; try clear fa))
   refine hJC _ _ _ ?_
   clear hJo hJU hJC Jo JU JC
   (have fa := zT; (repeat' first | refine zQ ?_ | (refine zN ?_; intro K hC hK) | ((repeat clear hJo hJU hJC Jo JU JC); (repeat (fail_if_success (refine hK _ ?_)); clear hK hC K); refine hK _ ?_; clear hK hC K) | (refine zC ?_ ?_ <;> intro hb) | (refine zK ?_; intro Jo JU JC hJo hJU hJC)) <;> (try clear fa))
   (repeat first | (with_reducible refine then_normal ?_) | (with_reducible refine block_normal ?_) | (with_reducible refine scope_normal ?_)); refine ⟨_, .rfl', .inl rfl, ?_, [(0, 0), (1, 1), (2, 2), (3, 3), (4, 4), (5, 5), (6, 6), (7, 7), (8, 8), (9, 9), (10, 10)], 2, ⟨by decide, by decide, by decide⟩, ?_⟩ <;> (have fa := zT; first | exact zE0 | (refine zE ?_; try clear fa))
   refine ⟨junk, gs, go, ?_⟩
   first | rfl | ((have fa := (And.intro @fromC.eq_1 @putC.eq_1); first | exact zE0 | (refine zE ?_; try clear fa)); done) | ((have fa := (And.intro @fromC.eq_1 @putC.eq_1); first | exact zE0 | (refine zE ?_; try clear fa)); rfl)
set_option maxHeartbeats 4000000 in
theorem put_F (s : TSet) (k : Nat) (g : Gp) (x : Sx) (out new : List (List Gp)) (hv : chkErr s = 0) (hg : grpErr s g.wh g.kd = 0) (hk : InB x.left.length (tilesL g.wh g.kd)) (hX : ∀ i, -1000 ≤ x.left.getD i 0 ∧ x.left.getD i 0 ≤ 1000) (hl : x.left.length ≤ 1000000) (hso : x.so.length ≤ 1000000)
  (h : ∀ gs, OnF s k ⟨decL x.left (tilesL g.wh g.kd), x.pd, x.so ++ [g], [], gs, x.go⟩ out new) : PutF s k g x out new := by
 have CT := says_Tiles s g
 have et : tilesI s g.wh g.kd = tilesL g.wh g.kd := by unfold tilesI; rw [if_pos ⟨hv, hg⟩]
 rw [et] at CT
 have hks := tilesL_len g.wh g.kd
 obtain ⟨ks, hke⟩ : ∃ ks, tilesL g.wh g.kd = ks := ⟨_, rfl⟩
 rw [hke] at CT hk hks h
 clear et hke hg
 unfold PutF onC
 refine acall_ofW (nx := 64) (ne := 11) tysGood (DD_ok tysGood mixed _) Tryz.func157 (by rfl) (by rfl) (by simp [Tryz.ntmps157]) (by simp) ?_; rw [Tryz.ntmps157]; let tb := ord_157; let lv := live_157
 (have fa := zT; (repeat' first | refine zS (CT) ?_ | refine zQ ?_ | (refine zN ?_; intro K hC hK) | ((repeat clear hJo hJU hJC Jo JU JC); (repeat (fail_if_success (refine hK _ ?_)); clear hK hC K); refine hK _ ?_; clear hK hC K) | (refine zC ?_ ?_ <;> intro hb) | (refine zK ?_; intro Jo JU JC hJo hJU hJC)) <;> (try clear fa))
 refine AW_forC ks.length (fun j σ => σ = ⟨900, [(1, .clo 160 [.ref 5 0 0 0, .ref 10 0 0 0]), (3, .ref 1 0 0 0), (4, .ref 4 0 0 0), (5, .ref 12 0 0 0), (7, eInts true ks), (15, eInts true ks), (16, I ks.length), (17, I j)], [(0, .arr 0 9 [eSet s]), (1, .arr 0 1 [.rsl 7 1 0 x.left.length]), (2, .arr 0 1 [B x.pd]), (3, .arr 0 1 [.rsl 9 x.go 0 out.length]), (4, .arr 0 1 [.rsl 8 x.gs 0 x.so.length]), (5, .arr 0 1 [fromC]), (6, .arr 0 1 [putC]), (7, .arr 1 1 ((decL x.left (ks.take j)).map I)), (8, .arr x.gs 3 ((x.so ++ x.junk).map eGp)), (9, .arr x.go 1 (out.map (eGps false))), (10, .arr 0 1 [I k]), (12, .arr 0 3 [eGp g])]⟩) [(0, 0), (1, 1), (2, 2), (3, 3), (4, 4), (5, 5), (6, 6), (7, 7), (8, 8), (9, 9), (10, 10), (64, 12)] [(0, 0), (1, 1), (2, 2), (3, 3), (4, 4), (5, 5), (6, 6), (7, 7), (8, 8), (9, 9), (10, 10), (12, 12)] 0 [1, 3, 4, 5, 7, 15, 16, 17] 900 (⟨by decide, by decide, by decide⟩) (⟨by decide, by decide, by decide⟩) (by (have fa := (And.intro @fromC.eq_1 (And.intro @putC.eq_1 (And.intro @decL.eq_1 (And.intro @List.take_zero.{0} @List.foldl_nil.{0, 0})))); exact zV)) ?_
 rintro j σ' hj rfl J hcJ hJ
 by_cases hlt : j < ks.length
 ·obtain ⟨z, hz⟩ : ∃ z, ks[j] = z := ⟨_, rfl⟩
  have hin := hk z (by rw [← hz]; exact List.getElem_mem hlt)
  have ht := decL_take x.left ks hlt
  have hXl := decL_len (ks.take j) x.left
  have hXb : ∀ i, -1000000000 ≤ (decL x.left (ks.take j)).getD i 0 ∧ (decL x.left (ks.take j)).getD i 0 ≤ 1000000000 := fun i => by
   rw [decL_get _ _ (fun y hy => hk y (List.mem_of_mem_take hy))]
   have h1 := cntI_le (ks.take j) i
   have h2 := cntI_nonneg (ks.take j) i
   have h3 := hX i
   simp at h1; omega
  obtain ⟨X, hXe⟩ : ∃ X, decL x.left (ks.take j) = X := ⟨_, rfl⟩
  rw [hXe, hz] at ht
  rw [hXe] at hXl hXb
  obtain ⟨d1, d2, d3⟩ := decAt (X := X) hin.1 (by omega) hXb
  obtain ⟨Y, hY⟩ : ∃ Y, dec1 X z = Y := ⟨_, rfl⟩
  rw [hY] at ht d3
  rw [hXe] at *
  (have fa := (And.intro hz (And.intro d2 d3)); (repeat' first | refine zQ ?_ | (refine zN ?_; intro K hC hK) | ((repeat clear hJo hJU hJC Jo JU JC); (repeat (fail_if_success (refine hK _ ?_)); clear hK hC K); refine hK _ ?_; clear hK hC K) | (refine zC ?_ ?_ <;> intro hb) | (refine zK ?_; intro Jo JU JC hJo hJU hJC)) <;> (try clear fa))
  exact hJ _ hlt (by (have fa := (And.intro @fromC.eq_1 (And.intro @putC.eq_1 ht)); exact zV))
 ·obtain rfl : j = ks.length := by omega
  rw [List.take_length]
  have hid := inc_dec hk
  have hXl := decL_len ks x.left
  have h := h
  obtain ⟨X, hXe⟩ : ∃ X, decL x.left ks = X := ⟨_, rfl⟩
  have hXb0 : ∀ i, -1004 ≤ X.getD i 0 ∧ X.getD i 0 ≤ 1004 := fun i => by
   rw [← hXe, decL_get _ _ hk]
   have h1 := cntI_le ks i
   have h2 := cntI_nonneg ks i
   have h3 := hX i
   omega
  rw [hXe] at hid hXl h ⊢
  have h1 : (x.so ++ x.junk).take x.so.length = x.so := by simp
  have h2 : x.so.length ≤ (x.so ++ x.junk).length := by simp
  unfold OnF at h
  simp only [List.append_nil, hXl, List.length_append, List.length_singleton] at h
  (have fa := h1; (repeat' first | refine zQ ?_ | (refine zN ?_; intro K hC hK) | ((repeat clear hJo hJU hJC Jo JU JC); (repeat (fail_if_success (refine hK _ ?_)); clear hK hC K); refine hK _ ?_; clear hK hC K) | (refine zC ?_ ?_ <;> intro hb) | (refine zK ?_; intro Jo JU JC hJo hJU hJC)) <;> (try clear fa))
  with_reducible apply CallW.obj [0, 1, 2, 3, 4, 5, 6, 7, 8, 9, 10] (h (x.gs + 1))
  ·(have fa := (And.intro @fromC.eq_1 @putC.eq_1); first | exact zE0 | (refine zE ?_; try clear fa))
  ·(have fa := (And.intro @fromC.eq_1 @putC.eq_1); first | exact zE0 | (refine zE ?_; try clear fa))
  ·decide
  ·intro r hr; simp at hr; rcases hr with rfl | rfl | rfl | rfl | rfl | rfl | rfl | rfl | rfl | rfl | rfl <;> exact ⟨_, _, _, rfl⟩
  ·refine ⟨by (have fa := @fromC.eq_1; first | exact zE0 | (refine zE ?_; try clear fa)), ?_⟩
   intro r hr g sz es he
   simp at hr
   rcases hr with rfl | rfl | rfl | rfl | rfl | rfl | rfl | rfl | rfl | rfl | rfl
   all_goals
    injection he with h1 h2 h3
    subst h1 h2 h3
    first | rfl | ((have fa := (And.intro @fromC.eq_1 @putC.eq_1); first | exact zE0 | (refine zE ?_; try clear fa)); done) | ((have fa := (And.intro @fromC.eq_1 @putC.eq_1); first | exact zE0 | (refine zE ?_; try clear fa)); rfl)
  ·rintro v hl ⟨rfl, junk, gs, go, rfl⟩
   refine ⟨?_, ?_, ?_⟩
   ·exact ⟨by simp, by simp⟩
   ·intro p hp; simp at hp; rcases hp with rfl | rfl | rfl | rfl | rfl | rfl | rfl | rfl | rfl | rfl | rfl <;> intro h <;> simp at h
   ·(have fa := (And.intro @fromC.eq_1 @putC.eq_1); first | exact zE0 | (refine zE ?_; try clear fa))
    refine hJC _ _ _ ?_
    clear hJo hJU hJC Jo JU JC hJ hcJ J
    have e9 : ∀ q : List Gp, x.so ++ [g] ++ q = x.so ++ (g :: q) := fun q => by simp
    have e10 : ((((x.so.length + 1 : Nat) : Int) - 1 - 0).toNat) = x.so.length := by omega
    rw [e9]
    (have fa := e10; (repeat' first | refine zQ ?_ | (refine zN ?_; intro K hC hK) | ((repeat clear hJo hJU hJC Jo JU JC); (repeat (fail_if_success (refine hK _ ?_)); clear hK hC K); refine hK _ ?_; clear hK hC K) | (refine zC ?_ ?_ <;> intro hb) | (refine zK ?_; intro Jo JU JC hJo hJU hJC)) <;> (try clear fa))
    refine AW_forC ks.length (fun j σ => σ = ⟨1900, [(3, .ref 1 0 0 0), (39, eInts true ks), (40, I ks.length), (41, I j)], [(0, .arr 0 9 [eSet s]), (1, .arr 0 1 [.rsl 7 1 0 x.left.length]), (2, .arr 0 1 [B x.pd]), (3, .arr 0 1 [.rsl 9 go 0 (out.length + new.length)]), (4, .arr 0 1 [.rsl 8 gs 0 x.so.length]), (5, .arr 0 1 [fromC]), (6, .arr 0 1 [putC]), (7, .arr 1 1 ((incL X (ks.take j)).map I)), (8, .arr gs 3 ((x.so ++ (g :: junk)).map eGp)), (9, .arr go 1 ((out ++ new).map (eGps false))), (10, .arr 0 1 [I k]), (12, .arr 0 3 [eGp g])]⟩) [(0, 0), (1, 1), (2, 2), (3, 3), (4, 4), (5, 5), (6, 6), (7, 7), (8, 8), (9, 9), (10, 10), (12, 12)] [(0, 0), (1, 1), (2, 2), (3, 3), (4, 4), (5, 5), (6, 6), (7, 7), (8, 8), (9, 9), (10, 10), (12, 12)] 0 [3, 39, 40, 41] 1900 (⟨by decide, by decide, by decide⟩) (⟨by decide, by decide, by decide⟩) (by (have fa := (And.intro @fromC.eq_1 (And.intro @putC.eq_1 (And.intro @incL.eq_1 (And.intro @List.take_zero.{0} @List.foldl_nil.{0, 0})))); exact zV)) ?_
    rintro j σ' hj rfl J hcJ hJ
    by_cases hlt : j < ks.length
    ·obtain ⟨z, hz⟩ : ∃ z, ks[j] = z := ⟨_, rfl⟩
     have hk' : InB X.length ks := by rw [hXl]; exact hk
     have hin := hk' z (by rw [← hz]; exact List.getElem_mem hlt)
     have ht := incL_take X ks hlt
     have hYl := incL_len (ks.take j) X
     have hYb : ∀ i, -1000000000 ≤ (incL X (ks.take j)).getD i 0 ∧ (incL X (ks.take j)).getD i 0 ≤ 1000000000 := fun i => by
      rw [incL_get _ _ (fun y hy => hk' y (List.mem_of_mem_take hy))]
      have h1 := cntI_le (ks.take j) i
      have h2 := cntI_nonneg (ks.take j) i
      have h3 := hXb0 i
      simp at h1; omega
     obtain ⟨Y, hYe⟩ : ∃ Y, incL X (ks.take j) = Y := ⟨_, rfl⟩
     rw [hYe, hz] at ht
     rw [hYe] at hYl hYb
     have A := incAt (X := Y) (z := z) hin.1 (by omega) hYb
     have a1 := A.lt
     have a2 := A.up
     have a3 := A.st
     rw [hYe] at *
     (have fa := (And.intro hz (And.intro a2 a3)); (repeat' first | refine zQ ?_ | (refine zN ?_; intro K hC hK) | ((repeat clear hJo hJU hJC Jo JU JC); (repeat (fail_if_success (refine hK _ ?_)); clear hK hC K); refine hK _ ?_; clear hK hC K) | (refine zC ?_ ?_ <;> intro hb) | (refine zK ?_; intro Jo JU JC hJo hJU hJC)) <;> (try clear fa))
     exact hJ _ hlt (by (have fa := (And.intro @fromC.eq_1 (And.intro @putC.eq_1 ht)); exact zV))
    ·obtain rfl : j = ks.length := by omega
     rw [List.take_length, hid]
     (have fa := zT; (repeat' first | refine zQ ?_ | (refine zN ?_; intro K hC hK) | ((repeat clear hJo hJU hJC Jo JU JC); (repeat (fail_if_success (refine hK _ ?_)); clear hK hC K); refine hK _ ?_; clear hK hC K) | (refine zC ?_ ?_ <;> intro hb) | (refine zK ?_; intro Jo JU JC hJo hJU hJC)) <;> (try clear fa))
     (repeat first | (with_reducible refine then_normal ?_) | (with_reducible refine block_normal ?_) | (with_reducible refine scope_normal ?_)); refine ⟨_, .rfl', .inl rfl, ?_, [(0, 0), (1, 1), (2, 2), (3, 3), (4, 4), (5, 5), (6, 6), (7, 7), (8, 8), (9, 9), (10, 10)], 2, ⟨by decide, by decide, by decide⟩, ?_⟩ <;> (have fa := zT; first | exact zE0 | (refine zE ?_; try clear fa))
     exact ⟨g :: junk, gs, go, by first | rfl | ((have fa := (And.intro @fromC.eq_1 @putC.eq_1); first | exact zE0 | (refine zE ?_; try clear fa)); done) | ((have fa := (And.intro @fromC.eq_1 @putC.eq_1); first | exact zE0 | (refine zE ?_; try clear fa)); rfl)⟩
end Go.Proofs.YthblfhgofopcaaaGreat

namespace Go.Proofs.YthblfhgofopcaaaGreat
open Go.RowKit
set_option maxRecDepth 100000
set_option maxHeartbeats 2000000
theorem obj_sortG (g : Nat) (l : List Gp) (h0 : 0 < l.length) (h1 : l.length ≤ 1000000) (hc : Cl l) : AObj Tryz.prog 177 [.rsl 0 g 0 l.length, .clo 178 []] [(0, .arr g 3 (l.map eGp))] (.v (.tuple #[])) [(0, .arr g 3 ((sortG l).map eGp))] := by
 refine acall_mono (own_sortG g l h0 h1) ?_
 rintro x hl ⟨rfl, l', hp, hs, rfl⟩
 have : l' = sortG l := sortG_eq hp hs fun g hg => hc g hg
 rw [this]; exact ⟨rfl, rfl⟩
theorem own_ordered (l : List Gp) (h0 : 0 < l.length) (h1 : l.length ≤ 1000000) (hc : Cl l) : AOwn Tryz.prog 159 [eGps false l] (.rsl 0 1 0 l.length) [(0, .arr 1 3 ((sortG l).map eGp))] := by
 have CO := own_clone_gps l h1
 have CS := obj_sortG 1 l h0 h1 hc
 refine acall_ofW (nx := 0) (ne := 0) tysGood (DD_ok tysGood mixed _) Tryz.func159 (by rfl) (by rfl) (by simp [Tryz.ntmps159]) (fun p hp => by cases hp) ?_; rw [Tryz.ntmps159]; let tb := ord_159; let lv := live_159
 (have fa := zT; (repeat' first | refine zO (CO) ?_ | refine zJ (tg [32]) (CS) ?_ | refine zQ ?_ | (refine zN ?_; intro K hC hK) | ((repeat clear hJo hJU hJC Jo JU JC); (repeat (fail_if_success (refine hK _ ?_)); clear hK hC K); refine hK _ ?_; clear hK hC K) | (refine zC ?_ ?_ <;> intro hb) | (refine zK ?_; intro Jo JU JC hJo hJU hJC)) <;> (try clear fa))
 refine AW_ret ?_; refine zU ?_; refine ⟨_, .rfl', .inr rfl, ?_, [(32, 0)], 2, finOk0 (by decide) (by decide), ?_⟩ <;> (have fa := zT; first | exact zE0 | (refine zE ?_; try clear fa))
theorem says_ordered (l : List Gp) (h0 : 0 < l.length) (h1 : l.length ≤ 1000000) (hc : Cl l) : ASays Tryz.prog 159 [eGps false l] (eGps true (sortG l)) := by
 have CO := own_clone_gps l h1
 have CS := obj_sortG 1 l h0 h1 hc
 have hl : (sortG l).length = l.length := (sortG_perm l).length_eq
 have hT : (sortG l).take l.length = sortG l := by rw [← hl, List.take_length]
 have hL : l.length ≤ (sortG l).length := by omega
 refine acall_ofW (nx := 0) (ne := 0) tysGood (DD_ok tysGood mixed _) Tryz.func159 (by rfl) (by rfl) (by simp [Tryz.ntmps159]) (fun p hp => by cases hp) ?_; rw [Tryz.ntmps159]; let tb := ord_159; let lv := live_159
 (have fa := zT; (repeat' first | refine zO (CO) ?_ | refine zJ (tg [32]) (CS) ?_ | refine zQ ?_ | (refine zN ?_; intro K hC hK) | ((repeat clear hJo hJU hJC Jo JU JC); (repeat (fail_if_success (refine hK _ ?_)); clear hK hC K); refine hK _ ?_; clear hK hC K) | (refine zC ?_ ?_ <;> intro hb) | (refine zK ?_; intro Jo JU JC hJo hJU hJC)) <;> (try clear fa))
 refine AW_ret ?_; refine zU ?_; refine ⟨_, .rfl', .inr rfl, ?_, [], 2, finOk_nil, ?_⟩ <;> (have fa := (And.intro hT hL); first | exact zE0 | (refine zE ?_; try clear fa))
end Go.Proofs.YthblfhgofopcaaaGreat
