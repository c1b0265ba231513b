/-
  Parts of the proof: Tl, Rep, Tiles, Gps, Sum, Enc, SplA.
-/
import Derived.Test.YthblfhgofopcaaaGreatSP21
import Derived.Laws.CopyOwn
import Derived.Test.YthblfhgofopcaaaGreatSP17
import Derived.Test.YthblfhgofopcaaaGreatSP13
set_option linter.all false
namespace Go.Proofs.YthblfhgofopcaaaGreat
open Go.RowKit
theorem kinds_le {s : TSet} (h : chkErr s = 0) : kindsI s ≤ 60 := by
 have := (valid_of h).plain
 unfold kindsI
 rw [if_pos h]
 omega
end Go.Proofs.YthblfhgofopcaaaGreat

namespace Go.Proofs.YthblfhgofopcaaaGreat
open Go.RowKit
end Go.Proofs.YthblfhgofopcaaaGreat

namespace Go.Proofs.YthblfhgofopcaaaGreat
open Go.RowKit
end Go.Proofs.YthblfhgofopcaaaGreat

namespace Go.Proofs.YthblfhgofopcaaaGreat
open Go.RowKit
structure Hd where
 bag : List Int
 me : List Gp
def meldErr (s : TSet) (g : Gp) : Int := if 3 < g.wh then 4 else if grpErr s g.wh g.kd ≠ 0 then grpErr s g.wh g.kd else if g.wh ≠ 3 ∧ g.op = false then 3 else 0
theorem rcheckMeld_any (v : Value) (s : TSet) (a k : Int) (o : Bool) (w : World) (h : IsSet w v s) : Calls Tryz.prog 119 #[v, .agg #[.int .i64 a, .int .i64 k, .bool o]] w (Gives w (.int .i64 (meldErr s ⟨a, k, o⟩))) := by
 have CG := fun W (hg : Grow w W) => rcheckGroup_any v s a k o W (h.grow hg)
 have hfin : ∀ r wf, meldErr s ⟨a, k, o⟩ = r → Grow w wf → Gives w (.int .i64 (meldErr s ⟨a, k, o⟩)) (.returned (.int .i64 r)) wf := fun r wf h hg => ⟨by rw [h], hg⟩
 have HF := hid hfin
 clear hfin
 have HI := hid h
 obtain ⟨A, c, B, d, rfl, h1, h2⟩ := h.open_
 obtain ⟨_, _, e1, c1, m1, r1⟩ := h1
 obtain ⟨_, _, e2, d1, m2, r2⟩ := h2
 injection e1 with e1 _ e1'
 injection e2 with e2 _ e2'
 subst e1 e1' e2 e2'
 unfold maxLen at m1 m2
 have HG0 := hid (show Grow w (w.alloc (.cells #[.int .i64 s.pl, .slice A s.su.length c, .int .i64 s.wi, .int .i64 s.dr, .int .i64 s.fl, .int .i64 s.co, .int .i64 s.me, .int .i64 s.de, .slice B s.re.length d] 24)) from (Grow.refl w).alloc _)
 have HB0 := hid (show Blk (w.alloc (.cells #[.int .i64 s.pl, .slice A s.su.length c, .int .i64 s.wi, .int .i64 s.dr, .int .i64 s.fl, .int .i64 s.co, .int .i64 s.me, .int .i64 s.de, .slice B s.re.length d] 24)) w.heap.size 24 (setVals s (.slice A s.su.length c) (.slice B s.re.length d)) from heap_alloc_new w _)
 clear h
 have HG1 := hid (HG0.out.alloc (.cells #[.int .i64 a, .int .i64 k, .bool o] 72))
 have HB1 := hid (HB0.out.grow ((Grow.refl _).alloc (.cells #[.int .i64 a, .int .i64 k, .bool o] 72)))
 have HC := hid (show Blk ((w.alloc (.cells #[.int .i64 s.pl, .slice A s.su.length c, .int .i64 s.wi, .int .i64 s.dr, .int .i64 s.fl, .int .i64 s.co, .int .i64 s.me, .int .i64 s.de, .slice B s.re.length d] 24)).alloc (.cells #[.int .i64 a, .int .i64 k, .bool o] 72)) (w.heap.size + 1) 72 [.int .i64 a, .int .i64 k, .bool o] from Blk.new_at (w := w.alloc (.cells #[.int .i64 s.pl, .slice A s.su.length c, .int .i64 s.wi, .int .i64 s.dr, .int .i64 s.fl, .int .i64 s.co, .int .i64 s.me, .int .i64 s.de, .slice B s.re.length d] 24)) (xs := [.int .i64 a, .int .i64 k, .bool o]) (by simp))
 by_cases h3 : 3 < a
 ·have HE := hid (show meldErr s ⟨a, k, o⟩ = 4 by unfold meldErr; rw [if_pos h3])
  clear CG
  go_enter Tryz.func119, Tryz.ntmps119
  go_wp2
  go_ret
  exact HF.out _ _ HE.out HG1.out
 ·by_cases he : grpErr s a k = 0
  ·rw [he] at CG
   have CG := hid CG
   have HE := hid (show ∀ r, (if a ≠ 3 ∧ o = false then (3 : Int) else 0) = r → meldErr s ⟨a, k, o⟩ = r from fun r hr => by unfold meldErr; rw [if_neg h3, if_neg (by simpa using he)]; exact hr)
   clear he
   by_cases ha : a = 3
   ·subst ha
    have HE := hid (HE.out 0 (if_neg (fun h => h.1 rfl)))
    go_enter Tryz.func119, Tryz.ntmps119
    go_wp2_with fail
    refine (CG.out _ HG1.out).mono ?_
    rintro e w1 ⟨rfl, g1⟩
    have d0 := (HC.out.grow g1).cell 0
    have d2 := (HC.out.grow g1).cell 2
    go_wp2
    go_ret
    exact HF.out _ _ HE.out (HG1.out.trans g1)
   ·have na : (a != 3) = true := by simp [ha]
    cases o
    ·have HX := hid (HE.out 3 (if_pos ⟨ha, rfl⟩))
     clear HE
     go_enter Tryz.func119, Tryz.ntmps119
     go_wp2_with fail
     refine (CG.out _ HG1.out).mono ?_
     rintro e w1 ⟨rfl, g1⟩
     have d0 := (HC.out.grow g1).cell 0
     have d2 := (HC.out.grow g1).cell 2
     go_wp2
     go_ret
     exact HF.out _ _ HX.out (HG1.out.trans g1)
    ·have HE := hid (HE.out 0 (if_neg (fun h => by cases h.2)))
     go_enter Tryz.func119, Tryz.ntmps119
     go_wp2_with fail
     refine (CG.out _ HG1.out).mono ?_
     rintro e w1 ⟨rfl, g1⟩
     have d0 := (HC.out.grow g1).cell 0
     have d2 := (HC.out.grow g1).cell 2
     go_wp2
     go_ret
     exact HF.out _ _ HE.out (HG1.out.trans g1)
  ·have HE := hid (show meldErr s ⟨a, k, o⟩ = grpErr s a k by unfold meldErr; rw [if_neg h3, if_pos he])
   have ne : (grpErr s a k != 0) = true := by simp [he]
   have CG := hid CG
   clear he
   generalize grpErr s a k = n at *
   go_enter Tryz.func119, Tryz.ntmps119
   go_wp2_with fail
   refine (CG.out _ HG1.out).mono ?_
   rintro e w1 ⟨rfl, g1⟩
   go_wp2
   go_ret
   exact HF.out _ _ HE.out (HG1.out.trans g1)
end Go.Proofs.YthblfhgofopcaaaGreat

namespace Go.Proofs.YthblfhgofopcaaaGreat
open Go.RowKit
end Go.Proofs.YthblfhgofopcaaaGreat

namespace Go.Proofs.YthblfhgofopcaaaGreat
open Go.RowKit
def eSet (s : TSet) : AV := .agg [I s.pl, eInts false s.su, I s.wi, I s.dr, I s.fl, I s.co, I s.me, I s.de, eInts false s.re]
def eGp (g : Gp) : AV := .agg [I g.wh, I g.kd, B g.op]
abbrev eGps (f : Bool) (l : List Gp) : AV := .sl f 3 (l.map eGp)
def eHd (f : Bool) (h : Hd) : AV := .agg [eInts f h.bag, eGps f h.me]
structure Fm where
 wh : Int
 ks : List Int
 ag : Bool
def eFm (f : Bool) (m : Fm) : AV := .agg [I m.wh, eInts f m.ks, B m.ag]
abbrev eFms (f : Bool) (l : List Fm) : AV := .sl f 3 (l.map (eFm f))
structure Rg where
 fm : Int
 gs : List Gp
 at_ : Int
def eRg (f : Bool) (r : Rg) : AV := .agg [I r.fm, eGps f r.gs, I r.at_]
abbrev eRgs (f : Bool) (l : List Rg) : AV := .sl f 3 (l.map (eRg f))
abbrev eLL (f : Bool) (l : List (List Gp)) : AV := .sl f 1 (l.map (eGps f))
@[go_sem] theorem cs_eSet (s : TSet) : (eSet s).cs = [I s.pl, eInts false s.su, I s.wi, I s.dr, I s.fl, I s.co, I s.me, I s.de, eInts false s.re] := rfl
@[go_sem] theorem aggB_eSet (s : TSet) : aggB (eSet s) = true := rfl
@[go_sem] theorem boxable_eSet (s : TSet) : boxable (eSet s) = true := rfl
@[go_sem] theorem cs_eGp (g : Gp) : (eGp g).cs = [I g.wh, I g.kd, B g.op] := rfl
@[go_sem] theorem aggB_eGp (g : Gp) : aggB (eGp g) = true := rfl
@[go_sem] theorem boxable_eGp (g : Gp) : boxable (eGp g) = true := rfl
@[go_sem] theorem cs_eHd (f : Bool) (h : Hd) : (eHd f h).cs = [eInts f h.bag, eGps f h.me] := rfl
@[go_sem] theorem aggB_eHd (f : Bool) (h : Hd) : aggB (eHd f h) = true := rfl
@[go_sem] theorem boxable_eHd (f : Bool) (h : Hd) : boxable (eHd f h) = true := rfl
@[go_sem] theorem cs_eFm (f : Bool) (m : Fm) : (eFm f m).cs = [I m.wh, eInts f m.ks, B m.ag] := rfl
@[go_sem] theorem aggB_eFm (f : Bool) (m : Fm) : aggB (eFm f m) = true := rfl
@[go_sem] theorem boxable_eFm (f : Bool) (m : Fm) : boxable (eFm f m) = true := rfl
@[go_sem] theorem cs_eRg (f : Bool) (r : Rg) : (eRg f r).cs = [I r.fm, eGps f r.gs, I r.at_] := rfl
@[go_sem] theorem aggB_eRg (f : Bool) (r : Rg) : aggB (eRg f r) = true := rfl
@[go_sem] theorem boxable_eRg (f : Bool) (r : Rg) : boxable (eRg f r) = true := rfl
section
variable {inv : Nat → Option Nat} {h : HF} {F : Nat → Nat → Nat → Nat → AV} {q : Nat → Nat} {r : Nat} {f : Bool}
@[go_sem] theorem pass_eSet (s : TSet) : (eSet s).pass inv h = eSet s := by simp only [eSet, AV.pass, passL, passL_I]
@[go_sem] theorem fin_eSet (s : TSet) : (eSet s).fin inv F = eSet s := by simp only [eSet, AV.fin, finL, finL_I]
@[go_sem] theorem ren_eSet (s : TSet) : (eSet s).ren q = eSet s := by simp only [eSet, AV.ren, renL, renL_I]
@[go_sem] theorem nob_eSet (s : TSet) : (eSet s).nob inv = true := by simp only [eSet, AV.nob, nobL, nobL_I]; rfl
@[go_sem] theorem away_eSet (s : TSet) : (eSet s).away r = true := by simp only [eSet, AV.away, awayL, awayL_I]; rfl
@[go_sem] theorem pass_eGp (g : Gp) : (eGp g).pass inv h = eGp g := rfl
@[go_sem] theorem fin_eGp (g : Gp) : (eGp g).fin inv F = eGp g := rfl
@[go_sem] theorem low_eGp (g : Gp) : (eGp g).low = eGp g := rfl
@[go_sem] theorem ren_eGp (g : Gp) : (eGp g).ren q = eGp g := rfl
@[go_sem] theorem nob_eGp (g : Gp) : (eGp g).nob inv = true := rfl
@[go_sem] theorem allT_eGp (g : Gp) : (eGp g).allT = true := rfl
@[go_sem] theorem away_eGp (g : Gp) : (eGp g).away r = true := rfl
@[go_sem] theorem passL_eGp (l : List Gp) : passL inv h (l.map eGp) = l.map eGp := passL_enc (fun _ => rfl) l
@[go_sem] theorem finL_eGp (l : List Gp) : finL inv F (l.map eGp) = l.map eGp := finL_enc (fun _ => rfl) l
@[go_sem] theorem lowL_eGp (l : List Gp) : lowL (l.map eGp) = l.map eGp := lowL_enc (fun _ => rfl) l
@[go_sem] theorem renL_eGp (l : List Gp) : renL q (l.map eGp) = l.map eGp := renL_enc (fun _ => rfl) l
@[go_sem] theorem nobL_eGp (l : List Gp) : nobL inv (l.map eGp) = true := nobL_enc (fun _ => rfl) l
@[go_sem] theorem allTL_eGp (l : List Gp) : allTL (l.map eGp) = true := allTL_enc (fun _ => rfl) l
@[go_sem] theorem awayL_eGp (l : List Gp) : awayL r (l.map eGp) = true := awayL_enc (fun _ => rfl) l
@[go_sem] theorem one_eGp (l : List Gp) : (∀ u ∈ l.map eGp, ∀ v ∈ u.cs, v.one = true) = True := one_map (fun x v hv => by simp [AV.cs, eGp] at hv; rcases hv with rfl | rfl | rfl <;> rfl) l
@[go_sem] theorem pass_eFm (m : Fm) : (eFm f m).pass inv h = eFm false m := by simp only [eFm, AV.pass, passL, passL_I]
@[go_sem] theorem fin_eFm (m : Fm) : (eFm f m).fin inv F = eFm f m := by simp only [eFm, AV.fin, finL, finL_I]
@[go_sem] theorem ren_eFm (m : Fm) : (eFm f m).ren q = eFm f m := by simp only [eFm, AV.ren, renL, renL_I]
@[go_sem] theorem passL_eFm (l : List Fm) : passL inv h (l.map (eFm f)) = l.map (eFm false) := passL_enc pass_eFm l
@[go_sem] theorem finL_eFm (l : List Fm) : finL inv F (l.map (eFm f)) = l.map (eFm f) := finL_enc fin_eFm l
@[go_sem] theorem renL_eFm (l : List Fm) : renL q (l.map (eFm f)) = l.map (eFm f) := renL_enc ren_eFm l
@[go_sem] theorem nobL_eFm (l : List Fm) : nobL inv (l.map (eFm f)) = true := nobL_enc (fun m => by simp only [eFm, AV.nob, nobL, nobL_I]; rfl) l
@[go_sem] theorem awayL_eFm (l : List Fm) : awayL r (l.map (eFm f)) = true := awayL_enc (fun m => by simp only [eFm, AV.away, awayL, awayL_I]; rfl) l
@[go_sem] theorem fin_eRg (m : Rg) : (eRg f m).fin inv F = eRg f m := by simp only [eRg, AV.fin, finL, finL_eGp]
@[go_sem] theorem low_eRg (m : Rg) : (eRg f m).low = eRg false m := by simp only [eRg, AV.low, lowL, lowL_eGp]
@[go_sem] theorem finL_eRg (l : List Rg) : finL inv F (l.map (eRg f)) = l.map (eRg f) := finL_enc fin_eRg l
@[go_sem] theorem lowL_eRg (l : List Rg) : lowL (l.map (eRg f)) = l.map (eRg false) := lowL_enc low_eRg l
@[go_sem] theorem nob_eFm (m : Fm) : (eFm f m).nob inv = true := by simp only [eFm, AV.nob, nobL, nobL_I]; rfl
@[go_sem] theorem away_eFm (m : Fm) : (eFm f m).away r = true := by simp only [eFm, AV.away, awayL, awayL_I]; rfl
@[go_sem] theorem pass_eHd (m : Hd) : (eHd f m).pass inv h = eHd false m := by simp only [eHd, AV.pass, passL, passL_I, passL_eGp]
@[go_sem] theorem fin_eHd (m : Hd) : (eHd f m).fin inv F = eHd f m := by simp only [eHd, AV.fin, finL, finL_I, finL_eGp]
@[go_sem] theorem ren_eHd (m : Hd) : (eHd f m).ren q = eHd f m := by simp only [eHd, AV.ren, renL, renL_I, renL_eGp]
@[go_sem] theorem nob_eHd (m : Hd) : (eHd f m).nob inv = true := by simp only [eHd, AV.nob, nobL, nobL_I, nobL_eGp]; rfl
@[go_sem] theorem away_eHd (m : Hd) : (eHd f m).away r = true := by simp only [eHd, AV.away, awayL, awayL_I, awayL_eGp]; rfl
@[go_sem] theorem passL_eGps (l : List (List Gp)) : passL inv h (l.map (fun g => eGps f g)) = l.map (fun g => eGps false g) := passL_enc (fun m => by simp only [AV.pass, passL_eGp]) l
@[go_sem] theorem finL_eGps (l : List (List Gp)) : finL inv F (l.map (fun g => eGps f g)) = l.map (fun g => eGps f g) := finL_enc (fun m => by simp only [AV.fin, finL_eGp]) l
@[go_sem] theorem lowL_eGps (l : List (List Gp)) : lowL (l.map (fun g => eGps f g)) = l.map (fun g => eGps false g) := lowL_enc (fun m => by simp only [AV.low, lowL_eGp]) l
@[go_sem] theorem renL_eGps (l : List (List Gp)) : renL q (l.map (fun g => eGps f g)) = l.map (fun g => eGps f g) := renL_enc (fun m => by simp only [AV.ren, renL_eGp]) l
@[go_sem] theorem nobL_eGps (l : List (List Gp)) : nobL inv (l.map (fun g => eGps f g)) = true := nobL_enc (fun m => by simp only [AV.nob, nobL_eGp]) l
@[go_sem] theorem awayL_eGps (l : List (List Gp)) : awayL r (l.map (fun g => eGps f g)) = true := awayL_enc (fun m => by simp only [AV.away, awayL_eGp]) l
end
section
variable {c : Cx} {h : HF}
theorem rel_sl {f : Bool} {sz : Nat} {es : List AV} {y : Value} (k : RelV c h (.sl f sz es) y) : ∃ A n cap, y = .slice A n cap ∧ n = es.length ∧ n ≤ cap ∧ cap ≤ maxLen ∧ ∀ (i : Nat) (e : AV), es[i]? = some e → ∃ b o, A = some ⟨b, o, none⟩ ∧ b < c.w.heap.size ∧ ∀ (j : Nat) (x : AV), e.cs[j]? = some x → ∃ v, c.w.cell? ⟨b, o + i * sz + j, none⟩ = some v ∧ RelV c h x v := by
 cases k with
 | slE _ _ A cap hc => exact ⟨A, 0, cap, rfl, rfl, Nat.zero_le _, hc, fun i e he => by simp at he⟩
 | sl _ _ _ b o cap ys h1 h2 hs hz' hc hr =>
  exact ⟨_, _, cap, rfl, rfl, h1, h2, fun i e he => ⟨b, o, rfl, hs.1, fun j x hx => ⟨ys i j, hc i e j x he hx, hr i e j x he hx⟩⟩⟩
theorem rel_ints {f : Bool} {zs : List Int} {y : Value} (k : RelV c h (eInts f zs) y) : IsInts c.w y zs := by
 obtain ⟨A, n, cap, rfl, rfl, h1, h2, h3⟩ := rel_sl k
 rw [List.length_map] at *
 refine ⟨A, cap, rfl, h1, h2, fun i u hu => ?_⟩
 rw [ints, List.getElem?_map] at hu
 cases hz : zs[i]? with
 | none => rw [hz] at hu; cases hu
 | some z =>
  rw [hz] at hu
  injection hu with hu
  obtain ⟨b, o, rfl, hb, hcell⟩ := h3 i (I z) (by rw [List.getElem?_map, hz]; rfl)
  obtain ⟨v, hv, hr⟩ := hcell 0 (I z) rfl
  refine ⟨_, rfl, hb, ?_⟩
  rw [← hu]
  cases hr
  rw [Addr.add_lit]
  simpa using hv
theorem rel_set {s : TSet} {y : Value} (k : RelV c h (eSet s) y) : IsSet c.w y s := by
 unfold eSet at k
 cases k with
 | agg _ ys hl hr =>
  obtain ⟨l⟩ := ys
  simp at hl
  match l, hl with
  | [v0, v1, v2, v3, v4, v5, v6, v7, v8], _ =>
   have r0 := hr 0 _ v0 rfl rfl
   have r1 := hr 1 _ v1 rfl rfl
   have r2 := hr 2 _ v2 rfl rfl
   have r3 := hr 3 _ v3 rfl rfl
   have r4 := hr 4 _ v4 rfl rfl
   have r5 := hr 5 _ v5 rfl rfl
   have r6 := hr 6 _ v6 rfl rfl
   have r7 := hr 7 _ v7 rfl rfl
   have r8 := hr 8 _ v8 rfl rfl
   have e0 := inv_v r0; have e2 := inv_v r2; have e3 := inv_v r3; have e4 := inv_v r4; have e5 := inv_v r5; have e6 := inv_v r6; have e7 := inv_v r7
   subst e0 e2 e3 e4 e5 e6 e7
   exact ⟨v1, v8, rfl, rel_ints r1, rel_ints r8⟩
theorem rel_gp {g : Gp} {y : Value} (k : RelV c h (eGp g) y) : y = .agg #[.int .i64 g.wh, .int .i64 g.kd, .bool g.op] := by
 unfold eGp at k
 cases k with
 | agg _ ys hl hr =>
  obtain ⟨l⟩ := ys
  simp at hl
  match l, hl with
  | [v0, v1, v2], _ =>
   have e0 := inv_v (hr 0 _ v0 rfl rfl)
   have e1 := inv_v (hr 1 _ v1 rfl rfl)
   have e2 := inv_v (hr 2 _ v2 rfl rfl)
   subst e0 e1 e2; rfl
theorem relL_1 {x : AV} {vals : Array Value} (k : RelL c h [x] vals) : ∃ v, vals = #[v] ∧ RelV c h x v := by
 obtain ⟨l⟩ := vals
 obtain ⟨hl, hr⟩ := k
 match l, hl with
 | [v], _ => exact ⟨v, rfl, hr 0 _ v rfl rfl⟩
theorem relL_2 {x x' : AV} {vals : Array Value} (k : RelL c h [x, x'] vals) : ∃ v v', vals = #[v, v'] ∧ RelV c h x v ∧ RelV c h x' v' := by
 obtain ⟨l⟩ := vals
 obtain ⟨hl, hr⟩ := k
 match l, hl with
 | [v, v'], _ => exact ⟨v, v', rfl, hr 0 _ v rfl rfl, hr 1 _ v' rfl rfl⟩
end
section
theorem says_Check (s : TSet) : ASays Tryz.prog 76 [eSet s] (I (chkErr s)) := asays_gives ⟨_, _, Tryz.func76, rfl, rfl⟩ fun c vals hx => by
 obtain ⟨v, rfl, k⟩ := relL_1 hx
 exact Check_any v s c.w (rel_set k)
theorem says_rCheck (s : TSet) : ASays Tryz.prog 79 [eSet s] (I (chkErr s)) := asays_gives ⟨_, _, Tryz.func79, rfl, rfl⟩ fun c vals hx => by
 obtain ⟨v, rfl, k⟩ := relL_1 hx
 exact rCheck_any v s c.w (rel_set k)
theorem says_Runs (s : TSet) (k : Int) : ASays Tryz.prog 153 [eSet s, I k] (B (runsB s k)) := asays_gives ⟨_, _, Tryz.func153, rfl, rfl⟩ fun c vals hx => by
 obtain ⟨v, v', rfl, k1, k2⟩ := relL_2 hx
 have := inv_v k2; subst this
 exact Runs_any v s k c.w (rel_set k1)
theorem says_rRuns (s : TSet) (k : Int) : ASays Tryz.prog 156 [eSet s, I k] (B (runsB s k)) := asays_gives ⟨_, _, Tryz.func156, rfl, rfl⟩ fun c vals hx => by
 obtain ⟨v, v', rfl, k1, k2⟩ := relL_2 hx
 have := inv_v k2; subst this
 exact rRuns_any v s k c.w (rel_set k1)
theorem says_rplain (s : TSet) (k : Int) : ASays Tryz.prog 92 [eSet s, I k] (B (decide (0 ≤ k) && decide (k < kindsI s))) := asays_gives ⟨_, _, Tryz.func92, rfl, rfl⟩ fun c vals hx => by
 obtain ⟨v, v', rfl, k1, k2⟩ := relL_2 hx
 have := inv_v k2; subst this
 exact rplain_any v s k c.w (rel_set k1)
theorem says_checkGroup (s : TSet) (g : Gp) : ASays Tryz.prog 112 [eSet s, eGp g] (I (grpErr s g.wh g.kd)) := asays_gives ⟨_, _, Tryz.func112, rfl, rfl⟩ fun c vals hx => by
 obtain ⟨v, v', rfl, k1, k2⟩ := relL_2 hx
 have := rel_gp k2; subst this
 exact checkGroup_any v s g.wh g.kd g.op c.w (rel_set k1)
theorem says_rcheckGroup (s : TSet) (g : Gp) : ASays Tryz.prog 122 [eSet s, eGp g] (I (grpErr s g.wh g.kd)) := asays_gives ⟨_, _, Tryz.func122, rfl, rfl⟩ fun c vals hx => by
 obtain ⟨v, v', rfl, k1, k2⟩ := relL_2 hx
 have := rel_gp k2; subst this
 exact rcheckGroup_any v s g.wh g.kd g.op c.w (rel_set k1)
theorem says_rcheckMeld (s : TSet) (g : Gp) : ASays Tryz.prog 119 [eSet s, eGp g] (I (meldErr s g)) := asays_gives ⟨_, _, Tryz.func119, rfl, rfl⟩ fun c vals hx => by
 obtain ⟨v, v', rfl, k1, k2⟩ := relL_2 hx
 have := rel_gp k2; subst this
 exact rcheckMeld_any v s g.wh g.kd g.op c.w (rel_set k1)
end
end Go.Proofs.YthblfhgofopcaaaGreat

namespace Go.Proofs.YthblfhgofopcaaaGreat
instance gpDec : DecidableEq Gp := fun a b => if h : a.wh = b.wh ∧ a.kd = b.kd ∧ a.op = b.op then isTrue (by cases a; cases b; simp_all) else isFalse (by rintro rfl; simp at h)
def gcmp (a b : Gp) : Int := if a.wh < b.wh then -1 else if b.wh < a.wh then 1 else if a.kd < b.kd then -1 else if b.kd < a.kd then 1 else 0
def lcmp : List Gp → List Gp → Int
 | [], [] => 0
 | [], _ :: _ => -1
 | _ :: _, [] => 1
 | a :: l, b :: m => if gcmp a b = 0 then lcmp l m else gcmp a b
theorem gcmp_cases (a b : Gp) : (gcmp a b = -1 ∧ (a.wh < b.wh ∨ a.wh = b.wh ∧ a.kd < b.kd)) ∨ (gcmp a b = 0 ∧ a.wh = b.wh ∧ a.kd = b.kd) ∨ (gcmp a b = 1 ∧ (b.wh < a.wh ∨ a.wh = b.wh ∧ b.kd < a.kd)) := by
 unfold gcmp; repeat' split
 all_goals omega
theorem gcmp_swap (a b : Gp) : gcmp b a = - gcmp a b := by
 have h1 := gcmp_cases a b; have h2 := gcmp_cases b a; omega
theorem gcmp_refl (a : Gp) : gcmp a a = 0 := by have h1 := gcmp_cases a a; omega
theorem gcmp_trans {a b c : Gp} (h1 : gcmp a b ≤ 0) (h2 : gcmp b c ≤ 0) : gcmp a c ≤ 0 ∧ (gcmp a c = 0 → gcmp a b = 0 ∧ gcmp b c = 0) := by
 have := gcmp_cases a b; have := gcmp_cases b c; have := gcmp_cases a c; omega
theorem gcmp_zero {a b : Gp} (h : gcmp a b = 0) : a.wh = b.wh ∧ a.kd = b.kd := by have := gcmp_cases a b; omega
theorem lcmp_swap : ∀ a b : List Gp, lcmp b a = - lcmp a b
 | [], [] => rfl
 | [], _ :: _ => rfl
 | _ :: _, [] => rfl
 | a :: l, b :: m => by
  have h := lcmp_swap l m
  have h2 := gcmp_swap a b
  simp only [lcmp]
  split <;> split <;> omega
theorem lcmp_refl : ∀ a : List Gp, lcmp a a = 0
 | [] => rfl
 | a :: l => by simp only [lcmp, gcmp_refl, if_true]; exact lcmp_refl l
theorem lcmp_trans : ∀ {a b c : List Gp}, lcmp a b ≤ 0 → lcmp b c ≤ 0 → lcmp a c ≤ 0 ∧ (lcmp a c = 0 → lcmp a b = 0 ∧ lcmp b c = 0)
 | [], [], [], _, _ => by simp [lcmp]
 | [], [], _ :: _, _, _ => by simp [lcmp]
 | [], _ :: _, [], _, h => by simp [lcmp] at h
 | [], _ :: _, _ :: _, _, _ => by simp [lcmp]
 | _ :: _, [], _, h, _ => by simp [lcmp] at h
 | _ :: _, _ :: _, [], _, h => by simp [lcmp] at h
 | a :: l, b :: m, c :: n, h1, h2 => by
  have k1 := gcmp_cases a b; have k2 := gcmp_cases b c; have k3 := gcmp_cases a c
  simp only [lcmp] at *
  by_cases e1 : gcmp a b = 0 <;> by_cases e2 : gcmp b c = 0
  ·rw [if_pos e1] at h1 ⊢; rw [if_pos e2] at h2 ⊢
   rw [if_pos (show gcmp a c = 0 by omega)]
   exact lcmp_trans h1 h2
  ·rw [if_neg e2] at h2
   rw [if_neg (show ¬ gcmp a c = 0 by omega)]
   refine ⟨by omega, fun h => absurd h (by omega)⟩
  ·rw [if_neg e1] at h1
   rw [if_neg (show ¬ gcmp a c = 0 by omega)]
   refine ⟨by omega, fun h => absurd h (by omega)⟩
  ·rw [if_neg e1] at h1; rw [if_neg e2] at h2
   rw [if_neg (show ¬ gcmp a c = 0 by omega)]
   refine ⟨by omega, fun h => absurd h (by omega)⟩
def Cl (l : List Gp) : Prop := ∀ g ∈ l, g.op = false
theorem gp_eq {a b : Gp} (h : gcmp a b = 0) (ha : a.op = false) (hb : b.op = false) : a = b := by
 obtain ⟨h1, h2⟩ := gcmp_zero h
 cases a; cases b; simp_all
theorem lcmp_eq : ∀ {a b : List Gp}, lcmp a b = 0 → Cl a → Cl b → a = b
 | [], [], _, _, _ => rfl
 | [], _ :: _, h, _, _ => by simp [lcmp] at h
 | _ :: _, [], h, _, _ => by simp [lcmp] at h
 | a :: l, b :: m, h, ha, hb => by
  simp only [lcmp] at h
  split at h
  ·rename_i e
   rw [gp_eq e (ha a (by simp)) (hb b (by simp)), lcmp_eq h (fun g hg => ha g (by simp [hg])) (fun g hg => hb g (by simp [hg]))]
  ·rename_i e; exact absurd h e
def SG (l : List Gp) : Prop := l.Pairwise fun a b => gcmp a b ≤ 0
def SL (l : List (List Gp)) : Prop := l.Pairwise fun a b => lcmp a b < 0
theorem perm_sorted {α : Type} {r : α → α → Prop} (anti : ∀ a b, r a b → r b a → a = b) : ∀ {l m : List α}, l.Perm m → l.Pairwise r → m.Pairwise r → l = m
 | [], m, h, _, _ => (List.nil_perm.1 h).symm ▸ rfl
 | a :: l, [], h, _, _ => absurd h.length_eq (by simp)
 | a :: l, b :: m, h, hl, hm => by
  rw [List.pairwise_cons] at hl hm
  have hab : a = b := by
   have h1 : a ∈ b :: m := h.subset (by simp)
   have h2 : b ∈ a :: l := h.symm.subset (by simp)
   rcases List.mem_cons.1 h1 with e | h1
   ·exact e
   ·rcases List.mem_cons.1 h2 with e | h2
    ·exact e.symm
    ·exact anti a b (hl.1 b h2) (hm.1 a h1)
  subst hab
  rw [perm_sorted anti (List.perm_cons a |>.1 h) hl.2 hm.2]
theorem sg_perm {l m : List Gp} (h : l.Perm m) (hl : SG l) (hm : SG m) (hc : Cl l) : l = m := by
 refine perm_sorted (r := fun a b => gcmp a b ≤ 0 ∧ a.op = false ∧ b.op = false) (fun a b h1 h2 => gp_eq (by have := gcmp_swap a b; omega) h1.2.1 h1.2.2) h ?_ ?_
 ·exact hl.imp_of_mem fun {a b} ha hb k => ⟨k, hc a ha, hc b hb⟩
 ·exact hm.imp_of_mem fun {a b} ha hb k => ⟨k, hc a (h.symm.subset ha), hc b (h.symm.subset hb)⟩
theorem sl_ext : ∀ {l m : List (List Gp)}, SL l → SL m → (∀ x, x ∈ l ↔ x ∈ m) → l = m
 | [], [], _, _, _ => rfl
 | [], b :: m, _, _, h => absurd ((h b).2 (by simp)) (by simp)
 | a :: l, [], _, _, h => absurd ((h a).1 (by simp)) (by simp)
 | a :: l, b :: m, hl, hm, h => by
  have hl' := List.pairwise_cons.1 hl
  have hm' := List.pairwise_cons.1 hm
  have hab : a = b := by
   rcases List.mem_cons.1 ((h a).1 (by simp)) with e | h1
   ·exact e
   ·rcases List.mem_cons.1 ((h b).2 (by simp)) with e | h2
    ·exact e.symm
    ·have k1 := hm'.1 a h1
     have k2 := hl'.1 b h2
     have := lcmp_swap a b
     omega
  subst hab
  rw [sl_ext hl'.2 hm'.2 fun x => ⟨fun hx => ?_, fun hx => ?_⟩]
  ·rcases List.mem_cons.1 ((h x).1 (by simp [hx])) with e | h1
   ·subst e; have := hl'.1 x hx; have := lcmp_refl x; omega
   ·exact h1
  ·rcases List.mem_cons.1 ((h x).2 (by simp [hx])) with e | h1
   ·subst e; have := hm'.1 x hx; have := lcmp_refl x; omega
   ·exact h1
def atG (l : List Gp) (g : Gp) : Nat → Nat
 | 0 => 0
 | n + 1 => match l[n]? with
  | some x => if gcmp g x < 0 then atG l g n else n + 1
  | none => n + 1
def withL (l : List Gp) (g : Gp) : List Gp := l.take (atG l g l.length) ++ g :: l.drop (atG l g l.length)
theorem atG_succ (l : List Gp) (g : Gp) {n : Nat} (h : n < l.length) : atG l g (n + 1) = if gcmp g l[n] < 0 then atG l g n else n + 1 := by
 rw [atG, List.getElem?_eq_getElem h]
theorem atG_le (l : List Gp) (g : Gp) : ∀ n, atG l g n ≤ n
 | 0 => Nat.le_refl _
 | n + 1 => by
  unfold atG
  split
  ·split
   ·exact Nat.le_succ_of_le (atG_le l g n)
   ·exact Nat.le_refl _
  ·exact Nat.le_refl _
theorem withL_perm (l : List Gp) (g : Gp) : (withL l g).Perm (g :: l) := by
 unfold withL
 refine List.perm_middle.trans ?_
 rw [List.take_append_drop]
theorem atG_gt (l : List Gp) (g : Gp) : ∀ n, n ≤ l.length → ∀ i x, atG l g n ≤ i → i < n → l[i]? = some x → gcmp g x < 0
 | 0, _, i, x, _, h, _ => absurd h (Nat.not_lt_zero i)
 | n + 1, hn, i, x, h1, h2, h3 => by
  rw [atG_succ l g (show n < l.length by omega)] at h1
  split at h1
  ·rename_i hg
   by_cases hi : i = n
   ·subst hi
    rw [List.getElem?_eq_getElem (by omega)] at h3
    injection h3 with h3; rw [← h3]; exact hg
   ·exact atG_gt l g n (by omega) i x h1 (by omega) h3
  ·omega
theorem atG_le_of (l : List Gp) (g : Gp) : ∀ n, n ≤ l.length → ∀ x, 0 < atG l g n → l[atG l g n - 1]? = some x → ¬ gcmp g x < 0
 | 0, _, x, h, _ => absurd h (Nat.not_lt_zero _)
 | n + 1, hn, x, h1, h2 => by
  rw [atG_succ l g (show n < l.length by omega)] at h1 h2
  split at h1
  ·rename_i hg
   rw [if_pos hg] at h2
   exact atG_le_of l g n (by omega) x h1 h2
  ·rename_i hg
   rw [if_neg hg] at h2
   simp only [Nat.add_sub_cancel] at h2
   rw [List.getElem?_eq_getElem (by omega)] at h2
   injection h2 with h2
   rw [← h2]; exact hg
theorem withL_sorted {l : List Gp} (g : Gp) (h : SG l) : SG (withL l g) := by
 unfold withL SG
 have h' := h
 unfold SG at h'
 rw [← List.take_append_drop (atG l g l.length) l, List.pairwise_append] at h'
 obtain ⟨h1, h2, h3⟩ := h'
 have hle := atG_le l g l.length
 rw [List.pairwise_append, List.pairwise_cons]
 refine ⟨h1, ⟨fun b hb => ?_, h2⟩, fun a ha b hb => ?_⟩
 ·obtain ⟨i, hi, rfl⟩ := List.mem_iff_getElem.1 hb
  have := atG_gt l g l.length (Nat.le_refl _) (atG l g l.length + i) _ (by omega) (by simp at hi; omega) (by rw [← List.getElem?_drop, List.getElem?_eq_getElem hi])
  omega
 ·rcases List.mem_cons.1 hb with rfl | hb
  ·have hn : 0 < atG l b l.length := by
    rcases Nat.eq_zero_or_pos (atG l b l.length) with e | e
    ·rw [e] at ha; simp at ha
    ·exact e
   have hlt : atG l b l.length - 1 < l.length := by omega
   have k1 := atG_le_of l b l.length (Nat.le_refl _) _ hn (List.getElem?_eq_getElem hlt)
   have k2 := gcmp_swap b (l[atG l b l.length - 1])
   obtain ⟨i, hi, rfl⟩ := List.mem_iff_getElem.1 ha
   rw [List.getElem_take]
   simp at hi
   by_cases he : i = atG l b l.length - 1
   ·subst he; omega
   ·have k3 := List.pairwise_iff_getElem.1 h i (atG l b l.length - 1) (by omega) hlt (by omega)
    exact (gcmp_trans k3 (by omega)).1
  ·exact h3 a ha b hb
def atL (l : List (List Gp)) (g : List Gp) : Nat → Nat
 | 0 => 0
 | n + 1 => match l[n]? with
  | some x => if lcmp g x < 0 then atL l g n else n + 1
  | none => n + 1
def addL (l : List (List Gp)) (g : List Gp) : List (List Gp) :=
 if 0 < atL l g l.length ∧ lcmp g ((l[atL l g l.length - 1]?).getD []) = 0 then l else l.take (atL l g l.length) ++ g :: l.drop (atL l g l.length)
theorem atL_succ (l : List (List Gp)) (g : List Gp) {n : Nat} (h : n < l.length) : atL l g (n + 1) = if lcmp g l[n] < 0 then atL l g n else n + 1 := by
 rw [atL, List.getElem?_eq_getElem h]
theorem atL_le (l : List (List Gp)) (g : List Gp) : ∀ n, atL l g n ≤ n
 | 0 => Nat.le_refl _
 | n + 1 => by
  unfold atL
  split
  ·split
   ·exact Nat.le_succ_of_le (atL_le l g n)
   ·exact Nat.le_refl _
  ·exact Nat.le_refl _
theorem atL_gt (l : List (List Gp)) (g : List Gp) : ∀ n, n ≤ l.length → ∀ i x, atL l g n ≤ i → i < n → l[i]? = some x → lcmp g x < 0
 | 0, _, i, x, _, h, _ => absurd h (Nat.not_lt_zero i)
 | n + 1, hn, i, x, h1, h2, h3 => by
  rw [atL_succ l g (show n < l.length by omega)] at h1
  split at h1
  ·rename_i hg
   by_cases hi : i = n
   ·subst hi
    rw [List.getElem?_eq_getElem (by omega)] at h3
    injection h3 with h3; rw [← h3]; exact hg
   ·exact atL_gt l g n (by omega) i x h1 (by omega) h3
  ·omega
theorem atL_le_of (l : List (List Gp)) (g : List Gp) : ∀ n, n ≤ l.length → ∀ x, 0 < atL l g n → l[atL l g n - 1]? = some x → ¬ lcmp g x < 0
 | 0, _, x, h, _ => absurd h (Nat.not_lt_zero _)
 | n + 1, hn, x, h1, h2 => by
  rw [atL_succ l g (show n < l.length by omega)] at h1 h2
  split at h1
  ·rename_i hg
   rw [if_pos hg] at h2
   exact atL_le_of l g n (by omega) x h1 h2
  ·rename_i hg
   rw [if_neg hg] at h2
   simp only [Nat.add_sub_cancel] at h2
   rw [List.getElem?_eq_getElem (by omega)] at h2
   injection h2 with h2
   rw [← h2]; exact hg
theorem addL_ok {l : List (List Gp)} {g : List Gp} (h : SL l) (hc : ∀ x ∈ l, Cl x) (hg : Cl g) : SL (addL l g) ∧ ∀ x, x ∈ addL l g ↔ x = g ∨ x ∈ l := by
 unfold addL
 have hle := atL_le l g l.length
 split
 ·rename_i hz
  obtain ⟨h0, hz⟩ := hz
  have hlt : atL l g l.length - 1 < l.length := by omega
  rw [List.getElem?_eq_getElem hlt, Option.getD_some] at hz
  have he : g = l[atL l g l.length - 1] := lcmp_eq hz hg (hc _ (List.getElem_mem hlt))
  refine ⟨h, fun x => ⟨.inr, fun hx => ?_⟩⟩
  rcases hx with rfl | hx
  ·rw [he]; exact List.getElem_mem hlt
  ·exact hx
 ·rename_i hz
  have h' := h
  unfold SL at h'
  rw [← List.take_append_drop (atL l g l.length) l, List.pairwise_append] at h'
  obtain ⟨h1, h2, h3⟩ := h'
  constructor
  ·unfold SL
   rw [List.pairwise_append, List.pairwise_cons]
   refine ⟨h1, ⟨fun b hb => ?_, h2⟩, fun a ha b hb => ?_⟩
   ·obtain ⟨i, hi, rfl⟩ := List.mem_iff_getElem.1 hb
    exact atL_gt l g l.length (Nat.le_refl _) (atL l g l.length + i) _ (by omega) (by simp at hi; omega) (by rw [← List.getElem?_drop, List.getElem?_eq_getElem hi])
   ·rcases List.mem_cons.1 hb with rfl | hb
    ·have hn : 0 < atL l b l.length := by
      rcases Nat.eq_zero_or_pos (atL l b l.length) with e | e
      ·rw [e] at ha; simp at ha
      ·exact e
     have hlt : atL l b l.length - 1 < l.length := by omega
     have k1 := atL_le_of l b l.length (Nat.le_refl _) _ hn (List.getElem?_eq_getElem hlt)
     have k2 := lcmp_swap b (l[atL l b l.length - 1])
     have k0 : lcmp b (l[atL l b l.length - 1]) ≠ 0 := fun e => hz ⟨hn, by rw [List.getElem?_eq_getElem hlt]; exact e⟩
     obtain ⟨i, hi, rfl⟩ := List.mem_iff_getElem.1 ha
     rw [List.getElem_take]
     simp at hi
     by_cases he : i = atL l b l.length - 1
     ·subst he; omega
     ·have k3 := List.pairwise_iff_getElem.1 h i (atL l b l.length - 1) (by omega) hlt (by omega)
      have k4 := lcmp_trans (Int.le_of_lt k3) (show lcmp (l[atL l b l.length - 1]) b ≤ 0 by omega)
      rcases Int.lt_or_eq_of_le k4.1 with k5 | k5
      ·exact k5
      ·have := (k4.2 k5).1; omega
    ·exact h3 a ha b hb
  ·intro x
   rw [List.mem_append, List.mem_cons]
   have : x ∈ l ↔ x ∈ l.take (atL l g l.length) ∨ x ∈ l.drop (atL l g l.length) := by rw [← List.mem_append, List.take_append_drop]
   rw [this]
   constructor
   ·rintro (h | h | h) <;> simp [h]
   ·rintro (h | h | h) <;> simp [h]
end Go.Proofs.YthblfhgofopcaaaGreat
