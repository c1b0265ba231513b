/-
  Parts of the proof: Tl, Rep, Tiles, Gps, Sum, Enc.
-/
import Derived.Test.YthblfhgofopcaaaGreatHA23
import Derived.Laws.CopyOwn
import Derived.Test.YthblfhgofopcaaaGreatHA18
import Derived.Test.YthblfhgofopcaaaGreatHA14
set_option linter.all false
namespace Go.Proofs.YthblfhgofopcaaaGreat
open Go.RowKit
theorem kinds_le {s : TSet} (h : chkErr s = 0) : kindsI s ≤ 60 := by
 have := (valid_of h).plain
 unfold kindsI
 rw [if_pos h]
 omega
end Go.Proofs.YthblfhgofopcaaaGreat

namespace Go.Proofs.YthblfhgofopcaaaGreat
open Go.RowKit
end Go.Proofs.YthblfhgofopcaaaGreat

namespace Go.Proofs.YthblfhgofopcaaaGreat
open Go.RowKit
end Go.Proofs.YthblfhgofopcaaaGreat

namespace Go.Proofs.YthblfhgofopcaaaGreat
open Go.RowKit
def IsGps (w : World) (v : Value) (l : List Gp) : Prop :=
 ∃ A c, v = .slice A l.length c ∧ l.length ≤ c ∧ c ≤ maxLen ∧ ∀ i, (h : i < l.length) → ∃ ad, A = some ad ∧ ad.block < w.heap.size ∧ w.cell? (ad.add (i * 3)) = some (.int .i64 l[i].wh) ∧ w.cell? ⟨(ad.add (i * 3)).block, (ad.add (i * 3)).off + 1, none⟩ = some (.int .i64 l[i].kd) ∧ w.cell? ⟨(ad.add (i * 3)).block, (ad.add (i * 3)).off + 2, none⟩ = some (.bool l[i].op)
theorem IsGps.nil {w : World} : IsGps w (.slice none 0 0) [] := ⟨none, 0, rfl, Nat.le_refl _, Nat.zero_le _, fun i h => absurd h (by simp)⟩
structure Hd where
 bag : List Int
 me : List Gp
def IsHd (w : World) (v : Value) (h : Hd) : Prop := ∃ a b, v = .agg #[a, b] ∧ IsInts w a h.bag ∧ IsGps w b h.me
def meldErr (s : TSet) (g : Gp) : Int := if 3 < g.wh then 4 else if grpErr s g.wh g.kd ≠ 0 then grpErr s g.wh g.kd else if g.wh ≠ 3 ∧ g.op = false then 3 else 0
theorem rcheckMeld_any (v : Value) (s : TSet) (a k : Int) (o : Bool) (w : World) (h : IsSet w v s) : Calls Tryz.prog 119 #[v, .agg #[.int .i64 a, .int .i64 k, .bool o]] w (Gives w (.int .i64 (meldErr s ⟨a, k, o⟩))) := by
 have CG := fun W (hg : Grow w W) => rcheckGroup_any v s a k o W (h.grow hg)
 have hfin : ∀ r wf, meldErr s ⟨a, k, o⟩ = r → Grow w wf → Gives w (.int .i64 (meldErr s ⟨a, k, o⟩)) (.returned (.int .i64 r)) wf := fun r wf h hg => ⟨by rw [h], hg⟩
 have HF := hid hfin
 clear hfin
 have HI := hid h
 obtain ⟨A, c, B, d, rfl, h1, h2⟩ := h.open_
 obtain ⟨_, _, e1, c1, m1, r1⟩ := h1
 obtain ⟨_, _, e2, d1, m2, r2⟩ := h2
 injection e1 with e1 _ e1'
 injection e2 with e2 _ e2'
 subst e1 e1' e2 e2'
 unfold maxLen at m1 m2
 have HG0 := hid (show Grow w (w.alloc (.cells #[.int .i64 s.pl, .slice A s.su.length c, .int .i64 s.wi, .int .i64 s.dr, .int .i64 s.fl, .int .i64 s.co, .int .i64 s.me, .int .i64 s.de, .slice B s.re.length d] 24)) from (Grow.refl w).alloc _)
 have HB0 := hid (show Blk (w.alloc (.cells #[.int .i64 s.pl, .slice A s.su.length c, .int .i64 s.wi, .int .i64 s.dr, .int .i64 s.fl, .int .i64 s.co, .int .i64 s.me, .int .i64 s.de, .slice B s.re.length d] 24)) w.heap.size 24 (setVals s (.slice A s.su.length c) (.slice B s.re.length d)) from heap_alloc_new w _)
 clear h
 have HG1 := hid (HG0.out.alloc (.cells #[.int .i64 a, .int .i64 k, .bool o] 72))
 have HB1 := hid (HB0.out.grow ((Grow.refl _).alloc (.cells #[.int .i64 a, .int .i64 k, .bool o] 72)))
 have HC := hid (show Blk ((w.alloc (.cells #[.int .i64 s.pl, .slice A s.su.length c, .int .i64 s.wi, .int .i64 s.dr, .int .i64 s.fl, .int .i64 s.co, .int .i64 s.me, .int .i64 s.de, .slice B s.re.length d] 24)).alloc (.cells #[.int .i64 a, .int .i64 k, .bool o] 72)) (w.heap.size + 1) 72 [.int .i64 a, .int .i64 k, .bool o] from Blk.new_at (w := w.alloc (.cells #[.int .i64 s.pl, .slice A s.su.length c, .int .i64 s.wi, .int .i64 s.dr, .int .i64 s.fl, .int .i64 s.co, .int .i64 s.me, .int .i64 s.de, .slice B s.re.length d] 24)) (xs := [.int .i64 a, .int .i64 k, .bool o]) (by simp))
 by_cases h3 : 3 < a
 ·have HE := hid (show meldErr s ⟨a, k, o⟩ = 4 by unfold meldErr; rw [if_pos h3])
  clear CG
  go_enter Tryz.func119, Tryz.ntmps119
  go_wp2
  go_ret
  exact HF.out _ _ HE.out HG1.out
 ·by_cases he : grpErr s a k = 0
  ·rw [he] at CG
   have CG := hid CG
   have HE := hid (show ∀ r, (if a ≠ 3 ∧ o = false then (3 : Int) else 0) = r → meldErr s ⟨a, k, o⟩ = r from fun r hr => by unfold meldErr; rw [if_neg h3, if_neg (by simpa using he)]; exact hr)
   clear he
   by_cases ha : a = 3
   ·subst ha
    have HE := hid (HE.out 0 (if_neg (fun h => h.1 rfl)))
    go_enter Tryz.func119, Tryz.ntmps119
    go_wp2_with fail
    refine (CG.out _ HG1.out).mono ?_
    rintro e w1 ⟨rfl, g1⟩
    have d0 := (HC.out.grow g1).cell 0
    have d2 := (HC.out.grow g1).cell 2
    go_wp2
    go_ret
    exact HF.out _ _ HE.out (HG1.out.trans g1)
   ·have na : (a != 3) = true := by simp [ha]
    cases o
    ·have HX := hid (HE.out 3 (if_pos ⟨ha, rfl⟩))
     clear HE
     go_enter Tryz.func119, Tryz.ntmps119
     go_wp2_with fail
     refine (CG.out _ HG1.out).mono ?_
     rintro e w1 ⟨rfl, g1⟩
     have d0 := (HC.out.grow g1).cell 0
     have d2 := (HC.out.grow g1).cell 2
     go_wp2
     go_ret
     exact HF.out _ _ HX.out (HG1.out.trans g1)
    ·have HE := hid (HE.out 0 (if_neg (fun h => by cases h.2)))
     go_enter Tryz.func119, Tryz.ntmps119
     go_wp2_with fail
     refine (CG.out _ HG1.out).mono ?_
     rintro e w1 ⟨rfl, g1⟩
     have d0 := (HC.out.grow g1).cell 0
     have d2 := (HC.out.grow g1).cell 2
     go_wp2
     go_ret
     exact HF.out _ _ HE.out (HG1.out.trans g1)
  ·have HE := hid (show meldErr s ⟨a, k, o⟩ = grpErr s a k by unfold meldErr; rw [if_neg h3, if_pos he])
   have ne : (grpErr s a k != 0) = true := by simp [he]
   have CG := hid CG
   clear he
   generalize grpErr s a k = n at *
   go_enter Tryz.func119, Tryz.ntmps119
   go_wp2_with fail
   refine (CG.out _ HG1.out).mono ?_
   rintro e w1 ⟨rfl, g1⟩
   go_wp2
   go_ret
   exact HF.out _ _ HE.out (HG1.out.trans g1)
end Go.Proofs.YthblfhgofopcaaaGreat

namespace Go.Proofs.YthblfhgofopcaaaGreat
open Go.RowKit
end Go.Proofs.YthblfhgofopcaaaGreat

namespace Go.Proofs.YthblfhgofopcaaaGreat
open Go.RowKit
def eSet (s : TSet) : AV := .agg [I s.pl, eInts false s.su, I s.wi, I s.dr, I s.fl, I s.co, I s.me, I s.de, eInts false s.re]
def eGp (g : Gp) : AV := .agg [I g.wh, I g.kd, B g.op]
abbrev eGps (f : Bool) (l : List Gp) : AV := .sl f 3 (l.map eGp)
def eHd (f : Bool) (h : Hd) : AV := .agg [eInts f h.bag, eGps f h.me]
structure Fm where
 wh : Int
 ks : List Int
 ag : Bool
def eFm (f : Bool) (m : Fm) : AV := .agg [I m.wh, eInts f m.ks, B m.ag]
abbrev eFms (f : Bool) (l : List Fm) : AV := .sl f 3 (l.map (eFm f))
structure Rg where
 fm : Int
 gs : List Gp
 at_ : Int
def eRg (f : Bool) (r : Rg) : AV := .agg [I r.fm, eGps f r.gs, I r.at_]
abbrev eRgs (f : Bool) (l : List Rg) : AV := .sl f 3 (l.map (eRg f))
abbrev eLL (f : Bool) (l : List (List Gp)) : AV := .sl f 1 (l.map (eGps f))
@[go_sem] theorem cs_eSet (s : TSet) : (eSet s).cs = [I s.pl, eInts false s.su, I s.wi, I s.dr, I s.fl, I s.co, I s.me, I s.de, eInts false s.re] := rfl
@[go_sem] theorem aggB_eSet (s : TSet) : aggB (eSet s) = true := rfl
@[go_sem] theorem boxable_eSet (s : TSet) : boxable (eSet s) = true := rfl
@[go_sem] theorem cs_eGp (g : Gp) : (eGp g).cs = [I g.wh, I g.kd, B g.op] := rfl
@[go_sem] theorem aggB_eGp (g : Gp) : aggB (eGp g) = true := rfl
@[go_sem] theorem boxable_eGp (g : Gp) : boxable (eGp g) = true := rfl
@[go_sem] theorem cs_eHd (f : Bool) (h : Hd) : (eHd f h).cs = [eInts f h.bag, eGps f h.me] := rfl
@[go_sem] theorem aggB_eHd (f : Bool) (h : Hd) : aggB (eHd f h) = true := rfl
@[go_sem] theorem boxable_eHd (f : Bool) (h : Hd) : boxable (eHd f h) = true := rfl
@[go_sem] theorem cs_eFm (f : Bool) (m : Fm) : (eFm f m).cs = [I m.wh, eInts f m.ks, B m.ag] := rfl
@[go_sem] theorem aggB_eFm (f : Bool) (m : Fm) : aggB (eFm f m) = true := rfl
@[go_sem] theorem boxable_eFm (f : Bool) (m : Fm) : boxable (eFm f m) = true := rfl
@[go_sem] theorem cs_eRg (f : Bool) (r : Rg) : (eRg f r).cs = [I r.fm, eGps f r.gs, I r.at_] := rfl
@[go_sem] theorem aggB_eRg (f : Bool) (r : Rg) : aggB (eRg f r) = true := rfl
@[go_sem] theorem boxable_eRg (f : Bool) (r : Rg) : boxable (eRg f r) = true := rfl
section
variable {inv : Nat → Option Nat} {h : HF} {F : Nat → Nat → Nat → Nat → AV} {q : Nat → Nat} {r : Nat} {f : Bool}
@[go_sem] theorem pass_eSet (s : TSet) : (eSet s).pass inv h = eSet s := by simp only [eSet, AV.pass, passL, passL_I]
@[go_sem] theorem fin_eSet (s : TSet) : (eSet s).fin inv F = eSet s := by simp only [eSet, AV.fin, finL, finL_I]
@[go_sem] theorem ren_eSet (s : TSet) : (eSet s).ren q = eSet s := by simp only [eSet, AV.ren, renL, renL_I]
@[go_sem] theorem nob_eSet (s : TSet) : (eSet s).nob inv = true := by simp only [eSet, AV.nob, nobL, nobL_I]; rfl
@[go_sem] theorem away_eSet (s : TSet) : (eSet s).away r = true := by simp only [eSet, AV.away, awayL, awayL_I]; rfl
@[go_sem] theorem pass_eGp (g : Gp) : (eGp g).pass inv h = eGp g := rfl
@[go_sem] theorem fin_eGp (g : Gp) : (eGp g).fin inv F = eGp g := rfl
@[go_sem] theorem low_eGp (g : Gp) : (eGp g).low = eGp g := rfl
@[go_sem] theorem ren_eGp (g : Gp) : (eGp g).ren q = eGp g := rfl
@[go_sem] theorem nob_eGp (g : Gp) : (eGp g).nob inv = true := rfl
@[go_sem] theorem allT_eGp (g : Gp) : (eGp g).allT = true := rfl
@[go_sem] theorem away_eGp (g : Gp) : (eGp g).away r = true := rfl
@[go_sem] theorem passL_eGp (l : List Gp) : passL inv h (l.map eGp) = l.map eGp := passL_enc (fun _ => rfl) l
@[go_sem] theorem finL_eGp (l : List Gp) : finL inv F (l.map eGp) = l.map eGp := finL_enc (fun _ => rfl) l
@[go_sem] theorem lowL_eGp (l : List Gp) : lowL (l.map eGp) = l.map eGp := lowL_enc (fun _ => rfl) l
@[go_sem] theorem renL_eGp (l : List Gp) : renL q (l.map eGp) = l.map eGp := renL_enc (fun _ => rfl) l
@[go_sem] theorem nobL_eGp (l : List Gp) : nobL inv (l.map eGp) = true := nobL_enc (fun _ => rfl) l
@[go_sem] theorem allTL_eGp (l : List Gp) : allTL (l.map eGp) = true := allTL_enc (fun _ => rfl) l
@[go_sem] theorem awayL_eGp (l : List Gp) : awayL r (l.map eGp) = true := awayL_enc (fun _ => rfl) l
@[go_sem] theorem one_eGp (l : List Gp) : (∀ u ∈ l.map eGp, ∀ v ∈ u.cs, v.one = true) = True := one_map (fun x v hv => by simp [AV.cs, eGp] at hv; rcases hv with rfl | rfl | rfl <;> rfl) l
@[go_sem] theorem pass_eFm (m : Fm) : (eFm f m).pass inv h = eFm false m := by simp only [eFm, AV.pass, passL, passL_I]
@[go_sem] theorem fin_eFm (m : Fm) : (eFm f m).fin inv F = eFm f m := by simp only [eFm, AV.fin, finL, finL_I]
@[go_sem] theorem ren_eFm (m : Fm) : (eFm f m).ren q = eFm f m := by simp only [eFm, AV.ren, renL, renL_I]
@[go_sem] theorem passL_eFm (l : List Fm) : passL inv h (l.map (eFm f)) = l.map (eFm false) := passL_enc pass_eFm l
@[go_sem] theorem finL_eFm (l : List Fm) : finL inv F (l.map (eFm f)) = l.map (eFm f) := finL_enc fin_eFm l
@[go_sem] theorem renL_eFm (l : List Fm) : renL q (l.map (eFm f)) = l.map (eFm f) := renL_enc ren_eFm l
@[go_sem] theorem nobL_eFm (l : List Fm) : nobL inv (l.map (eFm f)) = true := nobL_enc (fun m => by simp only [eFm, AV.nob, nobL, nobL_I]; rfl) l
@[go_sem] theorem awayL_eFm (l : List Fm) : awayL r (l.map (eFm f)) = true := awayL_enc (fun m => by simp only [eFm, AV.away, awayL, awayL_I]; rfl) l
@[go_sem] theorem fin_eRg (m : Rg) : (eRg f m).fin inv F = eRg f m := by simp only [eRg, AV.fin, finL, finL_eGp]
@[go_sem] theorem low_eRg (m : Rg) : (eRg f m).low = eRg false m := by simp only [eRg, AV.low, lowL, lowL_eGp]
@[go_sem] theorem finL_eRg (l : List Rg) : finL inv F (l.map (eRg f)) = l.map (eRg f) := finL_enc fin_eRg l
@[go_sem] theorem lowL_eRg (l : List Rg) : lowL (l.map (eRg f)) = l.map (eRg false) := lowL_enc low_eRg l
@[go_sem] theorem nob_eFm (m : Fm) : (eFm f m).nob inv = true := by simp only [eFm, AV.nob, nobL, nobL_I]; rfl
@[go_sem] theorem away_eFm (m : Fm) : (eFm f m).away r = true := by simp only [eFm, AV.away, awayL, awayL_I]; rfl
@[go_sem] theorem pass_eHd (m : Hd) : (eHd f m).pass inv h = eHd false m := by simp only [eHd, AV.pass, passL, passL_I, passL_eGp]
@[go_sem] theorem fin_eHd (m : Hd) : (eHd f m).fin inv F = eHd f m := by simp only [eHd, AV.fin, finL, finL_I, finL_eGp]
@[go_sem] theorem ren_eHd (m : Hd) : (eHd f m).ren q = eHd f m := by simp only [eHd, AV.ren, renL, renL_I, renL_eGp]
@[go_sem] theorem nob_eHd (m : Hd) : (eHd f m).nob inv = true := by simp only [eHd, AV.nob, nobL, nobL_I, nobL_eGp]; rfl
@[go_sem] theorem away_eHd (m : Hd) : (eHd f m).away r = true := by simp only [eHd, AV.away, awayL, awayL_I, awayL_eGp]; rfl
@[go_sem] theorem passL_eGps (l : List (List Gp)) : passL inv h (l.map (fun g => eGps f g)) = l.map (fun g => eGps false g) := passL_enc (fun m => by simp only [AV.pass, passL_eGp]) l
@[go_sem] theorem finL_eGps (l : List (List Gp)) : finL inv F (l.map (fun g => eGps f g)) = l.map (fun g => eGps f g) := finL_enc (fun m => by simp only [AV.fin, finL_eGp]) l
@[go_sem] theorem lowL_eGps (l : List (List Gp)) : lowL (l.map (fun g => eGps f g)) = l.map (fun g => eGps false g) := lowL_enc (fun m => by simp only [AV.low, lowL_eGp]) l
@[go_sem] theorem renL_eGps (l : List (List Gp)) : renL q (l.map (fun g => eGps f g)) = l.map (fun g => eGps f g) := renL_enc (fun m => by simp only [AV.ren, renL_eGp]) l
@[go_sem] theorem nobL_eGps (l : List (List Gp)) : nobL inv (l.map (fun g => eGps f g)) = true := nobL_enc (fun m => by simp only [AV.nob, nobL_eGp]) l
end
section
variable {c : Cx} {h : HF}
theorem rel_sl {f : Bool} {sz : Nat} {es : List AV} {y : Value} (k : RelV c h (.sl f sz es) y) : ∃ A n cap, y = .slice A n cap ∧ n = es.length ∧ n ≤ cap ∧ cap ≤ maxLen ∧ ∀ (i : Nat) (e : AV), es[i]? = some e → ∃ b o, A = some ⟨b, o, none⟩ ∧ b < c.w.heap.size ∧ ∀ (j : Nat) (x : AV), e.cs[j]? = some x → ∃ v, c.w.cell? ⟨b, o + i * sz + j, none⟩ = some v ∧ RelV c h x v := by
 cases k with
 | slE _ _ A cap hc => exact ⟨A, 0, cap, rfl, rfl, Nat.zero_le _, hc, fun i e he => by simp at he⟩
 | sl _ _ _ b o cap ys h1 h2 hs hz' hc hr =>
  exact ⟨_, _, cap, rfl, rfl, h1, h2, fun i e he => ⟨b, o, rfl, hs.1, fun j x hx => ⟨ys i j, hc i e j x he hx, hr i e j x he hx⟩⟩⟩
theorem rel_ints {f : Bool} {zs : List Int} {y : Value} (k : RelV c h (eInts f zs) y) : IsInts c.w y zs := by
 obtain ⟨A, n, cap, rfl, rfl, h1, h2, h3⟩ := rel_sl k
 rw [List.length_map] at *
 refine ⟨A, cap, rfl, h1, h2, fun i u hu => ?_⟩
 rw [ints, List.getElem?_map] at hu
 cases hz : zs[i]? with
 | none => rw [hz] at hu; cases hu
 | some z =>
  rw [hz] at hu
  injection hu with hu
  obtain ⟨b, o, rfl, hb, hcell⟩ := h3 i (I z) (by rw [List.getElem?_map, hz]; rfl)
  obtain ⟨v, hv, hr⟩ := hcell 0 (I z) rfl
  refine ⟨_, rfl, hb, ?_⟩
  rw [← hu]
  cases hr
  rw [Addr.add_lit]
  simpa using hv
theorem rel_set {s : TSet} {y : Value} (k : RelV c h (eSet s) y) : IsSet c.w y s := by
 unfold eSet at k
 cases k with
 | agg _ ys hl hr =>
  obtain ⟨l⟩ := ys
  simp at hl
  match l, hl with
  | [v0, v1, v2, v3, v4, v5, v6, v7, v8], _ =>
   have r0 := hr 0 _ v0 rfl rfl
   have r1 := hr 1 _ v1 rfl rfl
   have r2 := hr 2 _ v2 rfl rfl
   have r3 := hr 3 _ v3 rfl rfl
   have r4 := hr 4 _ v4 rfl rfl
   have r5 := hr 5 _ v5 rfl rfl
   have r6 := hr 6 _ v6 rfl rfl
   have r7 := hr 7 _ v7 rfl rfl
   have r8 := hr 8 _ v8 rfl rfl
   have e0 := inv_v r0; have e2 := inv_v r2; have e3 := inv_v r3; have e4 := inv_v r4; have e5 := inv_v r5; have e6 := inv_v r6; have e7 := inv_v r7
   subst e0 e2 e3 e4 e5 e6 e7
   exact ⟨v1, v8, rfl, rel_ints r1, rel_ints r8⟩
theorem rel_gp {g : Gp} {y : Value} (k : RelV c h (eGp g) y) : y = .agg #[.int .i64 g.wh, .int .i64 g.kd, .bool g.op] := by
 unfold eGp at k
 cases k with
 | agg _ ys hl hr =>
  obtain ⟨l⟩ := ys
  simp at hl
  match l, hl with
  | [v0, v1, v2], _ =>
   have e0 := inv_v (hr 0 _ v0 rfl rfl)
   have e1 := inv_v (hr 1 _ v1 rfl rfl)
   have e2 := inv_v (hr 2 _ v2 rfl rfl)
   subst e0 e1 e2; rfl
theorem relL_1 {x : AV} {vals : Array Value} (k : RelL c h [x] vals) : ∃ v, vals = #[v] ∧ RelV c h x v := by
 obtain ⟨l⟩ := vals
 obtain ⟨hl, hr⟩ := k
 match l, hl with
 | [v], _ => exact ⟨v, rfl, hr 0 _ v rfl rfl⟩
theorem relL_2 {x x' : AV} {vals : Array Value} (k : RelL c h [x, x'] vals) : ∃ v v', vals = #[v, v'] ∧ RelV c h x v ∧ RelV c h x' v' := by
 obtain ⟨l⟩ := vals
 obtain ⟨hl, hr⟩ := k
 match l, hl with
 | [v, v'], _ => exact ⟨v, v', rfl, hr 0 _ v rfl rfl, hr 1 _ v' rfl rfl⟩
end
section
theorem says_Check (s : TSet) : ASays Tryz.prog 76 [eSet s] (I (chkErr s)) := asays_gives ⟨_, _, Tryz.func76, rfl, rfl⟩ fun c vals hx => by
 obtain ⟨v, rfl, k⟩ := relL_1 hx
 exact Check_any v s c.w (rel_set k)
theorem says_rCheck (s : TSet) : ASays Tryz.prog 79 [eSet s] (I (chkErr s)) := asays_gives ⟨_, _, Tryz.func79, rfl, rfl⟩ fun c vals hx => by
 obtain ⟨v, rfl, k⟩ := relL_1 hx
 exact rCheck_any v s c.w (rel_set k)
theorem says_Runs (s : TSet) (k : Int) : ASays Tryz.prog 153 [eSet s, I k] (B (runsB s k)) := asays_gives ⟨_, _, Tryz.func153, rfl, rfl⟩ fun c vals hx => by
 obtain ⟨v, v', rfl, k1, k2⟩ := relL_2 hx
 have := inv_v k2; subst this
 exact Runs_any v s k c.w (rel_set k1)
theorem says_rplain (s : TSet) (k : Int) : ASays Tryz.prog 92 [eSet s, I k] (B (decide (0 ≤ k) && decide (k < kindsI s))) := asays_gives ⟨_, _, Tryz.func92, rfl, rfl⟩ fun c vals hx => by
 obtain ⟨v, v', rfl, k1, k2⟩ := relL_2 hx
 have := inv_v k2; subst this
 exact rplain_any v s k c.w (rel_set k1)
theorem says_checkGroup (s : TSet) (g : Gp) : ASays Tryz.prog 112 [eSet s, eGp g] (I (grpErr s g.wh g.kd)) := asays_gives ⟨_, _, Tryz.func112, rfl, rfl⟩ fun c vals hx => by
 obtain ⟨v, v', rfl, k1, k2⟩ := relL_2 hx
 have := rel_gp k2; subst this
 exact checkGroup_any v s g.wh g.kd g.op c.w (rel_set k1)
theorem says_rcheckGroup (s : TSet) (g : Gp) : ASays Tryz.prog 122 [eSet s, eGp g] (I (grpErr s g.wh g.kd)) := asays_gives ⟨_, _, Tryz.func122, rfl, rfl⟩ fun c vals hx => by
 obtain ⟨v, v', rfl, k1, k2⟩ := relL_2 hx
 have := rel_gp k2; subst this
 exact rcheckGroup_any v s g.wh g.kd g.op c.w (rel_set k1)
theorem says_rcheckMeld (s : TSet) (g : Gp) : ASays Tryz.prog 119 [eSet s, eGp g] (I (meldErr s g)) := asays_gives ⟨_, _, Tryz.func119, rfl, rfl⟩ fun c vals hx => by
 obtain ⟨v, v', rfl, k1, k2⟩ := relL_2 hx
 have := rel_gp k2; subst this
 exact rcheckMeld_any v s g.wh g.kd g.op c.w (rel_set k1)
end
end Go.Proofs.YthblfhgofopcaaaGreat
