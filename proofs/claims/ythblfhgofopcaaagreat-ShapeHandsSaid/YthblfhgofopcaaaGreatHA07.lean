/-
  Parts of the proof: VmL.
-/
import Derived.Test.YthblfhgofopcaaaGreatHA06
set_option linter.all false
namespace Go.Proofs.YthblfhgofopcaaaGreat
open Go.RowKit
variable [DM]
mutual
def AV.low : AV → AV
 | .any => .any
 | .v x => .v x
 | .agg l => .agg (lowL l)
 | .tup l => .tup (lowL l)
 | .sl _ sz es => .sl false sz (lowL es)
 | .isp _ sz es i j => .isp false sz (lowL es) i j
 | .ref _ _ _ _ => .any
 | .rsl _ _ _ _ => .any
 | .clo f l => .clo f (lowL l)
def lowL : List AV → List AV
 | [] => []
 | x :: l => x.low :: lowL l
end
mutual
def AV.pass (inv : Nat → Option Nat) (h : HF) : AV → AV
 | .any => .any
 | .v x => .v x
 | .agg l => .agg (passL inv h l)
 | .tup l => .tup (passL inv h l)
 | .sl _ sz es => .sl false sz (passL inv h es)
 | .isp _ sz es i j => .isp false sz (passL inv h es) i j
 | .ref r g k j => match inv r with
  | some i => .ref i g k j
  | none => .any
 | .rsl r g o n => match inv r with
  | some i => .rsl i g o n
  | none => match h r with
   | .arr g' sz es => if g' = g ∧ o + n ≤ es.length then .sl false sz (lowL ((es.drop o).take n)) else .any
   | _ => .any
 | .clo f l => .clo f (passL inv h l)
def passL (inv : Nat → Option Nat) (h : HF) : List AV → List AV
 | [] => []
 | x :: l => x.pass inv h :: passL inv h l
end
mutual
def AV.nob (inv : Nat → Option Nat) : AV → Bool
 | .any => true
 | .v _ => true
 | .agg l => nobL inv l
 | .tup l => nobL inv l
 | .sl _ _ es => nobL inv es
 | .isp _ _ es _ _ => nobL inv es
 | .ref _ _ _ _ => true
 | .rsl r _ _ _ => (inv r).isSome
 | .clo _ l => nobL inv l
def nobL (inv : Nat → Option Nat) : List AV → Bool
 | [] => true
 | x :: l => x.nob inv && nobL inv l
end
mutual
def AV.ren (ρ : Nat → Nat) : AV → AV
 | .any => .any
 | .v x => .v x
 | .agg l => .agg (renL ρ l)
 | .tup l => .tup (renL ρ l)
 | .sl f sz es => .sl f sz (renL ρ es)
 | .isp f sz es i j => .isp f sz (renL ρ es) i j
 | .ref r g k j => .ref (ρ r) g k j
 | .rsl r g o n => .rsl (ρ r) g o n
 | .clo f l => .clo f (renL ρ l)
def renL (ρ : Nat → Nat) : List AV → List AV
 | [] => []
 | x :: l => x.ren ρ :: renL ρ l
end
mutual
def AV.allT : AV → Bool
 | .any => true
 | .v _ => true
 | .agg l => allTL l
 | .tup l => allTL l
 | .sl f _ es => f && allTL es
 | .isp f _ es _ _ => f && allTL es
 | .ref _ _ _ _ => true
 | .rsl _ _ _ _ => true
 | .clo _ l => allTL l
def allTL : List AV → Bool
 | [] => true
 | x :: l => x.allT && allTL l
end
theorem lowL_map (l : List AV) : lowL l = l.map AV.low := by
 induction l with
 | nil => rfl
 | cons x l ih => simp only [lowL, ih, List.map_cons]
theorem passL_map (inv : Nat → Option Nat) (h : HF) (l : List AV) : passL inv h l = l.map (AV.pass inv h) := by
 induction l with
 | nil => rfl
 | cons x l ih => simp only [passL, ih, List.map_cons]
theorem renL_map (ρ : Nat → Nat) (l : List AV) : renL ρ l = l.map (AV.ren ρ) := by
 induction l with
 | nil => rfl
 | cons x l ih => simp only [renL, ih, List.map_cons]
theorem nobL_all (inv : Nat → Option Nat) (l : List AV) : nobL inv l = true ↔ ∀ x ∈ l, x.nob inv = true := by
 induction l with
 | nil => simp [nobL]
 | cons x l ih => simp [nobL, ih]
theorem allTL_all (l : List AV) : allTL l = true ↔ ∀ x ∈ l, x.allT = true := by
 induction l with
 | nil => simp [allTL]
 | cons x l ih => simp [allTL, ih]
theorem low_cs (x : AV) : x.low.cs = x.cs.map AV.low := by
 cases x <;> simp [AV.low, AV.cs, lowL_map]
theorem pass_cs (inv : Nat → Option Nat) (h : HF) (x : AV) : (x.pass inv h).cs = x.cs.map (AV.pass inv h) := by
 cases x with
 | agg l => simp [AV.pass, AV.cs, passL_map]
 | ref r g k j => cases hi : inv r <;> simp [AV.pass, AV.cs, hi]
 | rsl r g o n =>
  cases hi : inv r with
  | some i => simp [AV.pass, AV.cs, hi]
  | none =>
   cases hr : h r with
   | arr g' sz es => by_cases hc : g' = g ∧ o + n ≤ es.length <;> simp [AV.pass, AV.cs, hi, hr, hc]
   | _ => simp [AV.pass, AV.cs, hi, hr]
 | _ => simp [AV.pass, AV.cs]
theorem ren_cs (ρ : Nat → Nat) (x : AV) : (x.ren ρ).cs = x.cs.map (AV.ren ρ) := by
 cases x <;> simp [AV.ren, AV.cs, renL_map]
theorem map_some {α β : Type} {f : α → β} {l : List α} {i : Nat} {y : β} (h : (l.map f)[i]? = some y) : ∃ x, l[i]? = some x ∧ f x = y := by
 simpa [List.getElem?_map, Option.map_eq_some_iff] using h
theorem nob_cs {inv : Nat → Option Nat} {x u : AV} (h : x.nob inv = true) (hu : u ∈ x.cs) : u.nob inv = true := by
 cases x with
 | agg l => simp only [AV.nob, nobL_all] at h; exact h u hu
 | _ => simp only [AV.cs, List.mem_singleton] at hu; subst hu; exact h
theorem allT_cs {x u : AV} (h : x.allT = true) (hu : u ∈ x.cs) : u.allT = true := by
 cases x with
 | agg l => simp only [AV.allT, allTL_all] at h; exact h u hu
 | _ => simp only [AV.cs, List.mem_singleton] at hu; subst hu; exact h
theorem RelV.low {c c1 : Cx} {h h1 : HF} (hw : c1.w = c.w) (hs : ∀ f b, Stab c h f b → Stab c1 h1 false b) {x : AV} {y : Value} (k : RelV c h x y) : RelV c1 h1 x.low y := by
 induction k with
 | any y => exact .any y
 | v x => exact .v x
 | agg l ys hl _ ih =>
  refine .agg _ _ (by simp [lowL_map, hl]) fun i x y hx hy => ?_
  rw [lowL_map] at hx
  obtain ⟨x', hx', rfl⟩ := map_some hx
  exact ih i x' y hx' hy
 | tup l ys hl _ ih =>
  refine .tup _ _ (by simp [lowL_map, hl]) fun i x y hx hy => ?_
  rw [lowL_map] at hx
  obtain ⟨x', hx', rfl⟩ := map_some hx
  exact ih i x' y hx' hy
 | slE f sz A cap hc => exact .slE _ _ _ _ hc
 | sl f sz es b o cap ys k1 k2 k3 k4 k5 k6 ih =>
  have e1 : (lowL es).length = es.length := by simp [lowL_map]
  have := RelV.sl (c := c1) (h := h1) false sz (lowL es) b o cap ys (by rw [e1]; exact k1) k2 (hs f b k3) (fun i e he => by
   rw [lowL_map] at he
   obtain ⟨e', he', rfl⟩ := map_some he
   rw [low_cs, List.length_map]; exact k4 i e' he') (fun i e j u he hj => by
   rw [lowL_map] at he
   obtain ⟨e', he', rfl⟩ := map_some he
   rw [low_cs] at hj
   obtain ⟨u', hu', rfl⟩ := map_some hj
   rw [hw]; exact k5 i e' j u' he' hu') (fun i e j u he hj => by
   rw [lowL_map] at he
   obtain ⟨e', he', rfl⟩ := map_some he
   rw [low_cs] at hj
   obtain ⟨u', hu', rfl⟩ := map_some hj
   exact ih i e' j u' he' hu')
  rw [e1] at this
  exact this
 | isp f sz es k m b o ys k3 k4 k5 k6 ih =>
  exact RelV.isp (c := c1) (h := h1) false sz (lowL es) k m b o ys (hs f b k3) (fun i e he => by
   rw [lowL_map] at he
   obtain ⟨e', he', rfl⟩ := map_some he
   rw [low_cs, List.length_map]; exact k4 i e' he') (fun i e j u he hj => by
   rw [lowL_map] at he
   obtain ⟨e', he', rfl⟩ := map_some he
   rw [low_cs] at hj
   obtain ⟨u', hu', rfl⟩ := map_some hj
   rw [hw]; exact k5 i e' j u' he' hu') (fun i e j u he hj => by
   rw [lowL_map] at he
   obtain ⟨e', he', rfl⟩ := map_some he
   rw [low_cs] at hj
   obtain ⟨u', hu', rfl⟩ := map_some hj
   exact ih i e' j u' he' hu')
 | ref => exact .any _
 | rsl => exact .any _
 | clo f l ys hl _ ih =>
  refine .clo _ _ _ (by simp [lowL_map, hl]) fun i x y hx hy => ?_
  rw [lowL_map] at hx
  obtain ⟨x', hx', rfl⟩ := map_some hx
  exact ih i x' y hx' hy
structure View (c : Cx) (h : HF) (c1 : Cx) (h1 : HF) (inv : Nat → Option Nat) : Prop where
 w : c1.w = c.w
 st : ∀ f b, Stab c h f b → Stab c1 h1 false b
 ar : ∀ r i g sz es, inv r = some i → h r = .arr g sz es → ∃ es', h1 i = .arr g sz es'
 dd : ∀ r i, inv r = some i → h r = .dead → h1 i = .dead
 bl : ∀ r i, inv r = some i → c1.bl i = c.bl r ∧ c1.rl i = c.rl r
theorem RelV.pass {c c1 : Cx} {h h1 : HF} {inv : Nat → Option Nat} (V : View c h c1 h1 inv) (hh : RelH c h) {x : AV} {y : Value} (k : RelV c h x y)
  (hb : (∀ r g sz es, inv r = none → h r = .arr g sz es → c.rl r = true → Stab c1 h1 false (c.bl r)) ∨ x.nob inv = true) : RelV c1 h1 (x.pass inv h) y := by
 have hw := V.w
 induction k with
 | any y => exact .any y
 | v x => exact .v x
 | agg l ys hl _ ih =>
  refine .agg _ _ (by simp [passL_map, hl]) fun i x y hx hy => ?_
  rw [passL_map] at hx
  obtain ⟨x', hx', rfl⟩ := map_some hx
  exact ih i x' y hx' hy (hb.imp id fun hn => by simp only [AV.nob, nobL_all] at hn; exact hn _ (List.mem_of_getElem? hx'))
 | tup l ys hl _ ih =>
  refine .tup _ _ (by simp [passL_map, hl]) fun i x y hx hy => ?_
  rw [passL_map] at hx
  obtain ⟨x', hx', rfl⟩ := map_some hx
  exact ih i x' y hx' hy (hb.imp id fun hn => by simp only [AV.nob, nobL_all] at hn; exact hn _ (List.mem_of_getElem? hx'))
 | slE f sz A cap hc => exact .slE _ _ _ _ hc
 | sl f sz es b o cap ys k1 k2 k3 k4 k5 k6 ih =>
  have e1 : (passL inv h es).length = es.length := by simp [passL_map]
  have := RelV.sl (c := c1) (h := h1) false sz (passL inv h es) b o cap ys (by rw [e1]; exact k1) k2 (V.st f b k3) (fun i e he => by
   rw [passL_map] at he
   obtain ⟨e', he', rfl⟩ := map_some he
   rw [pass_cs, List.length_map]; exact k4 i e' he') (fun i e j u he hj => by
   rw [passL_map] at he
   obtain ⟨e', he', rfl⟩ := map_some he
   rw [pass_cs] at hj
   obtain ⟨u', hu', rfl⟩ := map_some hj
   rw [hw]; exact k5 i e' j u' he' hu') (fun i e j u he hj => by
   rw [passL_map] at he
   obtain ⟨e', he', rfl⟩ := map_some he
   rw [pass_cs] at hj
   obtain ⟨u', hu', rfl⟩ := map_some hj
   exact ih i e' j u' he' hu' (hb.imp id fun hn => by simp only [AV.nob, nobL_all] at hn; exact nob_cs (hn _ (List.mem_of_getElem? he')) (List.mem_of_getElem? hu')))
  rw [e1] at this
  exact this
 | isp f sz es k m b o ys k3 k4 k5 k6 ih =>
  exact RelV.isp (c := c1) (h := h1) false sz (passL inv h es) k m b o ys (V.st f b k3) (fun i e he => by
   rw [passL_map] at he
   obtain ⟨e', he', rfl⟩ := map_some he
   rw [pass_cs, List.length_map]; exact k4 i e' he') (fun i e j u he hj => by
   rw [passL_map] at he
   obtain ⟨e', he', rfl⟩ := map_some he
   rw [pass_cs] at hj
   obtain ⟨u', hu', rfl⟩ := map_some hj
   rw [hw]; exact k5 i e' j u' he' hu') (fun i e j u he hj => by
   rw [passL_map] at he
   obtain ⟨e', he', rfl⟩ := map_some he
   rw [pass_cs] at hj
   obtain ⟨u', hu', rfl⟩ := map_some hj
   exact ih i e' j u' he' hu' (hb.imp id fun hn => by simp only [AV.nob, nobL_all] at hn; exact nob_cs (hn _ (List.mem_of_getElem? he')) (List.mem_of_getElem? hu')))
 | ref r g k j y h1' hg =>
  simp only [AV.pass]
  split
  ·rename_i i hi
   refine .ref _ _ _ _ _ h1' ?_
   unfold Good at hg ⊢
   cases hr : h r with
   | nil => rw [hr] at hg; exact hg.elim
   | dead => rw [V.dd r i hi hr]; trivial
   | arr g' sz es =>
    rw [hr] at hg
    obtain ⟨es', he⟩ := V.ar r i g' sz es hi hr
    rw [he]
    exact ⟨hg.1, fun e => by rw [(V.bl r i hi).1]; exact hg.2 e⟩
  ·exact .any _
 | rsl r g o n y h1' hg =>
  simp only [AV.pass]
  split
  ·rename_i i hi
   refine .rsl _ _ _ _ _ h1' ?_
   unfold Good at hg ⊢
   cases hr : h r with
   | nil => rw [hr] at hg; exact hg.elim
   | dead => rw [V.dd r i hi hr]; trivial
   | arr g' sz es =>
    rw [hr] at hg
    obtain ⟨es', he⟩ := V.ar r i g' sz es hi hr
    rw [he]
    refine ⟨hg.1, fun e => ?_⟩
    obtain ⟨A, cap, q1, q2, q3, q4⟩ := hg.2 e
    obtain ⟨b1, b2⟩ := V.bl r i hi
    exact ⟨A, cap, q1, q2, q3, fun h0 => by rw [b1, b2, hw]; exact q4 h0⟩
  ·rename_i hi
   split
   ·rename_i g' sz es hr
    split
    ·rename_i hc
     obtain ⟨rfl, hle⟩ := hc
     rw [hr] at hg
     obtain ⟨A, cap, rfl, q2, q3, q4⟩ := hg.2 rfl
     have hb' := hb.resolve_right (by simp [AV.nob, hi])
     have hlen : ((es.drop o).take n).length = n := by simp; omega
     by_cases h0 : n = 0
     ·subst h0
      simp only [List.take_zero]
      exact .slE _ _ _ _ q3
     ·obtain ⟨j1, rfl, _⟩ := q4 (by omega)
      obtain ⟨cs, ty, a1, a2, a3, a4⟩ := hh.ar r g' sz es hr j1
      have key : ∀ (i : Nat) (e : AV), ((es.drop o).take n)[i]? = some e → es[o + i]? = some e := fun i e he => by
       rw [List.getElem?_take] at he
       split at he
       ·rwa [List.getElem?_drop] at he
       ·cases he
      have e1 : (lowL ((es.drop o).take n)).length = n := by rw [lowL_map, List.length_map]; exact hlen
      have := RelV.sl (c := c1) (h := h1) false sz (lowL ((es.drop o).take n)) (c.bl r) (o * sz) cap (fun i j => cs[(o + i) * sz + j]?.getD undef) (by rw [e1]; exact q2) q3 (hb' r g' sz es hi hr j1) (fun i e he => by
       rw [lowL_map] at he
       obtain ⟨e', he', rfl⟩ := map_some he
       rw [low_cs, List.length_map]; exact a3 _ e' (key i e' he')) (fun i e j u he hj => by
       rw [lowL_map] at he
       obtain ⟨e', he', rfl⟩ := map_some he
       rw [low_cs] at hj
       obtain ⟨u', hu', rfl⟩ := map_some hj
       obtain ⟨v, hv, _⟩ := a4 _ e' j u' (key i e' he') hu'
       rw [hw, cell_of_row c.w _ _ cs ty (0, 0) a1, show o * sz + i * sz + j = (o + i) * sz + j by rw [Nat.add_mul], hv]
       rfl) (fun i e j u he hj => by
       rw [lowL_map] at he
       obtain ⟨e', he', rfl⟩ := map_some he
       rw [low_cs] at hj
       obtain ⟨u', hu', rfl⟩ := map_some hj
       obtain ⟨v, hv, hrel⟩ := a4 _ e' j u' (key i e' he') hu'
       show RelV c1 h1 u'.low (cs[(o + i) * sz + j]?.getD undef)
       rw [hv]
       exact hrel.low hw V.st)
      rw [e1] at this
      exact this
    ·exact .any _
   ·exact .any _
 | clo f l ys hl _ ih =>
  refine .clo _ _ _ (by simp [passL_map, hl]) fun i x y hx hy => ?_
  rw [passL_map] at hx
  obtain ⟨x', hx', rfl⟩ := map_some hx
  exact ih i x' y hx' hy (hb.imp id fun hn => by simp only [AV.nob, nobL_all] at hn; exact hn _ (List.mem_of_getElem? hx'))
def renO (ρ : Nat → Nat) : Ob → Ob
 | .nil => .nil
 | .dead => .dead
 | .arr g sz es => .arr g sz (renL ρ es)
theorem RelV.up {c c1 : Cx} {h h1 : HF} {ρ : Nat → Nat} (hw : c1.w = c.w) (hT : ∀ b, Stab c1 h1 true b → Stab c h true b) (ho : ∀ i, h1 i ≠ .nil → h (ρ i) = renO ρ (h1 i) ∧ c.bl (ρ i) = c1.bl i ∧ c.rl (ρ i) = c1.rl i)
  {x : AV} {y : Value} (k : RelV c1 h1 x y) (hF : (∀ b, Stab c1 h1 false b → Stab c h false b) ∨ x.allT = true) : RelV c h (x.ren ρ) y := by
 induction k with
 | any y => exact .any y
 | v x => exact .v x
 | agg l ys hl _ ih =>
  refine .agg _ _ (by simp [renL_map, hl]) fun i x y hx hy => ?_
  rw [renL_map] at hx
  obtain ⟨x', hx', rfl⟩ := map_some hx
  exact ih i x' y hx' hy (hF.imp id fun hn => by simp only [AV.allT, allTL_all] at hn; exact hn _ (List.mem_of_getElem? hx'))
 | tup l ys hl _ ih =>
  refine .tup _ _ (by simp [renL_map, hl]) fun i x y hx hy => ?_
  rw [renL_map] at hx
  obtain ⟨x', hx', rfl⟩ := map_some hx
  exact ih i x' y hx' hy (hF.imp id fun hn => by simp only [AV.allT, allTL_all] at hn; exact hn _ (List.mem_of_getElem? hx'))
 | slE f sz A cap hc => exact .slE _ _ _ _ hc
 | sl f sz es b o cap ys k1 k2 k3 k4 k5 k6 ih =>
  have e1 : (renL ρ es).length = es.length := by simp [renL_map]
  have hst : Stab c h f b := by
   rcases hF with h1' | h1'
   ·cases f
    ·exact h1' b k3
    ·exact hT b k3
   ·simp only [AV.allT, Bool.and_eq_true] at h1'
    rw [h1'.1] at k3 ⊢
    exact hT b k3
  have := RelV.sl (c := c) (h := h) f sz (renL ρ es) b o cap ys (by rw [e1]; exact k1) k2 hst (fun i e he => by
   rw [renL_map] at he
   obtain ⟨e', he', rfl⟩ := map_some he
   rw [ren_cs, List.length_map]; exact k4 i e' he') (fun i e j u he hj => by
   rw [renL_map] at he
   obtain ⟨e', he', rfl⟩ := map_some he
   rw [ren_cs] at hj
   obtain ⟨u', hu', rfl⟩ := map_some hj
   rw [← hw]; exact k5 i e' j u' he' hu') (fun i e j u he hj => by
   rw [renL_map] at he
   obtain ⟨e', he', rfl⟩ := map_some he
   rw [ren_cs] at hj
   obtain ⟨u', hu', rfl⟩ := map_some hj
   exact ih i e' j u' he' hu' (hF.imp id fun hn => by simp only [AV.allT, Bool.and_eq_true, allTL_all] at hn; exact allT_cs (hn.2 _ (List.mem_of_getElem? he')) (List.mem_of_getElem? hu')))
  rw [e1] at this
  exact this
 | isp f sz es k m b o ys k3 k4 k5 k6 ih =>
  have hst : Stab c h f b := by
   rcases hF with h1' | h1'
   ·cases f
    ·exact h1' b k3
    ·exact hT b k3
   ·simp only [AV.allT, Bool.and_eq_true] at h1'
    rw [h1'.1] at k3 ⊢
    exact hT b k3
  exact RelV.isp (c := c) (h := h) f sz (renL ρ es) k m b o ys hst (fun i e he => by
   rw [renL_map] at he
   obtain ⟨e', he', rfl⟩ := map_some he
   rw [ren_cs, List.length_map]; exact k4 i e' he') (fun i e j u he hj => by
   rw [renL_map] at he
   obtain ⟨e', he', rfl⟩ := map_some he
   rw [ren_cs] at hj
   obtain ⟨u', hu', rfl⟩ := map_some hj
   rw [← hw]; exact k5 i e' j u' he' hu') (fun i e j u he hj => by
   rw [renL_map] at he
   obtain ⟨e', he', rfl⟩ := map_some he
   rw [ren_cs] at hj
   obtain ⟨u', hu', rfl⟩ := map_some hj
   exact ih i e' j u' he' hu' (hF.imp id fun hn => by simp only [AV.allT, Bool.and_eq_true, allTL_all] at hn; exact allT_cs (hn.2 _ (List.mem_of_getElem? he')) (List.mem_of_getElem? hu')))
 | ref r g k j y h1' hg =>
  refine .ref _ _ _ _ _ h1' ?_
  have hne : h1 r ≠ .nil := fun he => by rw [he] at hg; exact hg
  obtain ⟨e1, e2, e3⟩ := ho r hne
  unfold Good at hg ⊢
  cases hr : h1 r with
  | nil => exact absurd hr hne
  | dead => rw [e1, hr]; trivial
  | arr g' sz es =>
   rw [hr] at hg
   rw [e1, hr]
   exact ⟨hg.1, fun e => by rw [e2]; exact hg.2 e⟩
 | rsl r g o n y h1' hg =>
  refine .rsl _ _ _ _ _ h1' ?_
  have hne : h1 r ≠ .nil := fun he => by rw [he] at hg; exact hg
  obtain ⟨e1, e2, e3⟩ := ho r hne
  unfold Good at hg ⊢
  cases hr : h1 r with
  | nil => exact absurd hr hne
  | dead => rw [e1, hr]; trivial
  | arr g' sz es =>
   rw [hr] at hg
   rw [e1, hr]
   refine ⟨hg.1, fun e => ?_⟩
   obtain ⟨A, cap, q1, q2, q3, q4⟩ := hg.2 e
   exact ⟨A, cap, q1, q2, q3, fun h0 => by rw [e2, e3, ← hw]; exact q4 h0⟩
 | clo f l ys hl _ ih =>
  refine .clo _ _ _ (by simp [renL_map, hl]) fun i x y hx hy => ?_
  rw [renL_map] at hx
  obtain ⟨x', hx', rfl⟩ := map_some hx
  exact ih i x' y hx' hy (hF.imp id fun hn => by simp only [AV.allT, allTL_all] at hn; exact hn _ (List.mem_of_getElem? hx'))
end Go.Proofs.YthblfhgofopcaaaGreat
