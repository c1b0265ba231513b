/-
  Parts of the proof: VmEo, VmOb, VmOt, VmAt, VmAr.
-/
import Derived.Test.YthblfhgofopcaaaGreatHA15
set_option linter.all false
namespace Go.Proofs.YthblfhgofopcaaaGreat
open Go.RowKit
section
variable [DM]
def LeV (x x' : AV) : Prop := ∀ (c : Cx) (h : HF) (y : Value), RelV c h x y → RelV c h x' y
theorem LeV.rfl' {x : AV} : LeV x x := fun _ _ _ h => h
theorem LeV.eq {x x' : AV} (h : x = x') : LeV x x' := h ▸ LeV.rfl'
theorem LeV.nil (f : Bool) (sz : Nat) : LeV nilA (.sl f sz []) := fun _ _ _ h => rel_nil h
theorem LeV.low (x : AV) : LeV x x.low := fun c h y k => k.low rfl fun f b hs => ⟨hs.1, hs.2.1, by rcases hs.2.2 with h | h | ⟨_, h⟩ <;> simp [h]⟩
theorem LeV.sl (f : Bool) (sz : Nat) (es : List AV) : LeV (.sl f sz es) (.sl false sz es) := fun c h y k => by
 cases k with
 | slE _ _ A cap hc => exact .slE false sz A cap hc
 | sl _ _ _ b o cap ys h1 h2 hs hz hc hr => exact .sl false sz es b o cap ys h1 h2 ⟨hs.1, hs.2.1, by rcases hs.2.2 with h | h | ⟨_, h⟩ <;> simp [h]⟩ hz hc hr
theorem LeV.any (x : AV) : LeV x .any := fun _ _ y _ => .any y
inductive LeT : List (Nat × AV) → List (Nat × AV) → Prop
 | nil : LeT [] []
 | cons {t : Nat} {x x' : AV} {l l' : List (Nat × AV)} : LeV x x' → LeT l l' → LeT ((t, x) :: l) ((t, x') :: l')
theorem LeT.lk {l l' : List (Nat × AV)} (h : LeT l l') (t : Nat) : LeV (lk l .any t) (lk l' .any t) := by
 induction h with
 | nil => exact .rfl'
 | cons hx _ ih =>
  simp only [Go.Proofs.YthblfhgofopcaaaGreat.lk]
  split
  ·exact hx
  ·exact ih
theorem wk_le {nt ne : Nat} {σ : St} {tm : List (Nat × AV)} (h : LeT σ.tm tm) (nx : Nat) : Wk nt ne σ ⟨nx, tm, σ.hp⟩ := fun c0 h0 c a _ _ r => ⟨c, rfl, ⟨r.kp, r.hp, ⟨r.fr.sz, r.fr.df, fun t => h.lk t _ _ _ (r.fr.tm t)⟩⟩⟩
def See (σ : St) (tm : List (Nat × AV)) (hp : Hl) : Prop := LeT σ.tm tm ∧ σ.hp = hp
variable {P : Program} {T : Tys} {nt ne : Nat} {D : List Oper → St → (St → Prop) → Prop} {Q : Exit → St → Prop} {σ : St}
theorem AW_loopG {α : Type} {a : Code} (TM : α → List (Nat × AV)) (HP : α → Hl) (M : α → Nat) (Inv : α → Prop) (l0 l : List (Nat × Nat)) (d : Nat) (ts : List Nat) (nx : Nat) (hl0 : finOk ne l0) (hl : finOk ne l) (x0 : α) (h0 : Inv x0) (hs : See (finS l0 d ts nx σ) (TM x0) (HP x0))
  (h : ∀ x, Inv x → ∀ K : St → Prop, ClK nt ne K → (∀ σ'' x', M x' < M x → Inv x' → See (finS l d ts nx σ'') (TM x') (HP x') → K σ'') → AW P T nt ne D a (thenA K Q) ⟨nx, TM x, HP x⟩) : AW P T nt ne D (.loop a) Q σ := by
 have see : ∀ σ l, finOk ne l → ∀ x, See (finS l d ts nx σ) (TM x) (HP x) → Wk nt ne σ ⟨nx, TM x, HP x⟩ := fun σ l hl x k => by
  have := (wk_fin (nt := nt) (σ := σ) (d := d) (nx := nx) (ts := ts) hl).trans (wk_le k.1 nx)
  rw [k.2] at this; exact this
 refine ⟨fun m σ => ∃ x, Inv x ∧ m = M x ∧ σ = ⟨nx, TM x, HP x⟩, ⟨M x0, _, see σ l0 hl0 x0 hs, x0, h0, rfl, rfl⟩, ?_⟩
 rintro m σ' ⟨x, hx, rfl, rfl⟩
 exact h x hx _ ⟨fun _ _ hw ⟨n', σ0, h1, h2, h3⟩ => ⟨n', σ0, h1, hw.trans h2, h3⟩⟩ fun σ'' x' hm hi hse => ⟨M x', _, hm, see σ'' l hl x' hse, x', hi, rfl, rfl⟩
theorem AW_loopGV {α : Type} {a : Code} {σ0 : St} (hw : Wk nt ne σ σ0) (TM : α → List (Nat × AV)) (HP : α → Hl) (M : α → Nat) (Inv : α → Prop) (l0 l : List (Nat × Nat)) (d : Nat) (ts : List Nat) (nx : Nat) (hl0 : finOk ne l0) (hl : finOk ne l) (x0 : α) (h0 : Inv x0) (hs : See (finS l0 d ts nx σ0) (TM x0) (HP x0))
  (h : ∀ x, Inv x → ∀ K : St → Prop, ClK nt ne K → (∀ σ'' x', M x' < M x → Inv x' → See (finS l d ts nx σ'') (TM x') (HP x') → K σ'') → AW P T nt ne D a (thenA K Q) ⟨nx, TM x, HP x⟩) : AW P T nt ne D (.loop a) Q σ := by
 have h2 := AW_loopG (σ := σ0) TM HP M Inv l0 l d ts nx hl0 hl x0 h0 hs h
 obtain ⟨I, ⟨n, σ1, hw1, hI⟩, hr⟩ := h2
 exact ⟨I, ⟨n, σ1, hw.trans hw1, hI⟩, hr⟩
theorem wk_ob {r g sz : Nat} {es es' : List AV} (hr : Go.Proofs.YthblfhgofopcaaaGreat.lk σ.hp .nil r = .arr g sz es) (hl : es'.length = es.length) (he : ∀ (i : Nat) (e e' : AV), es[i]? = some e → es'[i]? = some e' → e.cs = [e] ∧ e'.cs = [e'] ∧ LeV e e') : Wk nt ne σ ⟨σ.nx, σ.tm, (r, .arr g sz es') :: σ.hp⟩ := fun c0 h0 c a _ _ k => by
 have e2 : Go.Proofs.YthblfhgofopcaaaGreat.lk ((r, Ob.arr g sz es') :: σ.hp) .nil = ups [(r, .arr g sz es')] (Go.Proofs.YthblfhgofopcaaaGreat.lk σ.hp .nil) := by
  funext s
  by_cases hs : r = s
  ·subst hs; simp [Go.Proofs.YthblfhgofopcaaaGreat.lk, ups]
  ·simp [Go.Proofs.YthblfhgofopcaaaGreat.lk, ups, hs, Ne.symm hs]
 have old : ∀ (i : Nat) (e' : AV), es'[i]? = some e' → ∃ e, es[i]? = some e := fun i e' h => by
  have := (List.getElem?_eq_some_iff.1 h).1
  exact ⟨_, List.getElem?_eq_getElem (by omega)⟩
 cases hrl : c.rl r with
 | true =>
  obtain ⟨cs, ty, a1, a2, a3, a4⟩ := k.hp.ar r g sz es hr hrl
  obtain ⟨K, H, _⟩ := set_obj k.hp (g' := g) (es' := es') hr hrl a1 rfl (Nat.le_refl _) (by rw [hl]; exact a2) (fun i e' h => by
    obtain ⟨e, h1⟩ := old i e' h
    obtain ⟨c1, c2, _⟩ := he i e e' h1 h
    have := a3 i e h1
    rw [c1] at this; rw [c2]; exact this) (fun i e' j u h hj => by
    obtain ⟨e, h1⟩ := old i e' h
    obtain ⟨c1, c2, hle⟩ := he i e e' h1 h
    rw [c2] at hj
    have hj0 : j = 0 := by have := (List.getElem?_eq_some_iff.1 hj).1; simp at this; exact this
    subst hj0
    simp at hj; subst hj
    obtain ⟨y, hy, hv⟩ := a4 i e 0 e h1 (by rw [c1]; rfl)
    exact ⟨y, hy, hle _ _ _ hv⟩) c.w (fun _ _ => rfl) a1 rfl rfl rfl rfl rfl
  exact ⟨c, rfl, ⟨by rw [e2]; exact k.kp.trans K, by rw [e2]; exact H, ⟨k.fr.sz, k.fr.df, fun t => by rw [e2]; exact (k.fr.tm t).ext K.ext⟩⟩⟩
 | false =>
  have h0 := k.hp.em r g sz es hr hrl
  subst h0
  have h1 : es' = [] := List.eq_nil_of_length_eq_zero hl
  subst h1
  have e3 : ups [(r, Ob.arr g sz [])] (Go.Proofs.YthblfhgofopcaaaGreat.lk σ.hp .nil) = Go.Proofs.YthblfhgofopcaaaGreat.lk σ.hp .nil := by
   funext s
   by_cases hs : s = r
   ·subst hs; simp [ups, hr]
   ·simp [ups, hs]
  exact ⟨c, rfl, ⟨by rw [e2, e3]; exact k.kp, by rw [e2, e3]; exact k.hp, ⟨k.fr.sz, k.fr.df, fun t => by rw [e2, e3]; exact k.fr.tm t⟩⟩⟩
theorem CallW.obj {f : Nat} {xs ys : List AV} {hc hp : Hl} {nm : Nat} {R : AV → Hl → Prop} {K : AV → Hl → Prop} (ρ : List Nat) (hC : ACall P f ys hc R) (hy : passL (idx 0 ρ) (Go.Proofs.YthblfhgofopcaaaGreat.lk hp .nil) xs = ys) (hh : entry (idx 0 ρ) (Go.Proofs.YthblfhgofopcaaaGreat.lk hp .nil) 0 ρ = hc) (hn : ρ.Nodup) (ha : ∀ r ∈ ρ, ∃ g sz es, Go.Proofs.YthblfhgofopcaaaGreat.lk hp .nil r = .arr g sz es)
  (hb : nobL (idx 0 ρ) xs = true ∧ ∀ r ∈ ρ, ∀ g sz es, Go.Proofs.YthblfhgofopcaaaGreat.lk hp .nil r = .arr g sz es → nobL (idx 0 ρ) es = true) (h : ∀ x hl, R x hl → Clean hl ∧ (∀ p ∈ hl, ρ[p.1]? = none → Go.Proofs.YthblfhgofopcaaaGreat.lk hp .nil (nm + p.1) = .nil) ∧ K (x.ren (rn nm ρ)) (mrgL (rn nm ρ) hl hp)) : CallW P f xs hp nm K := by
 subst hy hh
 exact ⟨ρ, false, R, hC, hn, ha, .inr hb, fun x hl hR => ⟨(h x hl hR).1, (fun hf => by cases hf), (h x hl hR).2.1, (h x hl hR).2.2⟩⟩
end
end Go.Proofs.YthblfhgofopcaaaGreat

namespace Go.Proofs.YthblfhgofopcaaaGreat
open Go.RowKit
section
variable [DM]
def isArr : Ob → Bool
 | .arr .. => true
 | _ => false
def obB (inv : Nat → Option Nat) : Ob → Bool
 | .arr _ _ es => nobL inv es
 | _ => true
@[go_sem] theorem isArr_arr (g sz : Nat) (es : List AV) : isArr (.arr g sz es) = true := rfl
@[go_sem] theorem obB_arr (inv : Nat → Option Nat) (g sz : Nat) (es : List AV) : obB inv (.arr g sz es) = nobL inv es := rfl
def AObj (P : Program) (f : Nat) (ys : List AV) (hc : Hl) (v : AV) (hl : Hl) : Prop := ACall P f ys hc fun x h => x = v ∧ h = hl
theorem CallW.objD {P : Program} {f : Nat} {xs ys : List AV} {hc hp hl : Hl} {v : AV} {nm : Nat} {K : AV → Hl → Prop} (ρ : List Nat) (hC : AObj P f ys hc v hl) (hy : passL (idx 0 ρ) (Go.Proofs.YthblfhgofopcaaaGreat.lk hp .nil) xs = ys) (hh : entry (idx 0 ρ) (Go.Proofs.YthblfhgofopcaaaGreat.lk hp .nil) 0 ρ = hc) (hn : ρ.Nodup)
  (ha : (ρ.all fun r => isArr (Go.Proofs.YthblfhgofopcaaaGreat.lk hp .nil r)) = true) (hb : (nobL (idx 0 ρ) xs && ρ.all fun r => obB (idx 0 ρ) (Go.Proofs.YthblfhgofopcaaaGreat.lk hp .nil r)) = true) (hcl : Clean hl)
  (hf : ∀ p ∈ hl, ρ[p.1]? = none → Go.Proofs.YthblfhgofopcaaaGreat.lk hp .nil (nm + p.1) = .nil) (h : K (v.ren (rn nm ρ)) (mrgL (rn nm ρ) hl hp)) : CallW P f xs hp nm K := by
 rw [Bool.and_eq_true, List.all_eq_true] at hb
 rw [List.all_eq_true] at ha
 refine CallW.obj ρ hC hy hh hn (fun r hr => ?_) ⟨hb.1, fun r hr g sz es he => ?_⟩ ?_
 ·have := ha r hr
  generalize Go.Proofs.YthblfhgofopcaaaGreat.lk hp .nil r = o at this
  cases o with
  | arr g sz es => exact ⟨_, _, _, rfl⟩
  | _ => cases this
 ·have := hb.2 r hr; rw [he] at this; exact this
 ·rintro x hl' ⟨rfl, rfl⟩; exact ⟨hcl, hf, h⟩
theorem CallD.objD {P : Program} {f : Nat} {xs ys : List AV} {hc hp hl : Hl} {v : AV} {nm : Nat} {C : List Nat → Prop} {K : AV → Hl → Prop} (ρ : List Nat) (hC : AObj P f ys hc v hl) (hy : passL (idx 0 ρ) (Go.Proofs.YthblfhgofopcaaaGreat.lk hp .nil) xs = ys) (hh : entry (idx 0 ρ) (Go.Proofs.YthblfhgofopcaaaGreat.lk hp .nil) 0 ρ = hc) (hn : ρ.Nodup)
  (ha : (ρ.all fun r => isArr (Go.Proofs.YthblfhgofopcaaaGreat.lk hp .nil r)) = true) (hb : (nobL (idx 0 ρ) xs && ρ.all fun r => obB (idx 0 ρ) (Go.Proofs.YthblfhgofopcaaaGreat.lk hp .nil r)) = true) (hc0 : C ρ) (hcl : Clean hl)
  (hf : ∀ p ∈ hl, ρ[p.1]? = none → p.1 < 16 ∧ Go.Proofs.YthblfhgofopcaaaGreat.lk hp .nil (nm + p.1) = .nil) (h : K (v.ren (rn nm ρ)) (mrgL (rn nm ρ) hl hp)) : CallD P f xs hp nm C K := by
 rw [Bool.and_eq_true, List.all_eq_true] at hb
 rw [List.all_eq_true] at ha
 subst hy hh
 refine ⟨ρ, false, _, hc0, hC, hn, fun r hr => ?_, .inr ⟨hb.1, fun r hr g sz es he => ?_⟩, ?_⟩
 ·have := ha r hr
  generalize Go.Proofs.YthblfhgofopcaaaGreat.lk hp .nil r = o at this
  cases o with
  | arr g sz es => exact ⟨_, _, _, rfl⟩
  | _ => cases this
 ·have := hb.2 r hr; rw [he] at this; exact this
 ·rintro x hl' ⟨rfl, rfl⟩
  exact ⟨hcl, (fun h => by cases h), hf, h⟩
def virtE (r g s nm gn sz : Nat) (es' : List AV) (σ : St) : St := ⟨σ.nx, σ.tm, (r, .arr g s es') :: (nm, .arr gn sz []) :: σ.hp⟩
theorem wk_virtE {nt ne : Nat} {σ : St} (r g s nm gn sz : Nat) {es es' : List AV} (h1 : Go.Proofs.YthblfhgofopcaaaGreat.lk σ.hp .nil r = .arr g s es) (h0 : es ≠ []) (h2 : Go.Proofs.YthblfhgofopcaaaGreat.lk σ.hp .nil nm = .nil) (hlen : es'.length = es.length)
  (hv : ∀ (i : Nat) (e e' : AV), es[i]? = some e → es'[i]? = some e' → e'.cs.length = e.cs.length ∧ ∀ (j : Nat) (u u' : AV), e.cs[j]? = some u → e'.cs[j]? = some u' → u' = u ∨ (u = nilA ∧ u' = .rsl nm gn 0 0)) : Wk nt ne σ (virtE r g s nm gn sz es' σ) := fun c0 h0' c a he hn hr => by
 obtain ⟨c', e, k, rh, v⟩ := virt_obj hr.hp h2 gn sz
 have hne : r ≠ nm := fun hq => by rw [hq, h2] at h1; cases h1
 have hr1 : ups [(nm, .arr gn sz [])] (Go.Proofs.YthblfhgofopcaaaGreat.lk σ.hp .nil) r = .arr g s es := by simp [ups, hne, h1]
 have hl : c'.rl r = true := by
  cases hl : c'.rl r with
  | true => rfl
  | false => exact absurd (rh.em r g s es hr1 hl) h0
 have old : ∀ (i : Nat) (e' : AV), es'[i]? = some e' → ∃ e, es[i]? = some e := fun i e' h => by
  have := (List.getElem?_eq_some_iff.1 h).1
  exact ⟨_, List.getElem?_eq_getElem (by omega)⟩
 obtain ⟨cs, ty, a1, a2, a3, a4⟩ := rh.ar r g s es hr1 hl
 obtain ⟨k2, rh2, e2⟩ := set_obj rh (g' := g) (es' := es') (cs' := cs) hr1 hl a1 rfl (Nat.le_refl _) (by rw [hlen]; exact a2) (fun i x hx => by
   obtain ⟨e0, he0⟩ := old i x hx
   rw [(hv i e0 x he0 hx).1]; exact a3 i e0 he0) (fun i x j u hx hj => by
   obtain ⟨e0, he0⟩ := old i x hx
   obtain ⟨q1, q2⟩ := hv i e0 x he0 hx
   have hj0 : j < e0.cs.length := by have := (List.getElem?_eq_some_iff.1 hj).1; omega
   have hu := List.getElem?_eq_getElem hj0
   obtain ⟨y, hy, hvv⟩ := a4 i e0 j _ he0 hu
   refine ⟨y, hy, ?_⟩
   rcases q2 j _ u hu hj with h | ⟨h, h'⟩
   ·rw [h]; exact hvv
   ·rw [h] at hvv; rw [h', inv_v hvv]; exact v) c'.w (fun _ _ => rfl) a1 rfl rfl rfl rfl rfl
 have eh : Go.Proofs.YthblfhgofopcaaaGreat.lk (virtE r g s nm gn sz es' σ).hp .nil = ups [(r, .arr g s es')] (ups [(nm, .arr gn sz [])] (Go.Proofs.YthblfhgofopcaaaGreat.lk σ.hp .nil)) := by
  funext q
  by_cases hq : r = q
  ·subst hq; simp [virtE, Go.Proofs.YthblfhgofopcaaaGreat.lk, ups]
  ·by_cases hq' : nm = q
   ·subst hq'; simp [virtE, Go.Proofs.YthblfhgofopcaaaGreat.lk, ups, hq, Ne.symm hq]
   ·simp [virtE, Go.Proofs.YthblfhgofopcaaaGreat.lk, ups, hq, Ne.symm hq, hq', Ne.symm hq']
 refine ⟨_, e, ⟨by rw [eh]; exact hr.kp.trans (k.trans k2), by rw [eh]; exact rh2, hr.fr.sz, hr.fr.df, fun q => ?_⟩⟩
 rw [eh]
 exact (hr.fr.tm q).ext (k.trans k2).ext
def AEx {α : Type} (P : Program) (f : Nat) (ys : List AV) (hc : Hl) (V : α → AV) (H : α → Hl) (ok : α → Prop) : Prop := ACall P f ys hc fun x h => ∃ a, ok a ∧ x = V a ∧ h = H a
theorem CallW.objE {α : Type} {P : Program} {f : Nat} {xs ys : List AV} {hc hp : Hl} {V : α → AV} {H : α → Hl} {ok : α → Prop} {nm : Nat} {K : AV → Hl → Prop} (ρ : List Nat) (hC : AEx P f ys hc V H ok) (hy : passL (idx 0 ρ) (Go.Proofs.YthblfhgofopcaaaGreat.lk hp .nil) xs = ys) (hh : entry (idx 0 ρ) (Go.Proofs.YthblfhgofopcaaaGreat.lk hp .nil) 0 ρ = hc) (hn : ρ.Nodup)
  (ha : (ρ.all fun r => isArr (Go.Proofs.YthblfhgofopcaaaGreat.lk hp .nil r)) = true) (hb : (nobL (idx 0 ρ) xs && ρ.all fun r => obB (idx 0 ρ) (Go.Proofs.YthblfhgofopcaaaGreat.lk hp .nil r)) = true) (hcl : ∀ a, Clean (H a))
  (hf : ∀ a, ∀ p ∈ H a, ρ[p.1]? = none → Go.Proofs.YthblfhgofopcaaaGreat.lk hp .nil (nm + p.1) = .nil) (h : ∀ a, ok a → K ((V a).ren (rn nm ρ)) (mrgL (rn nm ρ) (H a) hp)) : CallW P f xs hp nm K := by
 rw [Bool.and_eq_true, List.all_eq_true] at hb
 rw [List.all_eq_true] at ha
 refine CallW.obj ρ hC hy hh hn (fun r hr => ?_) ⟨hb.1, fun r hr g sz es he => ?_⟩ ?_
 ·have := ha r hr
  generalize Go.Proofs.YthblfhgofopcaaaGreat.lk hp .nil r = o at this
  cases o with
  | arr g sz es => exact ⟨_, _, _, rfl⟩
  | _ => cases this
 ·have := hb.2 r hr; rw [he] at this; exact this
 ·rintro x hl' ⟨a, ha, rfl, rfl⟩; exact ⟨hcl a, hf a, h a ha⟩
theorem CallD.objE {α : Type} {P : Program} {f : Nat} {xs ys : List AV} {hc hp : Hl} {V : α → AV} {H : α → Hl} {ok : α → Prop} {nm : Nat} {C : List Nat → Prop} {K : AV → Hl → Prop} (ρ : List Nat) (hC : AEx P f ys hc V H ok) (hy : passL (idx 0 ρ) (Go.Proofs.YthblfhgofopcaaaGreat.lk hp .nil) xs = ys) (hh : entry (idx 0 ρ) (Go.Proofs.YthblfhgofopcaaaGreat.lk hp .nil) 0 ρ = hc) (hn : ρ.Nodup)
  (ha : (ρ.all fun r => isArr (Go.Proofs.YthblfhgofopcaaaGreat.lk hp .nil r)) = true) (hb : (nobL (idx 0 ρ) xs && ρ.all fun r => obB (idx 0 ρ) (Go.Proofs.YthblfhgofopcaaaGreat.lk hp .nil r)) = true) (hc0 : C ρ) (hcl : ∀ a, Clean (H a))
  (hf : ∀ a, ∀ p ∈ H a, ρ[p.1]? = none → p.1 < 16 ∧ Go.Proofs.YthblfhgofopcaaaGreat.lk hp .nil (nm + p.1) = .nil) (h : ∀ a, ok a → K ((V a).ren (rn nm ρ)) (mrgL (rn nm ρ) (H a) hp)) : CallD P f xs hp nm C K := by
 rw [Bool.and_eq_true, List.all_eq_true] at hb
 rw [List.all_eq_true] at ha
 subst hy hh
 refine ⟨ρ, false, _, hc0, hC, hn, fun r hr => ?_, .inr ⟨hb.1, fun r hr g sz es he => ?_⟩, ?_⟩
 ·have := ha r hr
  generalize Go.Proofs.YthblfhgofopcaaaGreat.lk hp .nil r = o at this
  cases o with
  | arr g sz es => exact ⟨_, _, _, rfl⟩
  | _ => cases this
 ·have := hb.2 r hr; rw [he] at this; exact this
 ·rintro x hl' ⟨a, ha, rfl, rfl⟩
  exact ⟨hcl a, (fun h => by cases h), hf a, h a ha⟩
inductive LeL : List AV → List AV → Prop
 | nil : LeL [] []
 | cons {x x' : AV} {l l' : List AV} : LeV x x' → LeL l l' → LeL (x :: l) (x' :: l')
theorem LeL.len {l l' : List AV} (h : LeL l l') : l.length = l'.length := by
 induction h with
 | nil => rfl
 | cons _ _ ih => simp [ih]
theorem LeL.get {l l' : List AV} (h : LeL l l') : ∀ (i : Nat) (x' : AV), l'[i]? = some x' → ∃ x, l[i]? = some x ∧ LeV x x' := by
 induction h with
 | nil => intro i x' h; simp at h
 | cons hx _ ih =>
  intro i x' h
  cases i with
  | zero => simp at h; subst h; exact ⟨_, rfl, hx⟩
  | succ i => simp at h; simpa using ih i x' h
theorem LeV.agg {l l' : List AV} (h : LeL l l') : LeV (.agg l) (.agg l') := by
 intro c hf y k
 cases k with
 | agg _ ys hl hr =>
  refine RelV.agg l' ys (h.len ▸ hl) fun i x' y hx hy => ?_
  obtain ⟨x, h1, h2⟩ := h.get i x' hx
  exact h2 _ _ _ (hr i x y h1 hy)
theorem LeV.tup {l l' : List AV} (h : LeL l l') : LeV (.tup l) (.tup l') := by
 intro c hf y k
 cases k with
 | tup _ ys hl hr =>
  refine RelV.tup l' ys (h.len ▸ hl) fun i x' y hx hy => ?_
  obtain ⟨x, h1, h2⟩ := h.get i x' hx
  exact h2 _ _ _ (hr i x y h1 hy)
theorem acall_le {P : Program} {f : Nat} {ys : List AV} {hc : Hl} {R : AV → Hl → Prop} (h : ACall P f ys hc fun x hl => ∃ res, LeV x res ∧ R res hl) : ACall P f ys hc R := by
 refine ⟨h.1, fun c vals hn hh hr => (h.2 c vals hn hh hr).mono ?_⟩
 rintro e w' ⟨v, x, hl, c', e1, e2, ⟨res, hx, hR⟩, k1, k2, k3⟩
 exact ⟨v, res, hl, c', e1, e2, hR, k1, k2, hx _ _ _ k3⟩
theorem acall_mono {P : Program} {f : Nat} {ys : List AV} {hc : Hl} {R R' : AV → Hl → Prop} (h : ACall P f ys hc R) (hR : ∀ x hl, R x hl → R' x hl) : ACall P f ys hc R' := by
 refine ⟨h.1, fun c vals hn hh hr => (h.2 c vals hn hh hr).mono ?_⟩
 rintro e w' ⟨v, x, hl, c', e1, e2, h1, k1, k2, k3⟩
 exact ⟨v, x, hl, c', e1, e2, hR _ _ h1, k1, k2, k3⟩
theorem wk_cs {nt ne : Nat} {σ : St} {r g sz : Nat} {es es' : List AV} (hr : Go.Proofs.YthblfhgofopcaaaGreat.lk σ.hp .nil r = .arr g sz es) (hcs : es'.map AV.cs = es.map AV.cs) : Wk nt ne σ ⟨σ.nx, σ.tm, (r, .arr g sz es') :: σ.hp⟩ := fun c0 h0 c a _ _ k => by
 have hlen : es'.length = es.length := by have := congrArg List.length hcs; simpa using this
 have e2 : Go.Proofs.YthblfhgofopcaaaGreat.lk ((r, Ob.arr g sz es') :: σ.hp) .nil = ups [(r, .arr g sz es')] (Go.Proofs.YthblfhgofopcaaaGreat.lk σ.hp .nil) := by
  funext s
  by_cases hs : r = s
  ·subst hs; simp [Go.Proofs.YthblfhgofopcaaaGreat.lk, ups]
  ·simp [Go.Proofs.YthblfhgofopcaaaGreat.lk, ups, hs, Ne.symm hs]
 have old : ∀ (i : Nat) (e' : AV), es'[i]? = some e' → ∃ e, es[i]? = some e ∧ e'.cs = e.cs := fun i e' h => by
  have h1 : (es'.map AV.cs)[i]? = some e'.cs := by rw [List.getElem?_map, h]; rfl
  rw [hcs, List.getElem?_map] at h1
  cases h2 : es[i]? with
  | none => rw [h2] at h1; cases h1
  | some e => rw [h2] at h1; simp at h1; exact ⟨e, rfl, h1.symm⟩
 cases hrl : c.rl r with
 | true =>
  obtain ⟨cs, ty, a1, a2, a3, a4⟩ := k.hp.ar r g sz es hr hrl
  obtain ⟨K, H, _⟩ := set_obj k.hp (g' := g) (es' := es') hr hrl a1 rfl (Nat.le_refl _) (by rw [hlen]; exact a2) (fun i e' h => by
    obtain ⟨e, h1, h2⟩ := old i e' h
    rw [h2]; exact a3 i e h1) (fun i e' j u h hj => by
    obtain ⟨e, h1, h2⟩ := old i e' h
    rw [h2] at hj
    exact a4 i e j u h1 hj) c.w (fun _ _ => rfl) a1 rfl rfl rfl rfl rfl
  exact ⟨c, rfl, ⟨by rw [e2]; exact k.kp.trans K, by rw [e2]; exact H, ⟨k.fr.sz, k.fr.df, fun t => by rw [e2]; exact (k.fr.tm t).ext K.ext⟩⟩⟩
 | false =>
  have h0 := k.hp.em r g sz es hr hrl
  subst h0
  have h1 : es' = [] := List.eq_nil_of_length_eq_zero hlen
  subst h1
  have e3 : ups [(r, Ob.arr g sz [])] (Go.Proofs.YthblfhgofopcaaaGreat.lk σ.hp .nil) = Go.Proofs.YthblfhgofopcaaaGreat.lk σ.hp .nil := by
   funext s
   by_cases hs : s = r
   ·subst hs; simp [ups, hr]
   ·simp [ups, hs]
  exact ⟨c, rfl, ⟨by rw [e2, e3]; exact k.kp, by rw [e2, e3]; exact k.hp, ⟨k.fr.sz, k.fr.df, fun t => by rw [e2, e3]; exact k.fr.tm t⟩⟩⟩
theorem wk_virtA {nt ne : Nat} {σ : St} (r g s nm gn sz j : Nat) {l : List AV} (h1 : Go.Proofs.YthblfhgofopcaaaGreat.lk σ.hp .nil r = .arr g s [.agg l]) (hj : l[j]? = some nilA) (h2 : Go.Proofs.YthblfhgofopcaaaGreat.lk σ.hp .nil nm = .nil) : Wk nt ne σ (virtE r g s nm gn sz [.agg (l.set j (.rsl nm gn 0 0))] σ) :=
 wk_virtE r g s nm gn sz h1 (by simp) h2 (by simp) fun i e e' he he' => by
  cases i with
  | succ i => simp at he
  | zero =>
   simp at he he'
   subst he he'
   refine ⟨by simp [AV.cs], fun k u u' hu hu' => ?_⟩
   simp only [AV.cs] at hu hu'
   rw [List.getElem?_set] at hu'
   split at hu'
   ·rename_i hk
    subst hk
    rw [hj] at hu
    injection hu with hu
    split at hu'
    ·injection hu' with hu'; exact .inr ⟨hu.symm, hu'.symm⟩
    ·cases hu'
   ·rw [hu] at hu'; injection hu' with hu'; exact .inl hu'.symm
theorem asays_lo {P : Program} {f : Nat} {ys : List AV} {res : AV} (h : ACall P f ys [] fun x hl => x.low = res ∧ hl = []) : ASays P f ys res :=
 acall_le (acall_mono h fun x _ hx => ⟨x.low, LeV.low x, hx.1, hx.2⟩)
theorem ClK.go {nt ne : Nat} {K : St → Prop} {σ : St} (hc : ClK nt ne K) (l : List (Nat × Nat)) (d : Nat) (ts : List Nat) (nx : Nat) (tm : List (Nat × AV)) (hp : Hl) (hl : finOk ne l) (h : K ⟨nx, tm, hp⟩) (hs : See (finS l d ts nx σ) tm hp) : K σ := by
 refine hc.w _ _ ((wk_fin (d := d) (nx := nx) (ts := ts) hl).trans (wk_le hs.1 nx)) ?_
 rw [hs.2]; exact h
theorem stepDE_cL {P : Program} (f : Nat) (xs : List AV) (ts : List Nat) (eff : Bool) (d fresh : Prop) (hp : Hl) (nm j : Nat) (ms : List Nat) (fT : List (Nat × List Nat)) (fW : List (Nat × Nat)) (J : AV → List (Nat × List Nat) → Prop) (JU : AV → Nat × Ob → List (Nat × List Nat) → List (Nat × Nat) → Prop) (JC : AV → Hl → Prop) :
  stepDE (.call f xs) ts eff d fresh P hp nm j ms fT fW J JU JC = (d ∧ chkT ms fW j ts = true ∧ CallD P f xs hp nm (fun ρ => chkC nm ms fT fW j ρ xs (ρ.map (LK hp)) = true) fun x hp' => JC x hp') := rfl
section
variable {P : Program} {T : Tys} {nt ne : Nat} {D : List Oper → St → (St → Prop) → Prop} {Q : Exit → St → Prop}
def Upto (P : Program) (T : Tys) (nt ne : Nat) (D : List Oper → St → (St → Prop) → Prop) (Q : Exit → St → Prop) (r x x' : Code) : Prop := ∀ σ, AW P T nt ne D x Q σ = AW P T nt ne D x' (thenA (fun σ' => ∃ σ'', Wk nt ne σ' σ'' ∧ AW P T nt ne D r Q σ'') Q) σ
theorem upto_one (d r : Code) : Upto P T nt ne D Q r (.seq d r) d := fun _ => rfl
theorem upto_seq {r x x' : Code} (a : Code) (h : Upto P T nt ne D Q r x x') : Upto P T nt ne D Q r (.seq a x) (.seq a x') := fun σ => by
 have e1 : (fun σ' => ∃ σ'', Wk nt ne σ' σ'' ∧ AW P T nt ne D x Q σ'') = fun σ' => ∃ σ'', Wk nt ne σ' σ'' ∧ AW P T nt ne D x' (thenA (fun σ' => ∃ σ'', Wk nt ne σ' σ'' ∧ AW P T nt ne D r Q σ'') Q) σ'' := by
  funext σ'; congr 1; funext σ''; rw [h σ'']
 have e2 : ∀ X Y : St → Prop, thenA X (thenA Y Q) = thenA X Q := fun X Y => by
  funext e; cases e <;> rfl
 show AW P T nt ne D a (thenA (fun σ' => ∃ σ'', Wk nt ne σ' σ'' ∧ AW P T nt ne D x Q σ'') Q) σ = AW P T nt ne D a (thenA (fun σ' => ∃ σ'', Wk nt ne σ' σ'' ∧ AW P T nt ne D x' (thenA (fun σ' => ∃ σ'', Wk nt ne σ' σ'' ∧ AW P T nt ne D r Q σ'') Q) σ'') (thenA _ Q)) σ
 rw [e1, e2]
theorem AW_join {r x x' : Code} {σ : St} (hu : Upto P T nt ne D Q r x x') (h : ∀ K : St → Prop, ClK nt ne K → (∀ σ, AW P T nt ne D r Q σ → K σ) → AW P T nt ne D x' (thenA K Q) σ) : AW P T nt ne D x Q σ := by
 rw [hu σ]
 exact h _ ⟨fun _ _ hw ⟨σ2, h2, k⟩ => ⟨σ2, hw.trans h2, k⟩⟩ fun σ h => ⟨σ, .rfl', h⟩
theorem AW_join3 {a b d r : Code} {σ : St} (h : ∀ K : St → Prop, ClK nt ne K → (∀ σ, AW P T nt ne D r Q σ → K σ) → AW P T nt ne D (.seq a (.seq b d)) (thenA K Q) σ) : AW P T nt ne D (.seq a (.seq b (.seq d r))) Q σ := AW_join (upto_seq a (upto_seq b (upto_one d r))) h
end
theorem LeV.slc {f : Bool} {sz : Nat} {es es' : List AV} (hl : es'.length = es.length) (h : ∀ (i : Nat) (e e' : AV), es[i]? = some e → es'[i]? = some e' → LeL e.cs e'.cs) : LeV (.sl f sz es) (.sl f sz es') := by
 intro c hf y k
 have old : ∀ (i : Nat) (e' : AV), es'[i]? = some e' → ∃ e, es[i]? = some e ∧ LeL e.cs e'.cs := fun i e' he => by
  have h1 := (List.getElem?_eq_some_iff.1 he).1
  have h2 := List.getElem?_eq_getElem (l := es) (i := i) (by omega)
  exact ⟨_, h2, h i _ e' h2 he⟩
 cases k with
 | slE _ _ A cap hc =>
  have : es' = [] := List.eq_nil_of_length_eq_zero (by rw [hl]; rfl)
  subst this
  exact .slE f sz A cap hc
 | sl _ _ _ b o cap ys h1 h2 hs hz hc hr =>
  rw [← hl]
  refine RelV.sl f sz es' b o cap ys (by rw [hl]; exact h1) h2 hs (fun i e' he => ?_) (fun i e' j x' he hj => ?_) (fun i e' j x' he hj => ?_)
  ·obtain ⟨e, a1, a2⟩ := old i e' he
   rw [← a2.len]; exact hz i e a1
  ·obtain ⟨e, a1, a2⟩ := old i e' he
   obtain ⟨x, b1, _⟩ := a2.get j x' hj
   exact hc i e j x a1 b1
  ·obtain ⟨e, a1, a2⟩ := old i e' he
   obtain ⟨x, b1, b2⟩ := a2.get j x' hj
   exact b2 _ _ _ (hr i e j x a1 b1)
theorem wk_obL {nt ne : Nat} {σ : St} {r g sz : Nat} {es es' : List AV} (hr : Go.Proofs.YthblfhgofopcaaaGreat.lk σ.hp .nil r = .arr g sz es) (hlen : es'.length = es.length) (he : ∀ (i : Nat) (e e' : AV), es[i]? = some e → es'[i]? = some e' → LeL e.cs e'.cs) : Wk nt ne σ ⟨σ.nx, σ.tm, (r, .arr g sz es') :: σ.hp⟩ := fun c0 h0 c a _ _ k => by
 have e2 : Go.Proofs.YthblfhgofopcaaaGreat.lk ((r, Ob.arr g sz es') :: σ.hp) .nil = ups [(r, .arr g sz es')] (Go.Proofs.YthblfhgofopcaaaGreat.lk σ.hp .nil) := by
  funext s
  by_cases hs : r = s
  ·subst hs; simp [Go.Proofs.YthblfhgofopcaaaGreat.lk, ups]
  ·simp [Go.Proofs.YthblfhgofopcaaaGreat.lk, ups, hs, Ne.symm hs]
 have old : ∀ (i : Nat) (e' : AV), es'[i]? = some e' → ∃ e, es[i]? = some e ∧ LeL e.cs e'.cs := fun i e' h => by
  have h1 := (List.getElem?_eq_some_iff.1 h).1
  have h2 := List.getElem?_eq_getElem (l := es) (i := i) (by omega)
  exact ⟨_, h2, he i _ e' h2 h⟩
 cases hrl : c.rl r with
 | true =>
  obtain ⟨cs, ty, a1, a2, a3, a4⟩ := k.hp.ar r g sz es hr hrl
  obtain ⟨K, H, _⟩ := set_obj k.hp (g' := g) (es' := es') hr hrl a1 rfl (Nat.le_refl _) (by rw [hlen]; exact a2) (fun i e' h => by
    obtain ⟨e, h1, h2⟩ := old i e' h
    rw [← h2.len]; exact a3 i e h1) (fun i e' j u h hj => by
    obtain ⟨e, h1, h2⟩ := old i e' h
    obtain ⟨x, b1, b2⟩ := h2.get j u hj
    obtain ⟨y, hy, hv⟩ := a4 i e j x h1 b1
    exact ⟨y, hy, b2 _ _ _ hv⟩) c.w (fun _ _ => rfl) a1 rfl rfl rfl rfl rfl
  exact ⟨c, rfl, ⟨by rw [e2]; exact k.kp.trans K, by rw [e2]; exact H, ⟨k.fr.sz, k.fr.df, fun t => by rw [e2]; exact (k.fr.tm t).ext K.ext⟩⟩⟩
 | false =>
  have h0 := k.hp.em r g sz es hr hrl
  subst h0
  have h1 : es' = [] := List.eq_nil_of_length_eq_zero hlen
  subst h1
  have e3 : ups [(r, Ob.arr g sz [])] (Go.Proofs.YthblfhgofopcaaaGreat.lk σ.hp .nil) = Go.Proofs.YthblfhgofopcaaaGreat.lk σ.hp .nil := by
   funext s
   by_cases hs : s = r
   ·subst hs; simp [ups, hr]
   ·simp [ups, hs]
  exact ⟨c, rfl, ⟨by rw [e2, e3]; exact k.kp, by rw [e2, e3]; exact k.hp, ⟨k.fr.sz, k.fr.df, fun t => by rw [e2, e3]; exact k.fr.tm t⟩⟩⟩
@[go_sem] theorem opdT_alloc (t : Nat) : (Op.alloc t).operands.toList = [] := rfl
@[go_sem] theorem opdT_makeSlice (t : Nat) (l c : Operand) : (Op.makeSlice t l c).operands.toList = [l, c] := rfl
end
end Go.Proofs.YthblfhgofopcaaaGreat

namespace Go.Proofs.YthblfhgofopcaaaGreat
open Go.RowKit
variable [DM]
theorem CallW.objT {P : Program} {f : Nat} {xs ys : List AV} {hc hp hl : Hl} {v : AV} {nm : Nat} {K : AV → Hl → Prop} (ρ : List Nat) (hC : AObj P f ys hc v hl) (hy : passL (idx 0 ρ) (Go.Proofs.YthblfhgofopcaaaGreat.lk hp .nil) xs = ys) (hh : entry (idx 0 ρ) (Go.Proofs.YthblfhgofopcaaaGreat.lk hp .nil) 0 ρ = hc) (hn : ρ.Nodup)
  (ha : (ρ.all fun r => isArr (Go.Proofs.YthblfhgofopcaaaGreat.lk hp .nil r)) = true) (hb : (v.allT && hl.all fun p => obT p.2) = true) (hcl : Clean hl)
  (hf : ∀ p ∈ hl, ρ[p.1]? = none → Go.Proofs.YthblfhgofopcaaaGreat.lk hp .nil (nm + p.1) = .nil) (h : K (v.ren (rn nm ρ)) (mrgL (rn nm ρ) hl hp)) : CallW P f xs hp nm K := by
 rw [Bool.and_eq_true, List.all_eq_true] at hb
 rw [List.all_eq_true] at ha
 subst hy hh
 refine ⟨ρ, true, _, hC, hn, fun r hr => ?_, .inl rfl, ?_⟩
 ·have := ha r hr
  generalize Go.Proofs.YthblfhgofopcaaaGreat.lk hp .nil r = o at this
  cases o with
  | arr g sz es => exact ⟨_, _, _, rfl⟩
  | _ => cases this
 ·rintro x hl' ⟨rfl, rfl⟩; exact ⟨hcl, fun _ => ⟨hb.1, hb.2⟩, hf, h⟩
theorem CallD.objT {P : Program} {f : Nat} {xs ys : List AV} {hc hp hl : Hl} {v : AV} {nm : Nat} {C : List Nat → Prop} {K : AV → Hl → Prop} (ρ : List Nat) (hC : AObj P f ys hc v hl) (hy : passL (idx 0 ρ) (Go.Proofs.YthblfhgofopcaaaGreat.lk hp .nil) xs = ys) (hh : entry (idx 0 ρ) (Go.Proofs.YthblfhgofopcaaaGreat.lk hp .nil) 0 ρ = hc) (hn : ρ.Nodup)
  (ha : (ρ.all fun r => isArr (Go.Proofs.YthblfhgofopcaaaGreat.lk hp .nil r)) = true) (hb : (v.allT && hl.all fun p => obT p.2) = true) (hc' : C ρ) (hcl : Clean hl)
  (hf : ∀ p ∈ hl, ρ[p.1]? = none → p.1 < 16 ∧ Go.Proofs.YthblfhgofopcaaaGreat.lk hp .nil (nm + p.1) = .nil) (h : K (v.ren (rn nm ρ)) (mrgL (rn nm ρ) hl hp)) : CallD P f xs hp nm C K := by
 rw [Bool.and_eq_true, List.all_eq_true] at hb
 rw [List.all_eq_true] at ha
 subst hy hh
 refine ⟨ρ, true, _, hc', hC, hn, fun r hr => ?_, .inl rfl, ?_⟩
 ·have := ha r hr
  generalize Go.Proofs.YthblfhgofopcaaaGreat.lk hp .nil r = o at this
  cases o with
  | arr g sz es => exact ⟨_, _, _, rfl⟩
  | _ => cases this
 ·rintro x hl' ⟨rfl, rfl⟩; exact ⟨hcl, fun _ => ⟨hb.1, hb.2⟩, hf, h⟩
end Go.Proofs.YthblfhgofopcaaaGreat

namespace Go.Proofs.YthblfhgofopcaaaGreat
open Go.RowKit
variable [DM]
theorem CallW.objET {α : Type} {P : Program} {f : Nat} {xs ys : List AV} {hc hp : Hl} {V : α → AV} {H : α → Hl} {ok : α → Prop} {nm : Nat} {K : AV → Hl → Prop} (ρ : List Nat) (hC : AEx P f ys hc V H ok) (hy : passL (idx 0 ρ) (Go.Proofs.YthblfhgofopcaaaGreat.lk hp .nil) xs = ys) (hh : entry (idx 0 ρ) (Go.Proofs.YthblfhgofopcaaaGreat.lk hp .nil) 0 ρ = hc) (hn : ρ.Nodup)
  (ha : (ρ.all fun r => isArr (Go.Proofs.YthblfhgofopcaaaGreat.lk hp .nil r)) = true) (hb : ∀ a, ((V a).allT && (H a).all fun p => obT p.2) = true) (hcl : ∀ a, Clean (H a))
  (hf : ∀ a, ∀ p ∈ H a, ρ[p.1]? = none → Go.Proofs.YthblfhgofopcaaaGreat.lk hp .nil (nm + p.1) = .nil) (h : ∀ a, ok a → K ((V a).ren (rn nm ρ)) (mrgL (rn nm ρ) (H a) hp)) : CallW P f xs hp nm K := by
 rw [List.all_eq_true] at ha
 subst hy hh
 refine ⟨ρ, true, _, hC, hn, fun r hr => ?_, .inl rfl, ?_⟩
 ·have := ha r hr
  generalize Go.Proofs.YthblfhgofopcaaaGreat.lk hp .nil r = o at this
  cases o with
  | arr g sz es => exact ⟨_, _, _, rfl⟩
  | _ => cases this
 ·rintro x hl' ⟨a, ha', rfl, rfl⟩
  have hb' := hb a
  rw [Bool.and_eq_true, List.all_eq_true] at hb'
  exact ⟨hcl a, fun _ => ⟨hb'.1, hb'.2⟩, hf a, h a ha'⟩
end Go.Proofs.YthblfhgofopcaaaGreat

namespace Go.Proofs.YthblfhgofopcaaaGreat
open Go.RowKit
variable [DM]
theorem acall_arg {P : Program} {f : Nat} {ys ys' : List AV} {hc : Hl} {R : AV → Hl → Prop} (hy : LeL ys ys') (h : ACall P f ys' hc R) : ACall P f ys hc R := by
 refine ⟨h.1, fun c vals hn hh hr => h.2 c vals hn hh ⟨by rw [hr.1, hy.len], fun i u v hu hv => ?_⟩⟩
 obtain ⟨x, h1, h2⟩ := hy.get i u hu
 exact h2 _ _ _ (hr.2 i x v h1 hv)
theorem asays_arg {P : Program} {f : Nat} {ys ys' : List AV} {res : AV} (hy : LeL ys ys') (h : ASays P f ys' res) : ASays P f ys res := acall_arg hy h
end Go.Proofs.YthblfhgofopcaaaGreat
