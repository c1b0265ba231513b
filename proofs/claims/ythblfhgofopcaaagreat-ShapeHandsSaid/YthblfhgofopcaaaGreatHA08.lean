/-
  Parts of the proof: VmM.
-/
import Derived.Test.YthblfhgofopcaaaGreatHA07
set_option linter.all false
namespace Go.Proofs.YthblfhgofopcaaaGreat
open Go.RowKit
variable [DM]
def lk {β : Type} : List (Nat × β) → β → Nat → β
 | [], d, _ => d
 | p :: l, d, t => if p.1 = t then p.2 else lk l d t
def upd {β : Type} : List (Nat × β) → Nat → β → List (Nat × β)
 | [], t, x => [(t, x)]
 | p :: l, t, x => if p.1 = t then (t, x) :: l else p :: upd l t x
theorem lk_upd {β : Type} (l : List (Nat × β)) (d : β) (t : Nat) (x : β) (s : Nat) : lk (upd l t x) d s = if t = s then x else lk l d s := by
 induction l with
 | nil => simp [upd, lk]
 | cons p l ih =>
  simp only [upd]
  by_cases h1 : p.1 = t
  ·rw [if_pos h1]
   simp only [lk]
   by_cases h2 : t = s
   ·rw [if_pos h2, if_pos h2]
   ·rw [if_neg h2, if_neg h2, if_neg (by omega)]
  ·rw [if_neg h1]
   simp only [lk, ih]
   by_cases h2 : p.1 = s
   ·rw [if_pos h2, if_pos h2, if_neg (by omega)]
   ·rw [if_neg h2, if_neg h2]
theorem lk_mem {l : List (Nat × Ob)} {i : Nat} (h : lk l .nil i ≠ .nil) : (i, lk l .nil i) ∈ l := by
 induction l with
 | nil => exact absurd rfl h
 | cons p l ih =>
  simp only [lk] at h ⊢
  by_cases h1 : p.1 = i
  ·rw [if_pos h1]; subst h1; exact List.mem_cons_self
  ·rw [if_neg h1] at h ⊢; exact List.mem_cons_of_mem _ (ih h)
theorem mem_lk {l : List (Nat × Ob)} (hn : (l.map (·.1)).Nodup) {p : Nat × Ob} (h : p ∈ l) : lk l .nil p.1 = p.2 := by
 induction l with
 | nil => cases h
 | cons q l ih =>
  rw [List.map_cons, List.nodup_cons] at hn
  simp only [lk]
  rcases List.mem_cons.1 h with rfl | h
  ·rw [if_pos rfl]
  ·rw [if_neg (fun he : q.1 = p.1 => hn.1 (by rw [he]; exact List.mem_map_of_mem (f := (·.1)) h)), ih hn.2 h]
abbrev Hl := List (Nat × Ob)
def RelL (c : Cx) (h : HF) (xs : List AV) (vals : Array Value) : Prop := vals.size = xs.length ∧ ∀ (i : Nat) (u : AV) (v : Value), xs[i]? = some u → vals[i]? = some v → RelV c h u v
def ACall (P : Program) (f : Nat) (ys : List AV) (hc : Hl) (R : AV → Hl → Prop) : Prop :=
 Ent P f ∧ ∀ (c : Cx) (vals : Array Value), c.n0 = c.w.heap.size → RelH c (lk hc .nil) → RelL c (lk hc .nil) ys vals →
  Calls P f vals c.w fun e w' => ∃ v x hl c', e = .returned v ∧ c'.w = w' ∧ R x hl ∧ Keep c (lk hc .nil) c' (lk hl .nil) ∧ RelH c' (lk hl .nil) ∧ RelV c' (lk hl .nil) x v
def passO (inv : Nat → Option Nat) (h : HF) : Ob → Ob
 | .arr g sz es => .arr g sz (passL inv h es)
 | o => o
def idx : Nat → List Nat → Nat → Option Nat
 | _, [], _ => none
 | i, s :: ρ, r => if s = r then some i else idx (i + 1) ρ r
def entry (inv : Nat → Option Nat) (h : HF) : Nat → List Nat → Hl
 | _, [] => []
 | i, r :: ρ => (i, passO inv h (h r)) :: entry inv h (i + 1) ρ
def rn (base : Nat) (ρ : List Nat) (i : Nat) : Nat := (ρ[i]?).getD (base + i)
def mrg (q : Nat → Nat) : Hl → HF → HF
 | [], h => h
 | p :: l, h => fun r => if q p.1 = r then renO q p.2 else mrg q l h r
def mrgL (q : Nat → Nat) : Hl → Hl → Hl
 | [], hp => hp
 | p :: l, hp => upd (mrgL q l hp) (q p.1) (renO q p.2)
theorem lk_mrg (q : Nat → Nat) (hl hp : Hl) : lk (mrgL q hl hp) .nil = mrg q hl (lk hp .nil) := by
 induction hl with
 | nil => rfl
 | cons p l ih => funext r; simp only [mrgL, mrg, lk_upd, ih]
def obT : Ob → Bool
 | .arr _ _ es => allTL es
 | _ => true
def Clean (hl : Hl) : Prop := (hl.map (·.1)).Nodup ∧ ∀ p ∈ hl, p.2 ≠ .nil
theorem idx_some {ρ : List Nat} {k r i : Nat} (h : idx k ρ r = some i) : k ≤ i ∧ ρ[i - k]? = some r := by
 induction ρ generalizing k with
 | nil => cases h
 | cons s ρ ih =>
  simp only [idx] at h
  split at h
  ·rename_i hs
   injection h with h
   subst h hs
   exact ⟨Nat.le_refl _, by simp⟩
  ·obtain ⟨h1, h2⟩ := ih h
   refine ⟨by omega, ?_⟩
   rw [show i - k = (i - (k + 1)) + 1 by omega, List.getElem?_cons_succ]
   exact h2
theorem idx_of {ρ : List Nat} (hn : ρ.Nodup) {k r i : Nat} (h : ρ[i]? = some r) : idx k ρ r = some (k + i) := by
 induction ρ generalizing k i with
 | nil => simp at h
 | cons s ρ ih =>
  rw [List.nodup_cons] at hn
  simp only [idx]
  cases i with
  | zero => simp at h; subst h; simp
  | succ i =>
   simp at h
   rw [if_neg (fun he : s = r => hn.1 (by rw [he]; exact List.mem_of_getElem? h)), ih hn.2 h]
   congr 1; omega
theorem lk_entry (inv : Nat → Option Nat) (h : HF) (ρ : List Nat) (k i : Nat) : lk (entry inv h k ρ) .nil i = if k ≤ i then (match ρ[i - k]? with | some r => passO inv h (h r) | none => .nil) else .nil := by
 induction ρ generalizing k with
 | nil => simp [entry, lk]
 | cons s ρ ih =>
  simp only [entry, lk]
  by_cases h1 : k = i
  ·subst h1; simp
  ·rw [if_neg h1, ih]
   by_cases h2 : k ≤ i
   ·rw [if_pos h2, if_pos (show k + 1 ≤ i by omega), show i - k = (i - (k + 1)) + 1 by omega, List.getElem?_cons_succ]
   ·rw [if_neg h2, if_neg (by omega)]
theorem mrg_in {q : Nat → Nat} {hl : Hl} {h : HF} (hc : Clean hl) (hq : ∀ p ∈ hl, ∀ p' ∈ hl, q p.1 = q p'.1 → p.1 = p'.1) {i : Nat} (hi : lk hl .nil i ≠ .nil) : mrg q hl h (q i) = renO q (lk hl .nil i) := by
 have hm := lk_mem hi
 generalize lk hl .nil i = ob at hm
 clear hi
 induction hl with
 | nil => cases hm
 | cons p l ih =>
  obtain ⟨hn, hz⟩ := hc
  simp only [mrg]
  rcases List.mem_cons.1 hm with rfl | hm'
  ·rw [if_pos rfl]
  ·rw [if_neg (fun he => by
    have := hq p List.mem_cons_self (i, ob) hm he
    rw [List.map_cons, List.nodup_cons] at hn
    exact hn.1 (this ▸ List.mem_map_of_mem (f := (·.1)) hm'))]
   exact ih ⟨(List.nodup_cons.1 hn).2, fun p hp => hz p (List.mem_cons_of_mem _ hp)⟩ (fun a ha b hb => hq a (List.mem_cons_of_mem _ ha) b (List.mem_cons_of_mem _ hb)) hm'
theorem mrg_out {q : Nat → Nat} {hl : Hl} {h : HF} {r : Nat} (hr : ∀ p ∈ hl, q p.1 ≠ r) : mrg q hl h r = h r := by
 induction hl with
 | nil => rfl
 | cons p l ih =>
  simp only [mrg]
  rw [if_neg (hr p List.mem_cons_self)]
  exact ih fun p hp => hr p (List.mem_cons_of_mem _ hp)
section
variable {P : Program} {c : Cx} {h : HF}
theorem call_gen {f : Nat} {xs : List AV} {vals : Array Value} {ρ : List Nat} {base : Nat} {bm : Bool} {R : AV → Hl → Prop}
  (hC : ACall P f (passL (idx 0 ρ) h xs) (entry (idx 0 ρ) h 0 ρ) R) (hh : RelH c h) (hx : RelL c h xs vals) (hn : ρ.Nodup) (hl : ∀ r ∈ ρ, ∃ g sz es, h r = .arr g sz es) (hsz : c.n0 ≤ c.w.heap.size)
  (hb : bm = true ∨ (nobL (idx 0 ρ) xs = true ∧ ∀ r ∈ ρ, ∀ g sz es, h r = .arr g sz es → nobL (idx 0 ρ) es = true))
  (hR : ∀ x hl, R x hl → Clean hl ∧ (bm = true → x.allT = true ∧ ∀ p ∈ hl, obT p.2 = true) ∧ ∀ p ∈ hl, ρ[p.1]? = none → h (base + p.1) = .nil) :
  Calls P f vals c.w fun e w' => ∃ v x hl c', e = .returned v ∧ c'.w = w' ∧ R x hl ∧ Keep c h c' (mrg (rn base ρ) hl h) ∧ RelH c' (mrg (rn base ρ) hl h) ∧ RelV c' (mrg (rn base ρ) hl h) (x.ren (rn base ρ)) v := by
 classical
 obtain ⟨_, hC⟩ := hC
 generalize hinv : idx 0 ρ = inv at *
 have inv_at : ∀ r i, inv r = some i → ρ[i]? = some r := fun r i hi => by rw [← hinv] at hi; simpa using (idx_some hi).2
 have at_inv : ∀ r i, ρ[i]? = some r → inv r = some i := fun r i hi => by rw [← hinv]; simpa using idx_of hn (k := 0) hi
 let h1 : HF := lk (entry inv h 0 ρ) .nil
 have h1_at : ∀ i r, ρ[i]? = some r → h1 i = passO inv h (h r) := fun i r hi => by simp only [h1, lk_entry]; simp [hi]
 have h1_none : ∀ i, ρ[i]? = none → h1 i = .nil := fun i hi => by simp only [h1, lk_entry]; simp [hi]
 have h1_arr : ∀ i g sz es, h1 i = .arr g sz es → ∃ r es0, ρ[i]? = some r ∧ h r = .arr g sz es0 ∧ es = passL inv h es0 := fun i g sz es hi => by
  cases hr : ρ[i]? with
  | none => rw [h1_none i hr] at hi; cases hi
  | some r =>
   rw [h1_at i r hr] at hi
   obtain ⟨g0, sz0, es0, h0⟩ := hl r (List.mem_of_getElem? hr)
   rw [h0] at hi
   simp only [passO] at hi
   injection hi with e1 e2 e3
   subst e1 e2
   exact ⟨r, es0, rfl, h0, e3.symm⟩
 have arr_h1 : ∀ i r g sz es, ρ[i]? = some r → h r = .arr g sz es → h1 i = .arr g sz (passL inv h es) := fun i r g sz es hi hr => by rw [h1_at i r hi, hr]; rfl
 let c1 : Cx := { w := c.w, bl := fun i => c.bl (rn base ρ i), rl := fun i => c.rl (rn base ρ i), okT := fun b => Stab c h true b, okF := fun b => if bm = true then True else Stab c h false b, n0 := c.w.heap.size }
 have c1bl : ∀ i, c1.bl i = c.bl (rn base ρ i) := fun _ => rfl
 have c1rl : ∀ i, c1.rl i = c.rl (rn base ρ i) := fun _ => rfl
 have rn_at : ∀ i r, ρ[i]? = some r → rn base ρ i = r := fun i r hi => by simp [rn, hi]
 have mut1 : ∀ b, Mut c1 h1 b → Mut c h b := fun b ⟨i, g, sz, es, hi, hrl, hbl⟩ => by
  obtain ⟨r, es0, e1, e2, _⟩ := h1_arr i g sz es hi
  have e3 := rn_at i r e1
  exact ⟨r, g, sz, es0, e2, by rw [← e3]; exact hrl, by rw [← e3]; exact hbl⟩
 have stab_tf : ∀ f b, Stab c h f b → Stab c h false b := fun f b ⟨s1, s2, s3⟩ => by
  refine ⟨s1, s2, ?_⟩
  rcases s3 with s3 | s3 | s3
  ·exact .inl s3
  ·exact .inr (.inl s3)
  ·exact .inr (.inr ⟨rfl, s3.2⟩)
 have st1 : ∀ f b, Stab c h f b → Stab c1 h1 false b := fun f b hs => by
  refine ⟨hs.1, fun hm => hs.2.1 (mut1 b hm), .inr (.inr ⟨rfl, ?_⟩)⟩
  show if bm = true then True else Stab c h false b
  split
  ·trivial
  ·exact stab_tf f b hs
 have V : View c h c1 h1 inv := {
  w := rfl
  st := st1
  ar := fun r i g sz es hi hr => ⟨_, arr_h1 i r g sz es (inv_at r i hi) hr⟩
  dd := fun r i hi hr => by
   obtain ⟨g0, sz0, es0, h0⟩ := hl r (List.mem_of_getElem? (inv_at r i hi))
   rw [hr] at h0; cases h0
  bl := fun r i hi => by
   have e3 := rn_at i r (inv_at r i hi)
   exact ⟨by simp only [c1, e3], by simp only [c1, e3]⟩ }
 have hbor : bm = true → ∀ r g sz es, inv r = none → h r = .arr g sz es → c.rl r = true → Stab c1 h1 false (c.bl r) := fun hbm r g sz es hi hr hrl => by
  obtain ⟨cs, ty, a1, _⟩ := hh.ar r g sz es hr hrl
  refine ⟨lt_of_block a1, ?_, .inr (.inr ⟨rfl, by simp [c1, hbm]⟩)⟩
  rintro ⟨i, g1, s1, e1, hi1, hl1, hb1⟩
  obtain ⟨r1, es1, k1, k2, _⟩ := h1_arr i g1 s1 e1 hi1
  have e3 := rn_at i r1 k1
  have : r = r1 := hh.inj r r1 g g1 sz s1 es es1 hr k2 hrl (by rw [← e3]; exact hl1) (by rw [← e3]; exact hb1.symm)
  rw [this, at_inv r1 i k1] at hi; cases hi
 have passV : ∀ (x : AV) (y : Value), RelV c h x y → (bm = true ∨ x.nob inv = true) → RelV c1 h1 (x.pass inv h) y := fun x y hk hq => hk.pass V hh (hq.imp hbor id)
 have RH1 : RelH c1 h1 := {
  ar := fun i g sz es hi hrl => by
   obtain ⟨r, es0, k1, k2, rfl⟩ := h1_arr i g sz es hi
   have e3 := rn_at i r k1
   obtain ⟨cs, ty, a1, a2, a3, a4⟩ := hh.ar r g sz es0 k2 (by rw [← e3]; exact hrl)
   refine ⟨cs, ty, by simp only [c1, e3]; exact a1, by rw [passL_map, List.length_map]; exact a2, fun m e he => ?_, fun m e j u he hj => ?_⟩
   ·rw [passL_map] at he
    obtain ⟨e', he', rfl⟩ := map_some he
    rw [pass_cs, List.length_map]; exact a3 m e' he'
   ·rw [passL_map] at he
    obtain ⟨e', he', rfl⟩ := map_some he
    rw [pass_cs] at hj
    obtain ⟨u', hu', rfl⟩ := map_some hj
    obtain ⟨y, hy, hv⟩ := a4 m e' j u' he' hu'
    exact ⟨y, hy, passV u' y hv (hb.imp id fun hq => by
     have := hq.2 r (List.mem_of_getElem? k1) g sz es0 k2
     rw [nobL_all] at this
     exact nob_cs (this _ (List.mem_of_getElem? he')) (List.mem_of_getElem? hu'))⟩
  em := fun i g sz es hi hrl => by
   obtain ⟨r, es0, k1, k2, rfl⟩ := h1_arr i g sz es hi
   have e3 := rn_at i r k1
   rw [hh.em r g sz es0 k2 (by rw [← e3]; exact hrl)]; rfl
  inj := fun i i' g g' sz sz' es es' hi hi' hrl hrl' hbb => by
   obtain ⟨r, es0, k1, k2, _⟩ := h1_arr i g sz es hi
   obtain ⟨r', es0', k1', k2', _⟩ := h1_arr i' g' sz' es' hi'
   have e3 := rn_at i r k1
   have e3' := rn_at i' r' k1'
   have : r = r' := hh.inj r r' g g' sz sz' es0 es0' k2 k2' (by rw [← e3]; exact hrl) (by rw [← e3']; exact hrl') (by rw [← e3, ← e3']; exact hbb)
   subst this
   have a := at_inv r i k1
   rw [at_inv r i' k1'] at a
   injection a with a
   exact a.symm }
 have RL1 : RelL c1 h1 (passL inv h xs) vals := ⟨by rw [passL_map, List.length_map]; exact hx.1, fun i u v hu hv => by
  rw [passL_map] at hu
  obtain ⟨u', hu', rfl⟩ := map_some hu
  exact passV u' v (hx.2 i u' v hu' hv) (hb.imp id fun hq => by
   have := hq.1; rw [nobL_all] at this; exact this _ (List.mem_of_getElem? hu'))⟩
 refine (hC c1 vals rfl RH1 RL1).mono ?_
 rintro e w' ⟨v, x, hl', c1', rfl, rfl, hRx, K1, RH1', RV1⟩
 obtain ⟨hcl, hbT, hfresh⟩ := hR x hl' hRx
 generalize hq : rn base ρ = q at *
 let h1' : HF := lk hl' .nil
 have live_key : ∀ i, h1' i ≠ .nil → (i, h1' i) ∈ hl' := fun i hi => lk_mem hi
 have key_live : ∀ p ∈ hl', h1' p.1 = p.2 ∧ p.2 ≠ .nil := fun p hp => ⟨mem_lk hcl.1 hp, hcl.2 p hp⟩
 have qnew : ∀ i, ρ[i]? = none → q i = base + i := fun i hi => by rw [← hq]; simp [rn, hi]
 have fresh : ∀ i, h1' i ≠ .nil → ρ[i]? = none → h (q i) = .nil := fun i hi hr => by rw [qnew i hr]; exact hfresh (i, h1' i) (live_key i hi) hr
 have qinj : ∀ i j, h1' i ≠ .nil → h1' j ≠ .nil → q i = q j → i = j := fun i j hi hj he => by
  cases ri : ρ[i]? with
  | some r =>
   have e1 := rn_at i r ri
   cases rj : ρ[j]? with
   | some s =>
    have e2 := rn_at j s rj
    rw [e1, e2] at he
    subst he
    have a := at_inv r i ri
    rw [at_inv r j rj] at a
    injection a with a
    exact a.symm
   | none =>
    have := fresh j hj rj
    rw [← he, e1] at this
    obtain ⟨g0, sz0, es0, h0⟩ := hl r (List.mem_of_getElem? ri)
    rw [this] at h0; cases h0
  | none =>
   cases rj : ρ[j]? with
   | some s =>
    have e2 := rn_at j s rj
    have := fresh i hi ri
    rw [he, e2] at this
    obtain ⟨g0, sz0, es0, h0⟩ := hl s (List.mem_of_getElem? rj)
    rw [this] at h0; cases h0
   | none => rw [qnew i ri, qnew j rj] at he; omega
 have min : ∀ i, h1' i ≠ .nil → mrg q hl' h (q i) = renO q (h1' i) := fun i hi => mrg_in hcl (fun p hp p' hp' he => qinj p.1 p'.1 (by rw [(key_live p hp).1]; exact (key_live p hp).2) (by rw [(key_live p' hp').1]; exact (key_live p' hp').2) he) hi
 have mout : ∀ r, (∀ i, h1' i ≠ .nil → q i ≠ r) → mrg q hl' h r = h r := fun r hr => mrg_out fun p hp => hr p.1 (by rw [(key_live p hp).1]; exact (key_live p hp).2)
 let c' : Cx := { w := c1'.w, bl := fun r => if hx : ∃ i, h1' i ≠ .nil ∧ q i = r then c1'.bl hx.choose else c.bl r, rl := fun r => if hx : ∃ i, h1' i ≠ .nil ∧ q i = r then c1'.rl hx.choose else c.rl r, okT := c.okT, okF := c.okF, n0 := c.n0 }
 have bin : ∀ i, h1' i ≠ .nil → c'.bl (q i) = c1'.bl i ∧ c'.rl (q i) = c1'.rl i := fun i hi => by
  have hex : ∃ j, h1' j ≠ .nil ∧ q j = q i := ⟨i, hi, rfl⟩
  have hch := hex.choose_spec
  have he := qinj _ _ hch.1 hi hch.2
  exact ⟨by simp only [c', dif_pos hex, he], by simp only [c', dif_pos hex, he]⟩
 have bout : ∀ r, (∀ i, h1' i ≠ .nil → q i ≠ r) → c'.bl r = c.bl r ∧ c'.rl r = c.rl r := fun r hr => by
  have hex : ¬ ∃ i, h1' i ≠ .nil ∧ q i = r := fun ⟨i, a, b⟩ => hr i a b
  exact ⟨by simp only [c', dif_neg hex], by simp only [c', dif_neg hex]⟩
 have entry_live : ∀ i r g sz es, ρ[i]? = some r → h r = .arr g sz es → h1' i ≠ .nil := fun i r g sz es hi hr he => by
  have ha := arr_h1 i r g sz es hi hr
  rcases K1.ar i g sz _ ha with hd | ⟨g', es', ha', _⟩
  ·rw [show lk hl' .nil i = h1' i from rfl, he] at hd; cases hd
  ·rw [show lk hl' .nil i = h1' i from rfl, he] at ha'; cases ha'
 have K : Keep c h c' (mrg q hl' h) := {
  dr := K1.dr
  os := K1.os
  tape := K1.tape
  output := K1.output
  size := K1.size
  blk := fun b hb hm => K1.blk b hb fun hm1 => hm (mut1 b hm1)
  dd := fun r hr => by
   rw [mout r fun i hi he => ?_]; exact hr
   cases ri : ρ[i]? with
   | some s =>
    have e1 := rn_at i s ri
    rw [e1] at he; subst he
    obtain ⟨g0, sz0, es0, h0⟩ := hl s (List.mem_of_getElem? ri)
    rw [hr] at h0; cases h0
   | none =>
    have := fresh i hi ri
    rw [he, hr] at this; cases this
  ar := fun r g sz es hr => by
   by_cases hex : ∃ i, h1' i ≠ .nil ∧ q i = r
   ·obtain ⟨i, hi, rfl⟩ := hex
    cases ri : ρ[i]? with
    | none => have := fresh i hi ri; rw [this] at hr; cases hr
    | some s =>
     have e1 := rn_at i s ri
     rw [e1] at hr ⊢
     have ha := arr_h1 i s g sz es ri hr
     obtain ⟨b1, b2⟩ := bin i hi
     rw [e1] at b1 b2
     have hm := min i hi
     rw [e1] at hm
     rcases K1.ar i g sz _ ha with hd | ⟨g', es', ha', hle, heq⟩
     ·exact .inl (by rw [hm, show h1' i = .dead from hd]; rfl)
     ·refine .inr ⟨g', renL q es', by rw [hm, show h1' i = .arr g' sz es' from ha']; rfl, hle, fun he => ?_⟩
      obtain ⟨d1, d2, d3⟩ := heq he
      have d1' : c1'.bl i = c.bl s := by rw [d1, c1bl, e1]
      have d2' : c1'.rl i = c.rl s := by rw [d2, c1rl, e1]
      refine ⟨by rw [b1, d1'], by rw [b2, d2'], fun hrl cs ty hcs => ?_⟩
      have := d3 (by rw [c1rl, e1]; exact hrl) cs ty (by rw [c1bl, e1]; exact hcs)
      rw [c1bl, e1] at this
      exact this
   ·have hno : ∀ i, h1' i ≠ .nil → q i ≠ r := fun i a b => hex ⟨i, a, b⟩
    obtain ⟨b1, b2⟩ := bout r hno
    refine .inr ⟨g, es, by rw [mout r hno]; exact hr, Nat.le_refl _, fun _ => ⟨b1, b2, fun hrl cs ty hcs => ⟨cs, ?_, rfl⟩⟩⟩
    rw [← hcs]
    refine K1.blk _ (lt_of_block hcs) ?_
    rintro ⟨i, g1, s1, es1, hi1, hl1, hb1⟩
    obtain ⟨s, es0, k1, k2, _⟩ := h1_arr i g1 s1 es1 hi1
    have e1 := rn_at i s k1
    have : r = s := hh.inj r s g g1 sz s1 es es0 hr k2 hrl (by rw [← e1, ← c1rl]; exact hl1) (by rw [← e1, ← c1bl]; exact hb1.symm)
    exact hno i (entry_live i s g1 s1 es0 k1 k2) (by rw [e1, this])
  fr := fun r g sz es hr hrl => by
   by_cases hex : ∃ i, h1' i ≠ .nil ∧ q i = r
   ·obtain ⟨i, hi, rfl⟩ := hex
    obtain ⟨b1, b2⟩ := bin i hi
    rw [min i hi] at hr
    cases hob : h1' i with
    | nil => exact absurd hob hi
    | dead => rw [hob] at hr; cases hr
    | arr g' sz' es' =>
     rw [hob] at hr
     injection hr with e1 e2 e3
     subst e1 e2
     rcases K1.fr i g' sz' es' hob (by rw [← b2]; exact hrl) with k1 | ⟨g0, es0, k1, k2, k3⟩
     ·exact .inl (by rw [b1]; exact k1)
     ·obtain ⟨s, es1, j1, j2, _⟩ := h1_arr i g0 sz' es0 k1
      have e1 := rn_at i s j1
      exact .inr ⟨g0, es1, by rw [e1]; exact j2, by rw [← c1rl]; exact k2, by rw [b1, k3, c1bl]⟩
   ·have hno : ∀ i, h1' i ≠ .nil → q i ≠ r := fun i a b => hex ⟨i, a, b⟩
    obtain ⟨b1, b2⟩ := bout r hno
    rw [mout r hno] at hr
    exact .inr ⟨g, es, hr, by rw [← b2]; exact hrl, b1⟩
  okT := rfl
  okF := rfl
  n0 := rfl }
 have size1 : c.w.heap.size ≤ c1'.w.heap.size := K1.size
 have stUp : ∀ f b, Stab c1' h1' f b → (f = true ∨ bm = false) → Stab c' (mrg q hl' h) f b := fun f b ⟨s1, s2, s3⟩ hf => by
  have hmem : c.w.heap.size ≤ b ∨ Stab c h f b := by
   rw [K1.n0, K1.okT, K1.okF] at s3
   rcases s3 with s3 | s3 | ⟨rfl, s3⟩
   ·exact .inl s3
   ·refine .inr ?_
    have s3' : Stab c h true b := s3
    cases f
    ·exact stab_tf true b s3'
    ·exact s3'
   ·have s3' : if bm = true then True else Stab c h false b := s3
    rcases hf with hf | hf
    ·cases hf
    ·rw [hf] at s3'; simp at s3'; exact .inr s3'
  refine ⟨s1, ?_, ?_⟩
  ·rintro ⟨r, g, sz, es, hr, hrl, hbl⟩
   by_cases hex : ∃ i, h1' i ≠ .nil ∧ q i = r
   ·obtain ⟨i, hi, rfl⟩ := hex
    obtain ⟨b1, b2⟩ := bin i hi
    rw [min i hi] at hr
    cases hob : h1' i with
    | nil => exact absurd hob hi
    | dead => rw [hob] at hr; cases hr
    | arr g' sz' es' => exact s2 ⟨i, g', sz', es', hob, by rw [← b2]; exact hrl, by rw [← b1]; exact hbl⟩
   ·have hno : ∀ i, h1' i ≠ .nil → q i ≠ r := fun i a b => hex ⟨i, a, b⟩
    obtain ⟨b1, b2⟩ := bout r hno
    rw [mout r hno] at hr
    rw [b1] at hbl; rw [b2] at hrl
    obtain ⟨cs, ty, a1, _⟩ := hh.ar r g sz es hr hrl
    have := lt_of_block a1
    rcases hmem with hm | hm
    ·omega
    ·exact hm.2.1 ⟨r, g, sz, es, hr, hrl, hbl⟩
  ·rcases hmem with hm | hm
   ·exact .inl (Nat.le_trans hsz hm)
   ·exact hm.2.2
 have ho : ∀ i, h1' i ≠ .nil → mrg q hl' h (q i) = renO q (h1' i) ∧ c'.bl (q i) = c1'.bl i ∧ c'.rl (q i) = c1'.rl i := fun i hi => ⟨min i hi, bin i hi⟩
 have up : ∀ (u : AV) (y : Value), RelV c1' h1' u y → (bm = true → u.allT = true) → RelV c' (mrg q hl' h) (u.ren q) y := fun u y hu ha =>
  RelV.up (c := c') (c1 := c1') (h := mrg q hl' h) (h1 := h1') (ρ := q) rfl (fun b hs => stUp true b hs (.inl rfl)) ho hu (by
   cases hbm : bm
   ·exact .inl fun b hs => stUp false b hs (.inr hbm)
   ·exact .inr (ha hbm))
 refine ⟨v, x, hl', c', rfl, rfl, hRx, K, ⟨?_, ?_, ?_⟩, up x v RV1 fun hbm => (hbT hbm).1⟩
 ·intro r g sz es hr hrl
  by_cases hex : ∃ i, h1' i ≠ .nil ∧ q i = r
  ·obtain ⟨i, hi, rfl⟩ := hex
   obtain ⟨b1, b2⟩ := bin i hi
   rw [min i hi] at hr
   cases hob : h1' i with
   | nil => exact absurd hob hi
   | dead => rw [hob] at hr; cases hr
   | arr g' sz' es' =>
    rw [hob] at hr
    simp only [renO] at hr
    injection hr with e1 e2 e3
    subst e1 e2 e3
    obtain ⟨cs, ty, a1, a2, a3, a4⟩ := RH1'.ar i g' sz' es' hob (by rw [← b2]; exact hrl)
    refine ⟨cs, ty, by rw [b1]; exact a1, by rw [renL_map, List.length_map]; exact a2, fun m e he => ?_, fun m e j u he hj => ?_⟩
    ·rw [renL_map] at he
     obtain ⟨e', he', rfl⟩ := map_some he
     rw [ren_cs, List.length_map]; exact a3 m e' he'
    ·rw [renL_map] at he
     obtain ⟨e', he', rfl⟩ := map_some he
     rw [ren_cs] at hj
     obtain ⟨u', hu', rfl⟩ := map_some hj
     obtain ⟨y, hy, hv⟩ := a4 m e' j u' he' hu'
     refine ⟨y, hy, up u' y hv fun hbm => ?_⟩
     have := (hbT hbm).2 _ (live_key i hi)
     rw [hob] at this
     simp only [obT, allTL_all] at this
     exact allT_cs (this _ (List.mem_of_getElem? he')) (List.mem_of_getElem? hu')
  ·have hno : ∀ i, h1' i ≠ .nil → q i ≠ r := fun i a b => hex ⟨i, a, b⟩
   obtain ⟨b1, b2⟩ := bout r hno
   rw [mout r hno] at hr
   rw [b2] at hrl
   obtain ⟨cs, ty, a1, a2, a3, a4⟩ := hh.ar r g sz es hr hrl
   have hsame : c1'.w.heap[c.bl r]? = c.w.heap[c.bl r]? := K1.blk _ (lt_of_block a1) (by
    rintro ⟨i, g1, s1, es1, hi1, hl1, hb1⟩
    obtain ⟨s, es0, k1, k2, _⟩ := h1_arr i g1 s1 es1 hi1
    have e1 := rn_at i s k1
    have : r = s := hh.inj r s g g1 sz s1 es es0 hr k2 hrl (by rw [← e1, ← c1rl]; exact hl1) (by rw [← e1, ← c1bl]; exact hb1.symm)
    exact hno i (entry_live i s g1 s1 es0 k1 k2) (by rw [e1, this]))
   exact ⟨cs, ty, by rw [b1]; exact hsame.trans a1, a2, a3, fun m e j u he hj => by
    obtain ⟨y, hy, hv⟩ := a4 m e j u he hj
    exact ⟨y, hy, hv.ext K.ext⟩⟩
 ·intro r g sz es hr hrl
  by_cases hex : ∃ i, h1' i ≠ .nil ∧ q i = r
  ·obtain ⟨i, hi, rfl⟩ := hex
   obtain ⟨b1, b2⟩ := bin i hi
   rw [min i hi] at hr
   cases hob : h1' i with
   | nil => exact absurd hob hi
   | dead => rw [hob] at hr; cases hr
   | arr g' sz' es' =>
    rw [hob] at hr
    simp only [renO] at hr
    injection hr with e1 e2 e3
    rw [← e3, RH1'.em i g' sz' es' hob (by rw [← b2]; exact hrl)]; rfl
  ·have hno : ∀ i, h1' i ≠ .nil → q i ≠ r := fun i a b => hex ⟨i, a, b⟩
   obtain ⟨b1, b2⟩ := bout r hno
   rw [mout r hno] at hr
   rw [b2] at hrl
   exact hh.em r g sz es hr hrl
 ·intro r r' g g' sz sz' es es' hr hr' hrl hrl' hbb
  by_cases hex : ∃ i, h1' i ≠ .nil ∧ q i = r <;> by_cases hex' : ∃ i, h1' i ≠ .nil ∧ q i = r'
  ·obtain ⟨i, hi, rfl⟩ := hex
   obtain ⟨i', hi', rfl⟩ := hex'
   obtain ⟨b1, b2⟩ := bin i hi
   obtain ⟨b1', b2'⟩ := bin i' hi'
   rw [min i hi] at hr
   rw [min i' hi'] at hr'
   cases hob : h1' i with
   | nil => exact absurd hob hi
   | dead => rw [hob] at hr; cases hr
   | arr g2 sz2 es2 =>
    cases hob' : h1' i' with
    | nil => exact absurd hob' hi'
    | dead => rw [hob'] at hr'; cases hr'
    | arr g3 sz3 es3 => rw [RH1'.inj i i' g2 g3 sz2 sz3 es2 es3 hob hob' (by rw [← b2]; exact hrl) (by rw [← b2']; exact hrl') (by rw [← b1, ← b1']; exact hbb)]
  all_goals
   have far : ∀ i s g1 s1 es1, h1' i ≠ .nil → (∀ j, h1' j ≠ .nil → q j ≠ s) → mrg q hl' h (q i) = .arr g sz es ∨ mrg q hl' h (q i) = .arr g' sz' es' → c'.rl (q i) = true → h s = .arr g1 s1 es1 → c.rl s = true → c'.bl (q i) ≠ c.bl s := fun i s g1 s1 es1 hi hno ho' hrl1 hs hrl2 he => by
    obtain ⟨b1, b2⟩ := bin i hi
    rw [min i hi] at ho'
    cases hob : h1' i with
    | nil => exact absurd hob hi
    | dead => rw [hob] at ho'; rcases ho' with ho' | ho' <;> cases ho'
    | arr g2 sz2 es2 =>
     obtain ⟨cs, ty, a1, _⟩ := hh.ar s g1 s1 es1 hs hrl2
     have hlt := lt_of_block a1
     rcases K1.fr i g2 sz2 es2 hob (by rw [← b2]; exact hrl1) with k1 | ⟨g0, es0, k1, k2, k3⟩
     ·have k1' : c.w.heap.size ≤ c1'.bl i := k1
      rw [b1] at he; omega
     ·obtain ⟨t, est, j1, j2, _⟩ := h1_arr i g0 sz2 es0 k1
      have e1 := rn_at i t j1
      have k3' : c1'.bl i = c.bl (q i) := by rw [k3, c1bl]
      have k2' : c.rl (q i) = true := by rw [← c1rl]; exact k2
      rw [b1, k3', e1] at he
      rw [e1] at k2'
      have : t = s := hh.inj t s g0 g1 sz2 s1 est es1 j2 hs k2' hrl2 he
      exact hno i hi (by rw [e1, this])
  ·obtain ⟨i, hi, rfl⟩ := hex
   have hno : ∀ j, h1' j ≠ .nil → q j ≠ r' := fun j a b => hex' ⟨j, a, b⟩
   obtain ⟨b1, b2⟩ := bout r' hno
   exact absurd (by rw [← b1]; exact hbb) (far i r' g' sz' es' hi hno (.inl hr) hrl (by rw [← mout r' hno]; exact hr') (by rw [← b2]; exact hrl'))
  ·obtain ⟨i, hi, rfl⟩ := hex'
   have hno : ∀ j, h1' j ≠ .nil → q j ≠ r := fun j a b => hex ⟨j, a, b⟩
   obtain ⟨b1, b2⟩ := bout r hno
   exact absurd (by rw [← b1]; exact hbb.symm) (far i r g sz es hi hno (.inr hr') hrl' (by rw [← mout r hno]; exact hr) (by rw [← b2]; exact hrl))
  ·have hno : ∀ j, h1' j ≠ .nil → q j ≠ r := fun j a b => hex ⟨j, a, b⟩
   have hno' : ∀ j, h1' j ≠ .nil → q j ≠ r' := fun j a b => hex' ⟨j, a, b⟩
   obtain ⟨b1, b2⟩ := bout r hno
   obtain ⟨b1', b2'⟩ := bout r' hno'
   rw [mout r hno] at hr
   rw [mout r' hno'] at hr'
   exact hh.inj r r' g g' sz sz' es es' hr hr' (by rw [← b2]; exact hrl) (by rw [← b2']; exact hrl') (by rw [← b1, ← b1']; exact hbb)
end
end Go.Proofs.YthblfhgofopcaaaGreat
