/-
  Parts of the proof: VmV.
-/
import Derived.Test.YthblfhgofopcaaaGreatHA12
import Derived.Orders
set_option linter.all false
namespace Go.Proofs.YthblfhgofopcaaaGreat
open Go.RowKit
variable [DM]
section
variable {P : Program} {T : Tys} {c0 c : Cx} {h0 : HF} {nt base : Nat} {all : List Oper} {ms : List Nat}
theorem ord_eff {pre rest : List Nat} {j k : Nat} {ok : Oper} (h : ordOk all ms pre rest = true) (hj : j ∈ rest) (hk : k ∈ pre) (hok : all[k]? = some ok) (he : effB ok.op = true) : bit ms k j = true := by
 induction rest generalizing pre with
 | nil => cases hj
 | cons i rest ih =>
  simp only [ordOk] at h
  split at h
  ·cases h
  ·simp only [Bool.and_eq_true] at h
   rcases List.mem_cons.1 hj with rfl | hj
   ·have := List.all_eq_true.1 h.1.2 k hk
    unfold ordOne at this
    rw [hok] at this
    simp only [Bool.and_eq_true, Bool.or_eq_true, Bool.not_eq_true'] at this
    exact this.1.1.resolve_left (by rw [he]; exact fun h => by cases h)
   ·exact ih h.2 hj (List.mem_cons_of_mem _ hk)
theorem ready_nil {listed : Array Bool} (hsz : listed.size = all.length) (hr : Region.ready .any all.toArray listed = []) : ∀ (pre rest : List Nat), ordOk all ms pre rest = true → (∀ i ∈ pre, listed.getD i false = true) → ∀ j ∈ rest, listed.getD j false = true
 | _, [], _, _, j, hj => by cases hj
 | pre, k :: rest, h, hp, j, hj => by
  simp only [ordOk] at h
  split at h
  ·cases h
  ·rename_i o ho
   simp only [Bool.and_eq_true] at h
   have hk : listed.getD k false = true := by
    have hlt : k < listed.size := by rw [hsz]; exact (List.getElem?_eq_some_iff.1 ho).1
    have e : ∀ d, listed.getD k d = listed[k] := fun d => by simp [Array.getD_eq_getD_getElem?, hlt]
    cases hb : listed[k] with
    | true => rw [e]; exact hb
    | false =>
     have : k ∈ Region.ready .any all.toArray listed := mem_ready.2 ⟨by rw [e]; exact hb, o, by rw [List.getElem?_toArray]; exact ho, fun e' he' hbd => by
      have := List.all_eq_true.1 h.1.1.2 e' (by simpa using he')
      rw [hbd] at this
      simp only [Bool.not_true, Bool.false_or, List.contains_eq_mem, decide_eq_true_eq] at this
      exact hp _ this⟩
     rw [hr] at this; cases this
   rcases List.mem_cons.1 hj with rfl | hj
   ·exact hk
   ·exact ready_nil hsz hr (k :: pre) rest h.2 (fun i hi => (List.mem_cons.1 hi).elim (fun e => e ▸ hk) (hp i)) j hj
theorem getD_set (listed : Array Bool) {j : Nat} (hj : j < listed.size) : (fun i => (listed.setIfInBounds j true).getD i false) = fun i => listed.getD i false || i == j := by
 funext i
 by_cases h : i = j
 ·subst h; simp [hj]
 ·have : (listed.setIfInBounds j true).getD i false = listed.getD i false := by
   simp [Array.getD_eq_getD_getElem?, Array.getElem?_setIfInBounds_ne (Ne.symm h)]
  rw [this]
  simp [h]
theorem cnt_lt {p p' : Nat → Bool} {j : Nat} (h1 : ∀ i, p' i = true → p i = true) (hj : p j = true) (hj' : p' j = false) : ∀ l : List Nat, j ∈ l → l.countP p' < l.countP p
 | [], h => by cases h
 | k :: l, h => by
  have le : l.countP p' ≤ l.countP p := List.countP_mono_left fun i _ => h1 i
  rw [List.countP_cons, List.countP_cons]
  rcases List.mem_cons.1 h with rfl | h
  ·rw [hj, hj']; simp; omega
  ·have := cnt_lt h1 hj hj' l h
   have : (if p' k = true then 1 else 0) ≤ (if p k = true then 1 else 0) := by
    by_cases hk : p' k = true
    ·rw [if_pos hk, if_pos (h1 k hk)]; exact Nat.le_refl _
    ·rw [if_neg hk]; exact Nat.zero_le _
   omega
theorem adv (hT : TyOk P T) (hn : c0.n0 = c0.w.heap.size) {L : Nat → Bool} {j : Nat} {K : St → Prop} (hj : ∀ i, bit ms i j = true → L i = true) (hjL : L j = false) {Q : Exit → Act → World → Prop} {N : Act → World → Prop}
  (hN : ∀ pre rest F fT fW tm hp c' a', Inv c0 h0 nt T all ms base (fun i => L i || i == j) pre F fT fW (lk tm .any) (lk hp .nil) c' a' → ordOk all ms pre rest = true → AD P T nt all ms base rest tm hp fT fW K → (∀ i < all.length, i ∈ pre ∨ i ∈ rest) → N a' c'.w) :
  ∀ (rest pre : List Nat) (F : List Pe) (fT : List (Nat × List Nat)) (fW : List (Nat × Nat)) (tm : List (Nat × AV)) (hp : Hl) (c : Cx) (a : Act), Inv c0 h0 nt T all ms base L pre F fT fW (lk tm .any) (lk hp .nil) c a → ordOk all ms pre rest = true → AD P T nt all ms base rest tm hp fT fW K →
   (∀ i < all.length, i ∈ pre ∨ i ∈ rest) → (j ∈ pre ∨ j ∈ rest) → wpOp P all.toArray Q j N a c.w := by
 intro rest
 induction rest with
 | nil =>
  intro pre F fT fW tm hp c a I ho hA hc hjm
  have hjp : j ∈ pre := hjm.resolve_right (List.not_mem_nil)
  have : ∃ e ∈ F, e.i = j := by
   apply Classical.byContradiction
   intro hno
   have := (I.lst j).2 ⟨hjp, fun e he hi => hno ⟨e, he, hi⟩⟩
   rw [hjL] at this; cases this
  obtain ⟨e, he, rfl⟩ := this
  exact I.pend hT he hj fun c' a' I' => hN _ _ _ _ _ tm hp c' a' I' ho hA hc
 | cons k rest ih =>
  intro pre F fT fW tm hp c a I ho hA hc hjm
  by_cases hjp : j ∈ pre
  ·have : ∃ e ∈ F, e.i = j := by
    apply Classical.byContradiction
    intro hno
    have := (I.lst j).2 ⟨hjp, fun e he hi => hno ⟨e, he, hi⟩⟩
    rw [hjL] at this; cases this
   obtain ⟨e, he, rfl⟩ := this
   exact I.pend hT he hj fun c' a' I' => hN _ _ _ _ _ tm hp c' a' I' ho hA hc
  have hjr : j ∈ k :: rest := hjm.resolve_left hjp
  have ho' := ho
  simp only [ordOk] at ho'
  obtain ⟨o, hko, tm', htm, hS⟩ := AD_step hA
  rw [hko] at ho'
  simp only [Bool.and_eq_true, Bool.not_eq_true'] at ho'
  obtain ⟨⟨⟨⟨o1, o2⟩, _⟩, o3⟩, o4⟩ := ho'
  have hc' : ∀ i < all.length, i ∈ k :: pre ∨ i ∈ rest := fun i hi => by
   rcases hc i hi with h | h
   ·exact .inl (List.mem_cons_of_mem _ h)
   ·rcases List.mem_cons.1 h with rfl | h
    ·exact .inl List.mem_cons_self
    ·exact .inr h
  have hev : evO tm' = evF (lk tm .any) := by rw [evO_eq, htm]
  have hpt : ∀ x, lk (putT tm' o.dst x) .any = putF (lk tm .any) o.dst x := fun x => by rw [lk_putT, htm]
  by_cases he : effB o.op = true
  ·have hkj : k = j := by
    apply Classical.byContradiction
    intro hne
    have hjr' : j ∈ rest := (List.mem_cons.1 hjr).resolve_left fun h => hne h.symm
    have := (I.lst k).1 (hj k (ord_eff o4 hjr' List.mem_cons_self hko he))
    have h1 : k ∉ pre := by simpa using o1
    exact h1 this.1
   subst hkj
   refine I.eff hT hn hj hko o1 o3 ?_
   rcases hS with ⟨hw, hS⟩ | ⟨hw, hd, _, hS⟩
   ·split at hS
    ·exact hS.elim
    ·rename_i p x us hop
     rw [he] at hS
     obtain ⟨d1, d2, d3, d4, d5, d6⟩ := hS
     rw [hev] at hop d4
     exact .inl ⟨p, x, us, hw, hop, d1, d2, d3, d4, d5, fun c' a' I' => hN _ _ _ _ _ (putT tm' o.dst x) (upsL us hp) c' a' (by rw [hpt, lk_ups]; exact I') o4 d6 hc'⟩
    ·rename_i fn xs hop
     obtain ⟨d1, d4, ρ, bm, R, e1, e2, e3, e4, e5, e6⟩ := hS
     rw [hev] at hop d4
     exact .inr (.inl ⟨fn, xs, hw, hop, d1, d4, hp, rfl, ρ, bm, R, e1, e2, e3, e4, e5, fun x hl hR => ⟨(e6 x hl hR).1, (e6 x hl hR).2.1, (e6 x hl hR).2.2.1, fun c' a' I' => hN _ _ _ _ _ (putT tm' o.dst (x.ren (rn (base + 16 * k) ρ))) (mrgL (rn (base + 16 * k) ρ) hl hp) c' a' (by rw [hpt]; exact I') o4 (e6 x hl hR).2.2.2 hc'⟩⟩)
   ·exact .inr (.inr ⟨hw, hd, fun c' a' I' => hN _ _ _ _ _ (putT tm' o.dst (.v undef)) hp c' a' (by rw [hpt]; exact I') o4 hS hc'⟩)
  ·have he' : effB o.op = false := by simpa using he
   have go : ∀ (x : AV) (us : List (Nat × Ob)) (ts : List Nat) fT' fW', Inv c0 h0 nt T all ms base L (k :: pre) (⟨k, o, x, us, ts⟩ :: F) fT' fW' (putF (lk tm .any) o.dst x) (ups us (lk hp .nil)) c a → AD P T nt all ms base rest (putT tm' o.dst x) (upsL us hp) fT' fW' K → wpOp P all.toArray Q j N a c.w := fun x us ts fT' fW' I' hA' =>
    ih (k :: pre) _ fT' fW' (putT tm' o.dst x) (upsL us hp) c a (by rw [hpt, lk_ups]; exact I') o4 hA' hc' (by
     rcases List.mem_cons.1 hjr with rfl | h
     ·exact .inl List.mem_cons_self
     ·exact .inr h)
   rcases hS with ⟨hw, hS⟩ | ⟨hw, hd, hfr, hS⟩
   ·split at hS
    ·exact hS.elim
    ·rename_i p x us hop
     rw [he'] at hS
     obtain ⟨d1, d2, d3, d4, d5, d6⟩ := hS
     rw [hev] at hop d4 d5 d6
     refine go x us (touchL (evF (lk tm .any)) (opdT o.op)) _ _ (I.look hj hjr hko o1 o2 o3 he' d1 (.inl ⟨hw, ⟨p, hop, d2⟩, fun X hX r hr => touchL_mem hX hr, d3, d4, d5⟩) _ _ ?_ ?_ ?_ ?_) d6
     ·intro q hq
      unfold addT
      split
      ·exact hq
      ·exact List.mem_cons_of_mem _ hq
     ·exact fun q hq => List.mem_append_right _ hq
     ·unfold addT
      split
      ·rename_i h; exact .inl h
      ·exact .inr List.mem_cons_self
     ·exact fun u hu => List.mem_append_left _ (List.mem_map.2 ⟨u.1, List.mem_map_of_mem hu, rfl⟩)
    ·rename_i fn xs hop
     have := bare_op (T := T) (g := evO tm') (h := lk hp .nil) (nm := base + 16 * k) he'
     rw [hop] at this; exact this.elim
   ·exact go (.v undef) [] [] fT fW (I.look hj hjr hko o1 o2 o3 he' hd (.inr ⟨hw, rfl, rfl, rfl, hfr⟩) _ _ (fun _ h => h) (fun _ h => h) (.inl rfl) (fun u hu => by cases hu)) hS
theorem any_sound (hT : TyOk P T) (hn : c0.n0 = c0.w.heap.size) {ord : List Nat} (hd : drawOk all ord ms = true) {Q : Exit → St → Prop} :
  ∀ (fuel : Nat) (listed : Array Bool) (pre rest : List Nat) (F : List Pe) (fT : List (Nat × List Nat)) (fW : List (Nat × Nat)) (tm : List (Nat × AV)) (hp : Hl) (c : Cx) (a : Act), listed.size = all.length → (List.range all.length).countP (fun i => !listed.getD i false) ≤ fuel →
   Inv c0 h0 nt T all ms base (fun i => listed.getD i false) pre F fT fW (lk tm .any) (lk hp .nil) c a → ordOk all ms pre rest = true → AD P T nt all ms base rest tm hp fT fW (Q .normal) → (∀ i < all.length, i ∈ pre ∨ i ∈ rest) →
   wpAny P .any all.toArray (Lift c0 h0 nt Q) fuel listed a c.w := by
 unfold drawOk at hd
 simp only [Bool.and_eq_true] at hd
 obtain ⟨⟨hd1, hd2⟩, hd3⟩ := hd
 have fin : ∀ (listed : Array Bool) (pre rest : List Nat) (F : List Pe) (fT : List (Nat × List Nat)) (fW : List (Nat × Nat)) (tm : List (Nat × AV)) (hp : Hl) (c : Cx) (a : Act), listed.size = all.length →
   Inv c0 h0 nt T all ms base (fun i => listed.getD i false) pre F fT fW (lk tm .any) (lk hp .nil) c a → ordOk all ms pre rest = true → AD P T nt all ms base rest tm hp fT fW (Q .normal) → Region.ready .any all.toArray listed = [] → Lift c0 h0 nt Q .normal a c.w := by
  intro listed pre rest F fT fW tm hp c a hsz I ho hA hr
  have hall : ∀ j ∈ ord, listed.getD j false = true := ready_nil hsz hr [] ord hd1 (fun i hi => by cases hi)
  have hin : ∀ j, j < all.length → listed.getD j false = true := fun j hj => hall j (by simpa using List.all_eq_true.1 hd2 j (List.mem_range.2 hj))
  have hF : F = [] := by
   cases F with
   | nil => rfl
   | cons e F =>
    exfalso
    have := hin e.i (List.getElem?_eq_some_iff.1 (I.pr e List.mem_cons_self).at_).1
    exact ((I.lst _).1 this).2 e List.mem_cons_self rfl
  have hrest : rest = [] := by
   cases rest with
   | nil => rfl
   | cons k rest =>
    exfalso
    simp only [ordOk] at ho
    split at ho
    ·cases ho
    ·rename_i o hko
     simp only [Bool.and_eq_true, Bool.not_eq_true'] at ho
     have h1 : k ∉ pre := by simpa using ho.1.1.1.1
     exact h1 ((I.lst k).1 (hin k (List.getElem?_eq_some_iff.1 hko).1)).1
  subst hF hrest
  unfold AD at hA
  refine ⟨_, c, rfl, hA, RelS.to ?_⟩
  have := I.rel
  have e1 : mT [] (lk tm .any) = lk tm .any := by funext t; exact mT_out (by rintro ⟨e, he, _⟩; cases he)
  have e2 : mH [] (lk hp .nil) = lk hp .nil := by funext t; exact mH_out (by rintro ⟨e, he, _⟩; cases he)
  rw [e1, e2] at this; exact this
 intro fuel
 induction fuel with
 | zero =>
  intro listed pre rest F fT fW tm hp c a hsz hcnt I ho hA hc
  have hr : Region.ready .any all.toArray listed = [] := by
   cases hr : Region.ready .any all.toArray listed with
   | nil => rfl
   | cons j l =>
    exfalso
    have hj : j ∈ Region.ready .any all.toArray listed := by rw [hr]; exact List.mem_cons_self
    obtain ⟨h1, o, h2, _⟩ := mem_ready.1 hj
    rw [List.getElem?_toArray] at h2
    have hlt := (List.getElem?_eq_some_iff.1 h2).1
    have h3 : listed.getD j false = false := by
     have : j < listed.size := by rw [hsz]; exact hlt
     simpa [Array.getD_eq_getD_getElem?, this] using h1
    have : 0 < (List.range all.length).countP (fun i => !listed.getD i false) := List.countP_pos_iff.2 ⟨j, List.mem_range.2 hlt, by rw [h3]; rfl⟩
    omega
  exact ⟨hr, fin listed pre rest F fT fW tm hp c a hsz I ho hA hr⟩
 | succ fuel ih =>
  intro listed pre rest F fT fW tm hp c a hsz hcnt I ho hA hc
  refine ⟨fun hr => fin listed pre rest F fT fW tm hp c a hsz I ho hA hr, fun j hj => ?_⟩
  obtain ⟨h1, o, h2, h4⟩ := mem_ready.1 hj
  rw [List.getElem?_toArray] at h2
  have hlt := (List.getElem?_eq_some_iff.1 h2).1
  have hlt' : j < listed.size := by rw [hsz]; exact hlt
  have h3 : listed.getD j false = false := by simpa [Array.getD_eq_getD_getElem?, hlt'] using h1
  refine adv hT hn (L := fun i => listed.getD i false) (K := Q .normal) (fun i hi => ?_) h3 (fun pre rest F fT fW tm hp c' a' I' ho' hA' hc' => ?_) rest pre F fT fW tm hp c a I ho hA hc (hc j hlt)
  ·have := msOk_at hd3 h2
   unfold bit at hi
   rw [this] at hi
   obtain ⟨e, he, hb, h5⟩ := edM_bit hi
   have h6 := h4 e (by simpa using he) hb
   rcases h5 with rfl | h5
   ·exact h6
   ·exact I.cl _ h6 i h5
  ·refine ih (listed.setIfInBounds j true) pre rest F fT fW tm hp c' a' (by simp [hsz]) ?_ (by rw [getD_set listed hlt']; exact I') ho' hA' hc'
   have e := getD_set listed hlt'
   have : (List.range all.length).countP (fun i => !(listed.setIfInBounds j true).getD i false) < (List.range all.length).countP (fun i => !listed.getD i false) := by
    refine cnt_lt (j := j) (fun i hi => ?_) (by rw [h3]; rfl) ?_ _ (List.mem_range.2 hlt)
    ·have : (listed.setIfInBounds j true).getD i false = (listed.getD i false || i == j) := congrFun e i
     rw [this] at hi
     simp only [Bool.not_or, Bool.and_eq_true] at hi
     exact hi.1
    ·have : (listed.setIfInBounds j true).getD j false = (listed.getD j false || j == j) := congrFun e j
     rw [this]; simp
   omega
def DD (P : Program) (T : Tys) (nt : Nat) : List Oper → St → (St → Prop) → Prop := fun ops σ K => ∃ ord ms, drawOk ops ord ms = true ∧ AD P T nt ops ms σ.nx ord σ.tm σ.hp [] [] K
theorem DD_ok (hT : TyOk P T) (hm : P.follows .mixedOrders = true) (nt : Nat) : DSound P nt (DD P T nt) := by
 rintro c0 h0 id ops Q σ c a hn ⟨ord, ms, hd, hA⟩ r
 refine wp_region_any hm ?_
 have g : Grow c.w { c.w with drawn := c.w.drawn + 1 } := ⟨rfl, rfl, rfl, Nat.le_refl _, fun _ _ => rfl⟩
 have hd' := hd
 unfold drawOk at hd'
 simp only [Bool.and_eq_true] at hd'
 have := any_sound (h0 := h0) (nt := nt) (base := σ.nx) hT hn hd (Q := Q) ops.size (Array.replicate ops.size false) [] ord [] [] [] σ.tm σ.hp { c with w := { c.w with drawn := c.w.drawn + 1 } } a (by simp) ?_ ?_ hd'.1.1 hA ?_
 ·simpa using this
 ·refine Nat.le_trans (List.countP_le_length) ?_
  simp
 ·have L0 : ∀ i, (Array.replicate ops.size false).getD i false = false := fun i => by
   simp only [Array.getD_eq_getD_getElem?, Array.getElem?_replicate]; split <;> rfl
  refine ⟨fun i => ?_, fun j hj => ?_, (fun e he => by cases he), (fun e he => by cases he), (fun e he => by cases he), (fun e he => by cases he), (fun e he => by cases he), (fun e he => by cases he), ?_⟩
  ·rw [L0]; constructor
   ·intro h; cases h
   ·rintro ⟨h, _⟩; cases h
  ·rw [L0] at hj; cases hj
  ·have e1 : mT [] (lk σ.tm .any) = lk σ.tm .any := by funext t; exact mT_out (by rintro ⟨e, he, _⟩; cases he)
   have e2 : mH [] (lk σ.hp .nil) = lk σ.hp .nil := by funext t; exact mH_out (by rintro ⟨e, he, _⟩; cases he)
   rw [e1, e2]
   exact ⟨r.kp.trans (Keep.grow g (.inr (Nat.le_succ _))), r.hp.keep_grow g (.inr (Nat.le_succ _)), r.fr.sz, r.fr.df, fun t => (r.fr.tm t).ext (Keep.grow g (.inr (Nat.le_succ _))).ext⟩
 ·exact fun i hi => .inr (by simpa using List.all_eq_true.1 hd'.1.2 i (List.mem_range.2 hi))
end
end Go.Proofs.YthblfhgofopcaaaGreat
