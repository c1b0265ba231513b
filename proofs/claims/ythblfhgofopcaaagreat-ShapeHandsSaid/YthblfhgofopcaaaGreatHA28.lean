/-
  Parts of the proof: SplB.
-/
import Derived.Test.YthblfhgofopcaaaGreatHA25
set_option linter.all false
namespace Go.Proofs.YthblfhgofopcaaaGreat
def dec1 (bag : List Int) (z : Int) : List Int := bag.set z.toNat (bag.getD z.toNat 0 - 1)
def decL (bag : List Int) (ks : List Int) : List Int := ks.foldl dec1 bag
def lessO : List Int → List Int → Option (List Int)
 | bag, [] => some bag
 | bag, k :: ks => if (dec1 bag k).getD k.toNat 0 < 0 then none else lessO (dec1 bag k) ks
def Bg (n : Nat) (bag : List Int) : Prop := bag.length = n ∧ ∀ i, 0 ≤ bag.getD i 0
def InB (n : Nat) (ks : List Int) : Prop := ∀ k ∈ ks, 0 ≤ k ∧ k < (n : Int)
def cntI (ks : List Int) (i : Nat) : Int := (ks.count (i : Int) : Int)
theorem cntI_cons (k : Int) (ks : List Int) (i : Nat) : cntI (k :: ks) i = cntI ks i + if k = (i : Int) then 1 else 0 := by
 unfold cntI
 rw [List.count_cons]
 by_cases h : k = (i : Int)
 ·simp [h]
 ·simp [h]
theorem cntI_nonneg (ks : List Int) (i : Nat) : 0 ≤ cntI ks i := by unfold cntI; omega
theorem sum_set : ∀ (l : List Int) (i : Nat) (v : Int), i < l.length → (l.set i v).sum = l.sum - l.getD i 0 + v
 | [], i, v, h => absurd h (Nat.not_lt_zero i)
 | x :: l, 0, v, _ => by simp; omega
 | x :: l, i + 1, v, h => by
  have := sum_set l i v (by simpa using h)
  simp only [List.set_cons_succ, List.sum_cons, List.getD_cons_succ]
  omega
theorem bget_set (l : List Int) (i j : Nat) (v : Int) (h : i < l.length) : (l.set i v).getD j 0 = if i = j then v else l.getD j 0 := by
 simp only [List.getD_eq_getElem?_getD, List.getElem?_set]
 split
 ·rename_i he; subst he; simp [h]
 ·rfl
theorem dec1_len (bag : List Int) (z : Int) : (dec1 bag z).length = bag.length := by simp [dec1]
theorem dec1_get {bag : List Int} {z : Int} (h0 : 0 ≤ z) (h1 : z < (bag.length : Int)) (i : Nat) : (dec1 bag z).getD i 0 = bag.getD i 0 - if z = (i : Int) then 1 else 0 := by
 unfold dec1
 rw [bget_set _ _ _ _ (by omega)]
 by_cases h : z = (i : Int)
 ·subst h; simp
 ·rw [if_neg (by omega), if_neg h]; simp
theorem dec1_sum {bag : List Int} {z : Int} (h0 : 0 ≤ z) (h1 : z < (bag.length : Int)) : (dec1 bag z).sum = bag.sum - 1 := by
 unfold dec1; rw [sum_set _ _ _ (by omega)]; omega
theorem decL_len : ∀ (ks bag : List Int), (decL bag ks).length = bag.length
 | [], bag => rfl
 | k :: ks, bag => by show (decL (dec1 bag k) ks).length = _; rw [decL_len ks, dec1_len]
theorem decL_get : ∀ (ks bag : List Int), InB bag.length ks → ∀ i, (decL bag ks).getD i 0 = bag.getD i 0 - cntI ks i
 | [], bag, _, i => by simp [decL, cntI]
 | k :: ks, bag, h, i => by
  show (decL (dec1 bag k) ks).getD i 0 = _
  have hk := h k (by simp)
  rw [decL_get ks _ (fun z hz => by rw [dec1_len]; exact h z (by simp [hz])) i, dec1_get hk.1 hk.2, cntI_cons]; omega
theorem decL_sum : ∀ (ks bag : List Int), InB bag.length ks → (decL bag ks).sum = bag.sum - ks.length
 | [], bag, _ => by simp [decL]
 | k :: ks, bag, h => by
  show (decL (dec1 bag k) ks).sum = _
  have hk := h k (by simp)
  rw [decL_sum ks _ (fun z hz => by rw [dec1_len]; exact h z (by simp [hz])), dec1_sum hk.1 hk.2]; simp; omega
theorem lessO_ok : ∀ (ks bag : List Int), InB bag.length ks → (∀ i, 0 ≤ bag.getD i 0) →
  (lessO bag ks = some (decL bag ks) ∧ ∀ i, cntI ks i ≤ bag.getD i 0) ∨ (lessO bag ks = none ∧ ∃ i, bag.getD i 0 < cntI ks i)
 | [], bag, _, h0 => .inl ⟨rfl, fun i => by have := h0 i; simpa [cntI] using this⟩
 | k :: ks, bag, h, h0 => by
  have hk := h k (by simp)
  have hg := dec1_get hk.1 hk.2
  have hh : InB (dec1 bag k).length ks := fun z hz => by rw [dec1_len]; exact h z (by simp [hz])
  by_cases hl : (dec1 bag k).getD k.toNat 0 < 0
  ·refine .inr ⟨by simp only [lessO]; rw [if_pos hl], k.toNat, ?_⟩
   rw [hg, if_pos (by omega)] at hl
   have := cntI_nonneg ks k.toNat
   rw [cntI_cons, if_pos (by omega)]; omega
  ·have h0' : ∀ i, 0 ≤ (dec1 bag k).getD i 0 := fun i => by
    by_cases hi : i = k.toNat
    ·rw [hi]; omega
    ·rw [hg, if_neg (by omega)]; have := h0 i; omega
   simp only [lessO]
   rw [if_neg hl]
   rcases lessO_ok ks (dec1 bag k) hh h0' with ⟨h1, h2⟩ | ⟨h1, i, h2⟩
   ·exact .inl ⟨h1, fun i => by have := h2 i; rw [hg] at this; rw [cntI_cons]; omega⟩
   ·exact .inr ⟨h1, i, by rw [hg] at h2; rw [cntI_cons]; omega⟩
theorem Bg.dec {n : Nat} {bag ks : List Int} (h : Bg n bag) (hk : InB n ks) (hc : ∀ i, cntI ks i ≤ bag.getD i 0) : Bg n (decL bag ks) := by
 refine ⟨by rw [decL_len]; exact h.1, fun i => ?_⟩
 rw [decL_get _ _ (by rw [h.1]; exact hk)]
 have := hc i; omega
def firstK : List Int → Nat
 | [] => 0
 | z :: l => if z = 0 then firstK l + 1 else 0
theorem firstK_le : ∀ l, firstK l ≤ l.length
 | [] => Nat.le_refl _
 | z :: l => by unfold firstK; split; have := firstK_le l; simp; omega; simp
theorem firstK_lt : ∀ (l : List Int) (i : Nat), i < firstK l → l.getD i 0 = 0
 | [], i, h => absurd h (Nat.not_lt_zero i)
 | z :: l, i, h => by
  unfold firstK at h
  split at h
  ·rename_i hz
   cases i with
   | zero => simpa using hz
   | succ i => rw [List.getD_cons_succ]; exact firstK_lt l i (by omega)
  ·omega
theorem firstK_ne : ∀ (l : List Int), firstK l < l.length → l.getD (firstK l) 0 ≠ 0
 | [], h => absurd h (Nat.not_lt_zero _)
 | z :: l, h => by
  unfold firstK at h ⊢
  split
  ·rename_i hz
   rw [if_pos hz] at h
   rw [List.getD_cons_succ]; exact firstK_ne l (by simp at h; omega)
  ·rename_i hz; simpa using hz
theorem firstK_zero {l : List Int} (h : firstK l = l.length) (i : Nat) : l.getD i 0 = 0 := by
 by_cases hi : i < l.length
 ·exact firstK_lt l i (by omega)
 ·rw [List.getD_eq_getElem?_getD, List.getElem?_eq_none (by omega)]; rfl
def cntG (g : Gp) (i : Nat) : Int := cntI (tilesL g.wh g.kd) i
def cntT : List Gp → Nat → Int
 | [], _ => 0
 | g :: l, i => cntG g i + cntT l i
theorem cntG_nonneg (g : Gp) (i : Nat) : 0 ≤ cntG g i := cntI_nonneg _ _
theorem cntT_nonneg : ∀ (l : List Gp) (i : Nat), 0 ≤ cntT l i
 | [], _ => Int.le_refl _
 | g :: l, i => by have := cntG_nonneg g i; have := cntT_nonneg l i; simp only [cntT]; omega
theorem cntT_perm {l m : List Gp} (h : l.Perm m) (i : Nat) : cntT l i = cntT m i := by
 induction h with
 | nil => rfl
 | cons x _ ih => simp only [cntT, ih]
 | swap x y l => simp only [cntT]; omega
 | trans _ _ h1 h2 => rw [h1, h2]
theorem cntT_mem {l : List Gp} {g : Gp} (h : g ∈ l) (i : Nat) : cntG g i ≤ cntT l i := by
 induction l with
 | nil => cases h
 | cons x l ih =>
  simp only [cntT]
  rcases List.mem_cons.1 h with rfl | h
  ·have := cntT_nonneg l i; omega
  ·have := ih h; have := cntG_nonneg x i; omega
theorem cntT_pos : ∀ {l : List Gp} {i : Nat}, 0 < cntT l i → ∃ g ∈ l, 0 < cntG g i
 | [], i, h => absurd h (by simp [cntT])
 | g :: l, i, h => by
  by_cases hg : 0 < cntG g i
  ·exact ⟨g, by simp, hg⟩
  ·obtain ⟨x, hx, h2⟩ := cntT_pos (l := l) (i := i) (by have := cntG_nonneg g i; simp only [cntT] at h; omega)
   exact ⟨x, by simp [hx], h2⟩
abbrev gp (w k : Int) : Gp := ⟨w, k, false⟩
section
variable (n : Nat) (rn : Int → Bool)
def Meld (g : Gp) : Prop := g.op = false ∧ 0 ≤ g.kd ∧ g.kd < (n : Int) ∧ (g.wh = 2 ∨ (g.wh = 1 ∧ rn g.kd = true))
def RunsOk : Prop := ∀ k, rn k = true → 0 ≤ k ∧ k + 2 < (n : Int)
structure IsMs (bag : List Int) (x : List Gp) : Prop where
 sg : SG x
 me : ∀ g ∈ x, Meld n rn g
 ct : ∀ i, cntT x i = bag.getD i 0
end
theorem tiles_pung (k : Int) : tilesL 2 k = [k, k, k] := by simp [tilesL]
theorem tiles_chow (k : Int) : tilesL 1 k = [k, k + 1, k + 2] := by simp [tilesL]
theorem tiles_pair (k : Int) : tilesL 4 k = [k, k] := by simp [tilesL]
theorem cntG_pung (k : Int) (o : Bool) (i : Nat) : cntG ⟨2, k, o⟩ i = if k = (i : Int) then 3 else 0 := by
 simp only [cntG, tiles_pung, cntI_cons]; simp only [cntI]; split <;> simp
theorem cntG_pair (k : Int) (o : Bool) (i : Nat) : cntG ⟨4, k, o⟩ i = if k = (i : Int) then 2 else 0 := by
 simp only [cntG, tiles_pair, cntI_cons]; simp only [cntI]; split <;> simp
theorem cntG_chow (k : Int) (o : Bool) (i : Nat) : cntG ⟨1, k, o⟩ i = if k = (i : Int) ∨ k + 1 = (i : Int) ∨ k + 2 = (i : Int) then 1 else 0 := by
 simp only [cntG, tiles_chow, cntI_cons]
 simp only [cntI, List.count_nil]
 repeat' split
 all_goals omega
def grps (rn : Int → Bool) (k : Int) : List Gp := gp 2 k :: if rn k = true then [gp 1 k] else []
def addAll (g : Gp) (out ls : List (List Gp)) : List (List Gp) := ls.foldl (fun out l => addL out (withL l g)) out
def meldsF (rn : Int → Bool) : Nat → List Int → List (List Gp)
 | 0, _ => []
 | f + 1, bag => if firstK bag = bag.length then [[]] else
  (grps rn (firstK bag)).foldl (fun out g => match lessO bag (tilesL g.wh g.kd) with
   | none => out
   | some r => addAll g out (meldsF rn f r)) []
theorem withL_cl {l : List Gp} {g : Gp} (h : Cl l) (hg : g.op = false) : Cl (withL l g) := fun x hx => by
 rcases List.mem_cons.1 ((withL_perm l g).subset hx) with rfl | hx
 ·exact hg
 ·exact h x hx
theorem addAll_ok {g : Gp} (hg : g.op = false) : ∀ (ls out : List (List Gp)), SL out → (∀ x ∈ out, Cl x) → (∀ l ∈ ls, Cl l) →
  SL (addAll g out ls) ∧ (∀ x ∈ addAll g out ls, Cl x) ∧ ∀ x, x ∈ addAll g out ls ↔ x ∈ out ∨ ∃ l ∈ ls, x = withL l g
 | [], out, h1, h2, _ => ⟨h1, h2, fun x => by simp [addAll]⟩
 | l :: ls, out, h1, h2, h3 => by
  have hl := withL_cl (h3 l (by simp)) hg
  obtain ⟨k1, k2⟩ := addL_ok h1 h2 hl
  obtain ⟨j1, j2, j3⟩ := addAll_ok hg ls (addL out (withL l g)) k1 (fun x hx => by
   rcases (k2 x).1 hx with rfl | hx
   ·exact hl
   ·exact h2 x hx) (fun m hm => h3 m (by simp [hm]))
  refine ⟨j1, j2, fun x => (j3 x).trans ?_⟩
  rw [k2]
  constructor
  ·rintro ((h | h) | ⟨m, hm, h⟩)
   ·exact .inr ⟨l, by simp, h⟩
   ·exact .inl h
   ·exact .inr ⟨m, by simp [hm], h⟩
  ·rintro (h | ⟨m, hm, h⟩)
   ·exact .inl (.inr h)
   ·rcases List.mem_cons.1 hm with rfl | hm
    ·exact .inl (.inl h)
    ·exact .inr ⟨m, hm, h⟩
section
variable {n : Nat} {rn : Int → Bool}
theorem Meld.tiles {g : Gp} (hr : RunsOk n rn) (h : Meld n rn g) : InB n (tilesL g.wh g.kd) := by
 obtain ⟨_, h0, h1, h2⟩ := h
 rcases h2 with h2 | ⟨h2, h3⟩
 ·rw [h2, tiles_pung]; intro z hz; simp at hz; omega
 ·have := hr _ h3; rw [h2, tiles_chow]; intro z hz; simp at hz; omega
theorem Meld.len {g : Gp} (h : Meld n rn g) : (tilesL g.wh g.kd).length = 3 := by
 rcases h.2.2.2 with h2 | ⟨h2, _⟩
 ·rw [h2, tiles_pung]; rfl
 ·rw [h2, tiles_chow]; rfl
theorem Meld.at_kd {g : Gp} (h : Meld n rn g) : 0 < cntG g g.kd.toNat := by
 obtain ⟨_, h0, h1, h2⟩ := h
 have e : ((g.kd.toNat : Nat) : Int) = g.kd := by omega
 rcases h2 with h2 | ⟨h2, h3⟩
 ·show 0 < cntI (tilesL g.wh g.kd) g.kd.toNat
  rw [h2, tiles_pung, cntI_cons, if_pos e.symm]; have := cntI_nonneg [g.kd, g.kd] g.kd.toNat; omega
 ·show 0 < cntI (tilesL g.wh g.kd) g.kd.toNat
  rw [h2, tiles_chow, cntI_cons, if_pos e.symm]; have := cntI_nonneg [g.kd + 1, g.kd + 2] g.kd.toNat; omega
theorem Meld.low {g : Gp} {i : Nat} (h : Meld n rn g) (hc : 0 < cntG g i) : g.kd ≤ (i : Int) := by
 obtain ⟨_, h0, h1, h2⟩ := h
 rcases h2 with h2 | ⟨h2, h3⟩
 ·rw [show g = ⟨2, g.kd, g.op⟩ by rw [← h2]] at hc
  rw [cntG_pung] at hc
  split at hc
  ·omega
  ·omega
 ·rw [show g = ⟨1, g.kd, g.op⟩ by rw [← h2]] at hc
  rw [cntG_chow] at hc
  split at hc
  ·omega
  ·omega
theorem mem_grps {g : Gp} {k : Int} : g ∈ grps rn k ↔ g.op = false ∧ g.kd = k ∧ (g.wh = 2 ∨ (g.wh = 1 ∧ rn k = true)) := by
 unfold grps
 obtain ⟨w, q, o⟩ := g
 rw [List.mem_cons]
 by_cases h : rn k = true
 ·rw [if_pos h, List.mem_singleton]
  simp only [gp, Gp.mk.injEq, h, and_true]
  constructor
  ·rintro (⟨h1, h2, h3⟩ | ⟨h1, h2, h3⟩) <;> simp [h1, h2, h3]
  ·rintro ⟨h1, h2, h3 | h3⟩ <;> simp [h1, h2, h3]
 ·rw [if_neg h]
  simp only [gp, Gp.mk.injEq, h, and_false, or_false, List.not_mem_nil, Bool.false_eq_true]
  constructor
  ·rintro ⟨h1, h2, h3⟩; simp [h1, h2, h3]
  ·rintro ⟨h1, h2, h3⟩; simp [h1, h2, h3]
theorem sum_nonneg : ∀ {l : List Int}, (∀ i, 0 ≤ l.getD i 0) → 0 ≤ l.sum
 | [], _ => by simp
 | z :: l, h => by
  have h0 := h 0
  have := sum_nonneg (l := l) fun i => by simpa using h (i + 1)
  simp at h0 ⊢; omega
theorem IsMs.cl {bag : List Int} {x : List Gp} (h : IsMs n rn bag x) : Cl x := fun g hg => (h.me g hg).1
theorem IsMs.first {bag : List Int} {x : List Gp} (hb : Bg n bag) (h : IsMs n rn bag x) (hk : firstK bag ≠ bag.length) : ∃ g ∈ x, g ∈ grps rn (firstK bag) := by
 have hlt : firstK bag < bag.length := Nat.lt_of_le_of_ne (firstK_le bag) hk
 have hne := firstK_ne bag hlt
 have h0 := hb.2 (firstK bag)
 have hct := h.ct (firstK bag)
 obtain ⟨g, hg, hc⟩ := cntT_pos (l := x) (i := firstK bag) (by omega)
 have hm := h.me g hg
 have h1 := hm.low hc
 have h2 : g.kd = (firstK bag : Int) := by
  rcases Int.lt_or_eq_of_le h1 with h3 | h3
  ·have k1 := hm.at_kd
   have k2 := cntT_mem hg g.kd.toNat
   rw [h.ct, firstK_lt bag _ (by have := hm.2.1; omega)] at k2
   omega
  ·exact h3
 exact ⟨g, hg, mem_grps.2 ⟨hm.1, h2, by rw [← h2]; exact hm.2.2.2⟩⟩
theorem grps_meld {k : Nat} {g : Gp} (h : g ∈ grps rn (k : Int)) (hk : k < n) : Meld n rn g := by
 obtain ⟨h1, h2, h3⟩ := mem_grps.1 h
 exact ⟨h1, by omega, by omega, by rw [h2]; exact h3⟩
theorem IsMs.more {bag : List Int} {x : List Gp} {g : Gp} (hr : RunsOk n rn) (hb : bag.length = n) (hg : Meld n rn g) (h : IsMs n rn (decL bag (tilesL g.wh g.kd)) x) : IsMs n rn bag (withL x g) := by
 refine ⟨withL_sorted g h.sg, fun y hy => ?_, fun i => ?_⟩
 ·rcases List.mem_cons.1 ((withL_perm x g).subset hy) with rfl | hy
  ·exact hg
  ·exact h.me y hy
 ·rw [cntT_perm (withL_perm x g)]
  have := h.ct i
  rw [decL_get _ _ (by rw [hb]; exact hg.tiles hr)] at this
  simp only [cntT]
  rw [this]
  show cntI _ i + _ = _
  omega
theorem IsMs.fewer {bag : List Int} {x : List Gp} {g : Gp} (hr : RunsOk n rn) (hb : bag.length = n) (hg : g ∈ x) (h : IsMs n rn bag x) :
  (∀ i, cntI (tilesL g.wh g.kd) i ≤ bag.getD i 0) ∧ IsMs n rn (decL bag (tilesL g.wh g.kd)) (x.erase g) ∧ withL (x.erase g) g = x := by
 have hm := h.me g hg
 have hp := List.perm_cons_erase hg
 have hct : ∀ i, cntT x i = cntG g i + cntT (x.erase g) i := fun i => by rw [cntT_perm hp]; rfl
 have hs : SG (x.erase g) := h.sg.sublist List.erase_sublist
 refine ⟨fun i => ?_, ⟨hs, fun y hy => h.me y (List.mem_of_mem_erase hy), fun i => ?_⟩, ?_⟩
 ·have := cntT_mem hg i; rw [h.ct] at this; exact this
 ·rw [decL_get _ _ (by rw [hb]; exact hm.tiles hr)]
  have := hct i; rw [h.ct] at this
  show _ = _ - cntG g i
  omega
 ·exact sg_perm ((withL_perm _ _).trans hp.symm) (withL_sorted g hs) h.sg (withL_cl (fun y hy => h.cl y (List.mem_of_mem_erase hy)) hm.1)
def stepM (rn : Int → Bool) (f : Nat) (bag : List Int) (out : List (List Gp)) (g : Gp) : List (List Gp) := match lessO bag (tilesL g.wh g.kd) with
 | none => out
 | some r => addAll g out (meldsF rn f r)
theorem melds_ok (hr : RunsOk n rn) : ∀ (f : Nat) (bag : List Int), Bg n bag → bag.sum < (f : Int) → SL (meldsF rn f bag) ∧ ∀ x, x ∈ meldsF rn f bag ↔ IsMs n rn bag x
 | 0, bag, hb, hs => absurd hs (by have := sum_nonneg hb.2; omega)
 | f + 1, bag, hb, hs => by
  unfold meldsF
  by_cases hk : firstK bag = bag.length
  ·rw [if_pos hk]
   refine ⟨List.pairwise_singleton _ _, fun x => ?_⟩
   rw [List.mem_singleton]
   constructor
   ·rintro rfl
    exact ⟨List.Pairwise.nil, (fun g hg => by cases hg), fun i => by rw [firstK_zero hk]; rfl⟩
   ·intro h
    cases x with
    | nil => rfl
    | cons g x =>
     have k1 := (h.me g (by simp)).at_kd
     have k2 := cntT_mem (l := g :: x) (g := g) (by simp) g.kd.toNat
     rw [h.ct, firstK_zero hk] at k2
     omega
  ·rw [if_neg hk]
   have hlt : firstK bag < bag.length := Nat.lt_of_le_of_ne (firstK_le bag) hk
   have step : ∀ g, g ∈ grps rn (firstK bag) → ∀ out, SL out → (∀ x ∈ out, Cl x) → SL (stepM rn f bag out g) ∧ (∀ x ∈ stepM rn f bag out g, Cl x) ∧ ∀ x, x ∈ stepM rn f bag out g ↔ x ∈ out ∨ (g ∈ x ∧ IsMs n rn bag x) := by
    intro g hg out h1 h2
    have hm : Meld n rn g := grps_meld hg (by rw [← hb.1]; exact hlt)
    have ht : InB bag.length (tilesL g.wh g.kd) := by rw [hb.1]; exact hm.tiles hr
    unfold stepM
    rcases lessO_ok _ bag ht hb.2 with ⟨k1, k2⟩ | ⟨k1, i, k2⟩
    ·rw [k1]
     simp only
     have hb' := hb.dec (hm.tiles hr) k2
     have hsum := decL_sum _ bag ht
     rw [hm.len] at hsum
     obtain ⟨j1, j2⟩ := melds_ok hr f (decL bag (tilesL g.wh g.kd)) hb' (by omega)
     obtain ⟨i1, i2, i3⟩ := addAll_ok hm.1 (meldsF rn f (decL bag (tilesL g.wh g.kd))) out h1 h2 fun l hl => ((j2 l).1 hl).cl
     refine ⟨i1, i2, fun x => (i3 x).trans ?_⟩
     constructor
     ·rintro (h | ⟨l, hl, rfl⟩)
      ·exact .inl h
      ·exact .inr ⟨(withL_perm l g).symm.subset (by simp), ((j2 l).1 hl).more hr hb.1 hm⟩
     ·rintro (h | ⟨h3, h4⟩)
      ·exact .inl h
      ·obtain ⟨_, q2, q3⟩ := h4.fewer hr hb.1 h3
       exact .inr ⟨x.erase g, (j2 _).2 q2, q3.symm⟩
    ·rw [k1]
     refine ⟨h1, h2, fun x => ⟨.inl, ?_⟩⟩
     rintro (h | ⟨h3, h4⟩)
     ·exact h
     ·have := (h4.fewer hr hb.1 h3).1 i
      omega
   have all : ∀ gs : List Gp, (∀ g ∈ gs, g ∈ grps rn (firstK bag)) → ∀ out, SL out → (∀ x ∈ out, Cl x) → SL (gs.foldl (stepM rn f bag) out) ∧ ∀ x, x ∈ gs.foldl (stepM rn f bag) out ↔ x ∈ out ∨ ((∃ g ∈ gs, g ∈ x) ∧ IsMs n rn bag x) := by
    intro gs
    induction gs with
    | nil => intro _ out h1 h2; exact ⟨h1, fun x => by simp⟩
    | cons g gs ih =>
     intro hgs out h1 h2
     obtain ⟨s1, s2, s3⟩ := step g (hgs g (by simp)) out h1 h2
     obtain ⟨a1, a2⟩ := ih (fun y hy => hgs y (by simp [hy])) (stepM rn f bag out g) s1 s2
     refine ⟨a1, fun x => (a2 x).trans ?_⟩
     rw [s3]
     constructor
     ·rintro ((h | ⟨h3, h4⟩) | ⟨⟨y, hy, h3⟩, h4⟩)
      ·exact .inl h
      ·exact .inr ⟨⟨g, by simp, h3⟩, h4⟩
      ·exact .inr ⟨⟨y, by simp [hy], h3⟩, h4⟩
     ·rintro (h | ⟨⟨y, hy, h3⟩, h4⟩)
      ·exact .inl (.inl h)
      ·rcases List.mem_cons.1 hy with rfl | hy
       ·exact .inl (.inr ⟨h3, h4⟩)
       ·exact .inr ⟨⟨y, hy, h3⟩, h4⟩
   obtain ⟨a1, a2⟩ := all _ (fun g hg => hg) [] List.Pairwise.nil (fun x hx => by cases hx)
   refine ⟨a1, fun x => (a2 x).trans ?_⟩
   constructor
   ·rintro (h | h)
    ·cases h
    ·exact h.2
   ·intro h
    obtain ⟨g, h1, h2⟩ := h.first hb hk
    exact .inr ⟨⟨g, h2, h1⟩, h⟩
end
end Go.Proofs.YthblfhgofopcaaaGreat
