/-
  Parts of the proof: HdN, KOrd.
-/
import Derived.Test.YthblfhgofopcaaaGreatHA43
import Derived.Test.YthblfhgofopcaaaGreatHA17
import Derived.Test.YthblfhgofopcaaaGreatHA41
set_option linter.all false
namespace Go.Proofs.YthblfhgofopcaaaGreat
open Go.RowKit
structure MsOk (s : TSet) (ms : List Gp) : Prop where
 ml : ∀ g ∈ ms, meldErr s g = 0
 ln : (ms.length : Int) ≤ s.me
structure Fil (s : TSet) (P : Nat) (ms : List Gp) (X Y : List Int) : Prop where
 xl : X.length = P
 yl : Y.length = P
 x0 : ∀ i, 0 ≤ X.getD i 0
 y : ∀ i, Y.getD i 0 = X.getD i 0 + cntT ms i
 yc : ∀ i, Y.getD i 0 ≤ s.co
theorem cntT_snoc : ∀ (ms : List Gp) (g : Gp) (i : Nat), cntT (ms ++ [g]) i = cntT ms i + cntI (tilesL g.wh g.kd) i
 | [], g, i => by
  show cntG g i + 0 = 0 + _
  show cntI _ i + 0 = _
  omega
 | x :: ms, g, i => by
  show cntG x i + cntT (ms ++ [g]) i = (cntG x i + cntT ms i) + _
  rw [cntT_snoc ms g i]; omega
theorem cntT_nn : ∀ (ms : List Gp) (i : Nat), 0 ≤ cntT ms i
 | [], i => by show (0 : Int) ≤ 0; omega
 | x :: ms, i => by
  show 0 ≤ cntG x i + cntT ms i
  have := cntT_nn ms i
  have := cntG_nonneg x i
  omega
theorem inc1_sum {X : List Int} {z : Int} (h0 : 0 ≤ z) (h1 : z < (X.length : Int)) : (inc1 X z).sum = X.sum + 1 := by
 unfold inc1
 rw [sum_set _ _ _ (by omega)]; omega
theorem incL_sum : ∀ (ks X : List Int), InB X.length ks → (incL X ks).sum = X.sum + ks.length
 | [], X, _ => by simp [incL]
 | k :: ks, X, h => by
  show (incL (inc1 X k) ks).sum = _
  have hk := h k (by simp)
  rw [incL_sum ks _ (fun z hz => by rw [inc1_len]; exact h z (by simp [hz])), inc1_sum hk.1 hk.2]
  simp; omega
theorem sum_add3 : ∀ (X Z Y : List Int), X.length = Y.length → Z.length = Y.length → (∀ i, Y.getD i 0 = X.getD i 0 + Z.getD i 0) → Y.sum = X.sum + Z.sum
 | [], [], [], _, _, _ => rfl
 | x :: X, z :: Z, y :: Y, h1, h2, h => by
  have h0 := h 0
  have := sum_add3 X Z Y (by simpa using h1) (by simpa using h2) fun i => by simpa using h (i + 1)
  simp at h0 ⊢; omega
 | [], _ :: _, [], _, h2, _ => by simp at h2
 | _ :: _, _, [], h1, _, _ => by simp at h1
 | [], _, _ :: _, h1, _, _ => by simp at h1
 | _ :: _, [], _ :: _, _, h2, _ => by simp at h2
theorem sum_ge : ∀ (Y : List Int) (c : Int), (∀ i, i < Y.length → c ≤ Y.getD i 0) → (Y.length : Int) * c ≤ Y.sum
 | [], c, _ => by simp
 | y :: Y, c, h => by
  have h0 := h 0 (by simp)
  have := sum_ge Y c fun i hi => by simpa using h (i + 1) (by simpa using hi)
  simp only [List.getD_cons_zero] at h0
  simp only [List.length_cons, List.sum_cons, Int.natCast_add, Int.natCast_one, Int.add_mul, Int.one_mul]
  omega
theorem sum_le_len : ∀ {Y : List Int} {c : Int}, (∀ z ∈ Y, z ≤ c) → Y.sum ≤ (Y.length : Int) * c
 | [], c, _ => by simp
 | y :: Y, c, h => by
  have h0 := h y (by simp)
  have := sum_le_len (Y := Y) (c := c) fun z hz => h z (by simp [hz])
  simp only [List.length_cons, List.sum_cons, Int.natCast_add, Int.natCast_one, Int.add_mul, Int.one_mul]
  omega
theorem zero_get (P i : Nat) : (List.replicate P (0 : Int)).getD i 0 = 0 := by
 rw [List.getD_eq_getElem?_getD, List.getElem?_replicate]; split <;> rfl
theorem totL_sum : ∀ (ms : List Gp) (X : List Int), (∀ g ∈ ms, InB X.length (tilesL g.wh g.kd)) → (totL X ms).sum ≤ X.sum + 4 * ms.length
 | [], X, _ => by simp [totL]
 | g :: ms, X, h => by
  show (totL (incL X (tilesL g.wh g.kd)) ms).sum ≤ _
  have h1 := totL_sum ms (incL X (tilesL g.wh g.kd)) fun x hx => by rw [incL_len]; exact h x (by simp [hx])
  have h2 := incL_sum (tilesL g.wh g.kd) X (h g (by simp))
  have h3 := tilesL_len g.wh g.kd
  simp; omega
section
variable {s : TSet} {P : Nat} {ms : List Gp} {X Y : List Int}
theorem Fil.start (h : 0 ≤ s.co) : Fil s P [] (List.replicate P 0) (List.replicate P 0) := ⟨by simp, by simp, fun i => by rw [zero_get]; omega, fun i => by rw [zero_get]; rfl, fun i => by rw [zero_get]; exact h⟩
theorem Fil.rg (F : Fil s P ms X Y) (i : Nat) : 0 ≤ X.getD i 0 ∧ X.getD i 0 ≤ s.co ∧ 0 ≤ Y.getD i 0 ∧ Y.getD i 0 ≤ s.co := by
 have := F.x0 i; have := F.y i; have := F.yc i; have := cntT_nn ms i
 omega
theorem Fil.meld (F : Fil s P ms X Y) {g : Gp} (hk : InB P (tilesL g.wh g.kd)) (hf : fitB s.co Y (tilesL g.wh g.kd) = true) : Fil s P (ms ++ [g]) X (incL Y (tilesL g.wh g.kd)) := by
 have hk' : InB Y.length (tilesL g.wh g.kd) := by rw [F.yl]; exact hk
 refine ⟨F.xl, by rw [incL_len]; exact F.yl, F.x0, fun i => ?_, fitB_le hk' F.yc hf⟩
 rw [incL_get _ _ hk', F.y i, cntT_snoc]; omega
theorem Fil.put (F : Fil s P ms X Y) {l : List Int} (hk : InB P l) (hf : fitB s.co Y l = true) : Fil s P ms (incL X l) (incL Y l) := by
 have hk' : InB Y.length l := by rw [F.yl]; exact hk
 have hx' : InB X.length l := by rw [F.xl]; exact hk
 refine ⟨by rw [incL_len]; exact F.xl, by rw [incL_len]; exact F.yl, fun i => ?_, fun i => ?_, fitB_le hk' F.yc hf⟩
 ·rw [incL_get _ _ hx']; have := F.x0 i; have := cntI_nonneg l i; omega
 ·rw [incL_get _ _ hk', incL_get _ _ hx', F.y i]; omega
theorem Fil.one (F : Fil s P ms X Y) {k : Int} (h0 : 0 ≤ k) (h1 : k < (P : Int)) (hf : Y.getD k.toNat 0 < s.co) : Fil s P ms (inc1 X k) (inc1 Y k) := by
 have hy : k < (Y.length : Int) := by rw [F.yl]; exact h1
 have := inc1_get h0 hy k.toNat
 rw [if_pos (by omega)] at this
 refine F.put (l := [k]) (fun z hz => by simp at hz; omega) ?_
 unfold fitB
 rw [if_neg (by omega)]; rfl
theorem cnt_of (hv : chkErr s = 0) (hP : plainI s = (P : Int)) (hl : X.length = P) (h : ∀ i, 0 ≤ X.getD i 0 ∧ X.getD i 0 ≤ s.co) : cntErr s X = 0 := by
 have hK := (plain_kinds hv).2.1
 unfold cntErr
 rw [if_neg (by omega), if_neg]
 intro ha
 obtain ⟨z, hz, hf⟩ := List.any_eq_true.1 ha
 obtain ⟨i, hi, rfl⟩ := List.mem_iff_getElem.1 hz
 have := h i
 have e : X.getD i 0 = X[i] := by simp [hi]
 rw [e] at this
 unfold farC at hf
 simp at hf
 omega
theorem mld_of : ∀ {ms : List Gp}, (∀ g ∈ ms, meldErr s g = 0) → mldErr s ms = 0
 | [], _ => rfl
 | g :: ms, h => by
  unfold mldErr
  rw [if_neg (by have := h g (by simp); omega)]
  exact mld_of fun x hx => h x (by simp [hx])
theorem MsOk.inb (M : MsOk s ms) (hv : chkErr s = 0) (hP : plainI s = (P : Int)) {g : Gp} (hg : g ∈ ms) : InB P (tilesL g.wh g.kd) := by
 have hK := (plain_kinds hv).2.1
 have B : BagOk s (List.replicate P 0) [g] := ⟨hv, by simp; omega, fun i => by rw [zero_get]; omega, fun x hx => by simp at hx; subst hx; exact meld_grp (M.ml _ hg), by simp⟩
 have := B.inb (g := g) (by simp)
 simpa using this
theorem Fil.full (F : Fil s P ms X Y) (M : MsOk s ms) (hv : chkErr s = 0) (hP : plainI s = (P : Int)) (hs : X.sum = 3 * (s.me - ms.length) + 2) : fullB s ⟨X, ms⟩ = true := by
 have h1 := cnt_of hv hP F.xl fun i => ⟨(F.rg i).1, (F.rg i).2.1⟩
 have h2 : mldsErr s ms = 0 := by unfold mldsErr; rw [if_neg (by have := M.ln; omega)]; exact mld_of M.ml
 have h3 : handErr s ⟨X, ms⟩ = 0 := by
  unfold handErr
  simp only
  rw [if_neg (by omega), if_neg (by omega), if_neg (by omega), if_neg, if_neg (by omega), if_neg (by omega)]
  intro ha
  obtain ⟨z, hz, hf⟩ := List.any_eq_true.1 ha
  obtain ⟨i, hi, rfl⟩ := List.mem_iff_getElem.1 hz
  have e : (totL X ms).getD i 0 = (totL X ms)[i] := by simp [hi]
  rw [totL_get ms X (fun g hg => by rw [F.xl]; exact M.inb hv hP hg), ← F.y i] at e
  have := F.yc i
  simp at hf
  omega
 unfold fullB
 simp [h3, hs]
theorem Fil.zero (F : Fil s P ms X Y) (M : MsOk s ms) (hv : chkErr s = 0) (hP : plainI s = (P : Int)) : Fil s P ms (List.replicate P 0) (totL (List.replicate P 0) ms) := by
 have hg : ∀ i, (totL (List.replicate P 0) ms).getD i 0 = cntT ms i := fun i => by
  rw [totL_get ms _ (fun g hg => by simpa using M.inb hv hP hg), zero_get]; omega
 refine ⟨by simp, by rw [totL_len]; simp, fun i => by rw [zero_get]; omega, fun i => by rw [hg, zero_get]; omega, fun i => ?_⟩
 rw [hg]; have := F.rg i; have := F.y i; omega
theorem Fil.room (F : Fil s P ms X Y) (M : MsOk s ms) (hM : MadeS s) (hP : plainI s = (P : Int)) (hc : ∀ i, i < P → s.co ≤ Y.getD i 0) : 3 * (s.me - ms.length) + 2 ≤ X.sum := by
 have V := valid_of hM.ok
 have hb : ∀ g ∈ ms, InB (List.replicate P (0 : Int)).length (tilesL g.wh g.kd) := fun g hg => by simpa using M.inb hM.ok hP hg
 have h1 := sum_add3 X (totL (List.replicate P 0) ms) Y (by rw [F.xl, F.yl]) (by rw [totL_len, F.yl]; simp) fun i => by
  rw [totL_get ms _ hb, zero_get, F.y i]; omega
 have h2 := totL_sum ms _ hb
 have h3 := sum_ge Y s.co fun i hi => hc i (by rw [← F.yl]; exact hi)
 rw [F.yl] at h3
 have h4 : (List.replicate P (0 : Int)).sum = 0 := by simp
 have h5 := V.full
 rw [hP] at h5
 have h6 := V.pl
 have h7 := V.me
 have h8 := V.de
 have h9 := hM.fl
 have h10 := M.ln
 have h11 : s.pl = 3 ∨ s.pl = 4 := by omega
 rcases h11 with e | e <;> rw [e] at h5 <;> omega
end
structure Blt (s : TSet) (P : Nat) (ms gs : List Gp) (X Y : List Int) : Prop where
 fi : Fil s P ms X Y
 mo : ∀ g ∈ ms, meldErr s g = 0
 go : ∀ g ∈ gs, grpErr s g.wh g.kd = 0 ∧ (1 ≤ g.wh ∧ g.wh ≤ 2) ∧ g.op = false
 ln : ((ms.length + gs.length : Nat) : Int) ≤ s.me
 x : ∀ i, X.getD i 0 = cntT gs i
 sm : X.sum = 3 * gs.length
theorem tiles_inb {s : TSet} {P : Nat} {g : Gp} (hv : chkErr s = 0) (hP : plainI s = (P : Int)) (h : grpErr s g.wh g.kd = 0) : InB P (tilesL g.wh g.kd) := by
 have hK := (plain_kinds hv).2.1
 have B : BagOk s (List.replicate P 0) [g] := ⟨hv, by simp; omega, fun i => by rw [zero_get]; omega, fun x hx => by simp at hx; subst hx; exact h, by simp⟩
 simpa using B.inb (g := g) (by simp)
section
variable {s : TSet} {P : Nat} {ms gs : List Gp} {X Y : List Int}
theorem Blt.start (hv : chkErr s = 0) : Blt s P [] [] (List.replicate P 0) (List.replicate P 0) := by
 have V := valid_of hv
 have h1 := V.co
 have h2 := V.me
 exact ⟨Fil.start (by omega), fun g hg => (by cases hg), fun g hg => (by cases hg), by simp; omega, fun i => zero_get P i, by simp⟩
theorem Blt.meld (b : Blt s P ms gs X Y) (hv : chkErr s = 0) (hP : plainI s = (P : Int)) {g : Gp} (hg : grpErr s g.wh g.kd = 0) (h3 : g.wh ≤ 3) (ho : g.wh ≠ 3 → g.op = true) (hl : ((ms.length + gs.length : Nat) : Int) < s.me) (hf : fitB s.co Y (tilesL g.wh g.kd) = true) : Blt s P (ms ++ [g]) gs X (incL Y (tilesL g.wh g.kd)) := by
 refine ⟨b.fi.meld (tiles_inb hv hP hg) hf, fun x hx => ?_, b.go, by simp only [List.length_append, List.length_cons, List.length_nil]; omega, b.x, b.sm⟩
 rcases List.mem_append.1 hx with hx | hx
 ·exact b.mo x hx
 ·simp at hx; subst hx
  unfold meldErr
  rw [if_neg (by omega), if_neg (by simp [hg]), if_neg]
  rintro ⟨h4, h5⟩
  rw [ho h4] at h5; cases h5
theorem Blt.group (b : Blt s P ms gs X Y) (hv : chkErr s = 0) (hP : plainI s = (P : Int)) {g : Gp} (hg : grpErr s g.wh g.kd = 0) (h2 : 1 ≤ g.wh ∧ g.wh ≤ 2) (ho : g.op = false) (hl : ((ms.length + gs.length : Nat) : Int) < s.me) (hf : fitB s.co Y (tilesL g.wh g.kd) = true) : Blt s P ms (gs ++ [g]) (incL X (tilesL g.wh g.kd)) (incL Y (tilesL g.wh g.kd)) := by
 have hi := tiles_inb hv hP hg
 have hx : InB X.length (tilesL g.wh g.kd) := by rw [b.fi.xl]; exact hi
 have h3 : (tilesL g.wh g.kd).length = 3 := by
  have : g.wh = 1 ∨ g.wh = 2 := by omega
  rcases this with e | e <;> rw [e] <;> rfl
 refine ⟨b.fi.put hi hf, b.mo, fun x hx => ?_, by simp only [List.length_append, List.length_cons, List.length_nil]; omega, fun i => ?_, ?_⟩
 ·rcases List.mem_append.1 hx with hx | hx
  ·exact b.go x hx
  ·simp at hx; subst hx; exact ⟨hg, h2, ho⟩
 ·rw [incL_get _ _ hx, b.x, cntT_snoc]
 ·rw [incL_sum _ _ hx, b.sm, h3]; simp; omega
theorem Blt.done (b : Blt s P ms gs X Y) (hv : chkErr s = 0) (hP : plainI s = (P : Int)) (hl : ((ms.length + gs.length : Nat) : Int) = s.me) {k : Int} (h0 : 0 ≤ k) (h1 : k < (P : Int)) (hf : fitB s.co Y [k, k] = true) :
  fullB s ⟨incL X [k, k], ms⟩ = true ∧ (∀ i, (incL X [k, k]).getD i 0 = cntT (gs ++ [⟨4, k, false⟩]) i) ∧ (incL X [k, k]).length = P := by
 have hi : InB P [k, k] := fun z hz => by simp at hz; omega
 have hx : InB X.length [k, k] := by rw [b.fi.xl]; exact hi
 refine ⟨(b.fi.put hi hf).full ⟨b.mo, by omega⟩ hv hP ?_, fun i => ?_, by rw [incL_len]; exact b.fi.xl⟩
 ·rw [incL_sum _ _ hx, b.sm]; simp; omega
 ·rw [incL_get _ _ hx, b.x, cntT_snoc]; rfl
theorem Blt.ok (b : Blt s P ms gs X Y) : MsOk s ms := ⟨b.mo, by have := b.ln; omega⟩
end
end Go.Proofs.YthblfhgofopcaaaGreat

namespace Go.Proofs.YthblfhgofopcaaaGreat
open Go.RowKit
set_option maxRecDepth 100000
set_option maxHeartbeats 2000000
def befG (a b : Gp) : Bool := decide (a.wh < b.wh) || (a.wh == b.wh && decide (a.kd < b.kd))
def posG (g : Gp) (l : List Gp) : Nat → Nat
 | 0 => 0
 | n + 1 => match l[n]? with
  | some x => if befG g x = true then posG g l n else n + 1
  | none => n + 1
def insG (l : List Gp) (g : Gp) : List Gp := l.take (posG g l l.length) ++ g :: l.drop (posG g l l.length)
def ordG (l : List Gp) : List Gp := l.foldl insG []
theorem posG_le (g : Gp) (l : List Gp) : ∀ n, posG g l n ≤ n
 | 0 => Nat.le_refl _
 | n + 1 => by
  unfold posG
  split
  ·split
   ·have := posG_le g l n; omega
   ·omega
  ·omega
theorem insG_len (l : List Gp) (g : Gp) : (insG l g).length = l.length + 1 := by
 have := posG_le g l l.length
 simp [insG]; omega
theorem ordG_snoc (l : List Gp) {i : Nat} (h : i < l.length) : ordG (l.take (i + 1)) = insG (ordG (l.take i)) l[i] := by
 unfold ordG
 rw [List.take_succ_eq_append_getElem h, List.foldl_append]; rfl
theorem ordG_len (l : List Gp) : ∀ {i : Nat}, i ≤ l.length → (ordG (l.take i)).length = i
 | 0, _ => by simp [ordG]
 | i + 1, h => by rw [ordG_snoc l (by omega), insG_len, ordG_len l (by omega)]
theorem says_Before (a b : Gp) : ASays Tryz.prog 114 [eGp a, eGp b] (B (befG a b)) := by
 unfold befG
 refine acall_ofW (nx := 0) (ne := 0) tysGood (DD_ok tysGood mixed _) Tryz.func114 (by rfl) (by rfl) (by simp [Tryz.ntmps114]) (fun p hp => by cases hp) ?_; rw [Tryz.ntmps114]; let tb := ord_114; let lv := live_114
 (have fa := zT; (repeat' first | refine zQ ?_ | (refine zN ?_; intro K hC hK) | ((repeat clear hJo hJU hJC Jo JU JC); (repeat (fail_if_success (refine hK _ ?_)); clear hK hC K); refine hK _ ?_; clear hK hC K) | (refine zC ?_ ?_ <;> intro hb) | (refine zK ?_; intro Jo JU JC hJo hJU hJC)) <;> (try clear fa))
 all_goals (refine AW_ret ?_; refine zU ?_; refine ⟨_, .rfl', .inr rfl, ?_, [], 2, finOk_nil, ?_⟩ <;> (have fa := zT; first | exact zE0 | (refine zE ?_; try clear fa)); try simp_all)
theorem says_kOrdered (l : List Gp) (h0 : 0 < l.length) (h1 : l.length ≤ 1000000) : ASays Tryz.prog 49 [eGps false l] (eGps true (ordG l)) := by
 have CB := fun a b => says_Before a b
 refine acall_ofW (nx := 0) (ne := 0) tysGood (DD_ok tysGood mixed _) Tryz.func49 (by rfl) (by rfl) (by simp [Tryz.ntmps49]) (fun p hp => by cases hp) ?_; rw [Tryz.ntmps49]; let tb := ord_49; let lv := live_49
 (have fa := zT; (repeat' first | refine zQ ?_ | (refine zN ?_; intro K hC hK) | ((repeat clear hJo hJU hJC Jo JU JC); (repeat (fail_if_success (refine hK _ ?_)); clear hK hC K); refine hK _ ?_; clear hK hC K) | (refine zC ?_ ?_ <;> intro hb) | (refine zK ?_; intro Jo JU JC hJo hJU hJC)) <;> (try clear fa))
 refine AW_loopGV (wk_virtT 3 500 0 3 (by rfl) (by rfl)) (α := Nat × Nat) (fun a => [(0, eGps false l), (3, .rsl 0 a.2 0 (ordG (l.take a.1)).length), (4, I a.1)]) (fun a => [(0, .arr a.2 3 ((ordG (l.take a.1)).map eGp))])
  (fun a => l.length - a.1) (fun a => a.1 ≤ l.length) [(500, 0)] [(2924, 0)] 0 [0, 3, 4] 900 (⟨by decide, by decide, by decide⟩) (⟨by decide, by decide, by decide⟩) (0, 0) (by simp) (by (have fa := (And.intro @virtT.eq_1 (And.intro (And.intro @upd.eq_1 @upd.eq_2) (And.intro @ordG.eq_1 (And.intro @List.take_zero.{0} @List.foldl_nil.{0, 0})))); exact zSF)) ?_
 rintro ⟨i, g⟩ k1 J hcJ hJ
 dsimp only at k1 hJ ⊢
 by_cases hi : i < l.length
 ·have hs := ordG_snoc l hi
  have hn := ordG_len l k1
  obtain ⟨O, hO⟩ : ∃ O, ordG (l.take i) = O := ⟨_, rfl⟩
  obtain ⟨z, hz⟩ : ∃ z, l[i] = z := ⟨_, rfl⟩
  rw [hO, hz] at hs
  rw [hO] at hn ⊢
  (have fa := zT; (repeat' first | refine zQ ?_ | (refine zN ?_; intro K hC hK) | ((repeat clear hJo hJU hJC Jo JU JC); (repeat (fail_if_success (refine hK _ ?_)); clear hK hC K); refine hK _ ?_; clear hK hC K) | (refine zC ?_ ?_ <;> intro hb) | (refine zK ?_; intro Jo JU JC hJo hJU hJC)) <;> (try clear fa))
  refine AW_loopG (α := Nat) (fun p => [(0, eGps false l), (3, .rsl 0 g 0 O.length), (4, I i), (5, I p)]) (fun p => [(0, .arr g 3 (O.map eGp))])
   (fun p => p) (fun p => p ≤ O.length ∧ posG z O O.length = posG z O p) [(0, 0)] [(0, 0)] 0 [0, 3, 4, 5] 1900 (⟨by decide, by decide, by decide⟩) (⟨by decide, by decide, by decide⟩) O.length ⟨Nat.le_refl _, rfl⟩ (by (have fa := zT; exact zSF)) ?_
  rintro p ⟨k2, k3⟩ J2 hcJ2 hJ2
  have e14 : min p O.length = p := by omega
  have e16 : List.take p (List.take p O) = O.take p := by rw [List.take_take, Nat.min_self]
  have e18 : List.take (O.length - p) (List.drop p O) = O.drop p := List.take_of_length_le (by simp)
  have e19 : List.take (p + 1) (O.take p ++ [z]) = O.take p ++ [z] := List.take_of_length_le (by simp; omega)
  have e20 : (((p : Nat) : Int) - 0).toNat = p := by omega
  have hlen2 : (O.take p ++ z :: O.drop p).length = p + 1 + (O.length - p) := by simp; omega
  have hins : posG z O O.length = p → insG O z = O.take p ++ z :: O.drop p := fun h => by unfold insG; rw [h]
  by_cases hp : 0 < p
  ·obtain ⟨y, hy⟩ : ∃ y, O[p - 1] = y := ⟨_, rfl⟩
   have hc : ((p - 1 : Nat) : Int) = (p : Int) - 1 := by omega
   have hstep : posG z O p = if befG z y = true then posG z O (p - 1) else p := by
    obtain ⟨q, rfl⟩ : ∃ q, p = q + 1 := ⟨p - 1, by omega⟩
    rw [posG, List.getElem?_eq_getElem (by omega)]
    simp only [Nat.add_sub_cancel] at hy ⊢
    rw [hy]
   by_cases hb2 : befG z y = true
   ·rw [if_pos hb2] at hstep
    (have fa := (And.intro hz (And.intro hy hb2)); (repeat' first | refine zS (CB z y) ?_ | refine zQ ?_ | (refine zN ?_; intro K hC hK) | ((repeat clear hJo hJU hJC Jo JU JC); (repeat (fail_if_success (refine hK _ ?_)); clear hK hC K); refine hK _ ?_; clear hK hC K) | (refine zC ?_ ?_ <;> intro hb) | (refine zK ?_; intro Jo JU JC hJo hJU hJC)) <;> (try clear fa))
    exact hJ2 _ (p - 1) (by omega) ⟨by omega, by rw [k3, hstep]⟩ (by (have fa := hc; exact zSF))
   ·rw [if_neg hb2] at hstep
    have hb3 : befG z y = false := by simpa using hb2
    have hI := hins (by rw [k3, hstep])
    (have fa := (And.intro hz (And.intro hy (And.intro hb3 (And.intro e14 (And.intro e16 (And.intro e18 (And.intro e19 (And.intro e20 Nat.min_self)))))))); (repeat' first | refine zS (CB z y) ?_ | refine zQ ?_ | (refine zN ?_; intro K hC hK) | ((repeat clear hJo hJU hJC Jo JU JC); (repeat (fail_if_success (refine hK _ ?_)); clear hK hC K); refine hK _ ?_; clear hK hC K) | (refine zC ?_ ?_ <;> intro hb) | (refine zK ?_; intro Jo JU JC hJo hJU hJC)) <;> (try clear fa))
    refine hJ _ (i + 1, _) (by dsimp only; omega) (by dsimp only; omega) (by (have fa := (And.intro hs (And.intro hI (And.intro hlen2 (And.intro e19 (And.intro @List.append_assoc.{0} (And.intro @List.cons_append.{0} @List.nil_append.{0})))))); exact zSF))
  ·have hI := hins (by rw [k3, show p = 0 by omega]; rfl)
   (have fa := (And.intro hz (And.intro e14 (And.intro e16 (And.intro e18 (And.intro e19 (And.intro e20 Nat.min_self)))))); (repeat' first | refine zS (CB) ?_ | refine zQ ?_ | (refine zN ?_; intro K hC hK) | ((repeat clear hJo hJU hJC Jo JU JC); (repeat (fail_if_success (refine hK _ ?_)); clear hK hC K); refine hK _ ?_; clear hK hC K) | (refine zC ?_ ?_ <;> intro hb) | (refine zK ?_; intro Jo JU JC hJo hJU hJC)) <;> (try clear fa))
   refine hJ _ (i + 1, _) (by dsimp only; omega) (by dsimp only; omega) (by (have fa := (And.intro hs (And.intro hI (And.intro hlen2 (And.intro e19 (And.intro @List.append_assoc.{0} (And.intro @List.cons_append.{0} @List.nil_append.{0})))))); exact zSF))
 ·have hT : l.take i = l := List.take_of_length_le (by omega)
  (have fa := zT; (repeat' first | refine zQ ?_ | (refine zN ?_; intro K hC hK) | ((repeat clear hJo hJU hJC Jo JU JC); (repeat (fail_if_success (refine hK _ ?_)); clear hK hC K); refine hK _ ?_; clear hK hC K) | (refine zC ?_ ?_ <;> intro hb) | (refine zK ?_; intro Jo JU JC hJo hJU hJC)) <;> (try clear fa))
  refine AW_ret ?_; refine zU ?_; refine ⟨_, .rfl', .inr rfl, ?_, [], 2, finOk_nil, ?_⟩ <;> (have fa := zT; first | exact zE0 | (refine zE ?_; try clear fa))
  rw [hT]
end Go.Proofs.YthblfhgofopcaaaGreat
