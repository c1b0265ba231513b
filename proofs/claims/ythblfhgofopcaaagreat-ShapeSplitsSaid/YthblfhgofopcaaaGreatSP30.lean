/-
  Parts of the proof: RefV, RefW, RefP, ConM, JobA, Apart.
-/
import Derived.Test.YthblfhgofopcaaaGreatSP16
import Derived.Test.YthblfhgofopcaaaGreatSP28
import Derived.Test.YthblfhgofopcaaaGreatSP13
import Derived.Test.YthblfhgofopcaaaGreatSP29
import Derived.Test.YthblfhgofopcaaaGreatSP15
import Derived.Test.YthblfhgofopcaaaGreatSP23
set_option linter.all false
namespace Go.Proofs.YthblfhgofopcaaaGreat
open Go.RowKit
set_option maxRecDepth 100000
set_option maxHeartbeats 2000000
theorem decAt {X : List Int} {z : Int} (h0 : 0 ≤ z) (h1 : z < (X.length : Int)) (hX : ∀ i, -1000000000 ≤ X.getD i 0 ∧ X.getD i 0 ≤ 1000000000) : ∃ hl : z.toNat < X.length, IntKind.i64.wrap (X[z.toNat] - 1) = X.getD z.toNat 0 - 1 ∧ (X.map I).set z.toNat (I (X.getD z.toNat 0 - 1)) = (dec1 X z).map I := by
 have hl : z.toNat < X.length := by omega
 have e : X[z.toNat] = X.getD z.toNat 0 := by simp [hl]
 have := hX z.toNat
 exact ⟨hl, by rw [e]; exact vwrap_in (by omega) (by omega), by rw [set_mapI]; rfl⟩
theorem decL_take (X ks : List Int) {j : Nat} (h : j < ks.length) : dec1 (decL X (ks.take j)) ks[j] = decL X (ks.take (j + 1)) := by
 unfold decL
 rw [List.take_succ_eq_append_getElem h, List.foldl_append]; rfl
theorem lessO_drop (X ks : List Int) {j : Nat} (h : j < ks.length) : lessO X (ks.drop j) = if (dec1 X ks[j]).getD ks[j].toNat 0 < 0 then none else lessO (dec1 X ks[j]) (ks.drop (j + 1)) := by
 rw [List.drop_eq_getElem_cons h, lessO]
def Sb (X : List Int) : Prop := ∀ i, 0 ≤ X.getD i 0 ∧ X.getD i 0 ≤ 1000
theorem Sb.dec {X : List Int} {z : Int} (h : Sb X) (h0 : 0 ≤ z) (h1 : z < (X.length : Int)) (hn : ¬ (dec1 X z).getD z.toNat 0 < 0) : Sb (dec1 X z) := fun i => by
 have := h i
 have e := dec1_get h0 h1 i
 by_cases hz : z = (i : Int)
 ·rw [if_pos hz] at e
  have hi : z.toNat = i := by omega
  rw [hi] at hn
  omega
 ·rw [if_neg hz] at e; omega
def nilO (o : Option (List Int)) : AV := match o with
 | none => nilA
 | some r => eInts true r
theorem says_less (bag ks : List Int) (hb : Sb bag) (hk : InB bag.length ks) (hl : bag.length ≤ 1000000) (hl2 : ks.length ≤ 1000000) : ASays Tryz.prog 146 [eInts false bag, eInts false ks] (nilO (lessO bag ks)) := by
 refine acall_ofW (nx := 0) (ne := 0) tysGood (DD_ok tysGood mixed _) Tryz.func146 (by rfl) (by rfl) (by simp [Tryz.ntmps146]) (fun p hp => by cases hp) ?_; rw [Tryz.ntmps146]; let tb := ord_146; let lv := live_146
 (have fa := zT; (repeat' first | refine zQ ?_ | (refine zN ?_; intro K hC hK) | ((repeat clear hJo hJU hJC Jo JU JC); (repeat (fail_if_success (refine hK _ ?_)); clear hK hC K); refine hK _ ?_; clear hK hC K) | (refine zC ?_ ?_ <;> intro hb) | (refine zK ?_; intro Jo JU JC hJo hJU hJC)) <;> (try clear fa))
 refine AW_forC ks.length (fun k σ => ∃ X, X = decL bag (ks.take k) ∧ Sb X ∧ X.length = bag.length ∧ lessO bag ks = lessO X (ks.drop k) ∧ σ = ⟨900, [(1, eInts false ks), (5, .rsl 0 1 0 bag.length), (6, I k)], [(0, .arr 1 1 (X.map I))]⟩) [(16, 0)] [(0, 0)] 0 [1, 5, 6] 900 (finOk0 (by decide) (by decide)) (finOk0 (by decide) (by decide)) ⟨bag, rfl, hb, rfl, rfl, by (have fa := zT; exact zV)⟩ ?_
 rintro k σ' hk' ⟨X, hX, hS, hXl, hR, rfl⟩ J hcJ hJ
 by_cases h : k < ks.length
 ·obtain ⟨z, hz⟩ : ∃ z, ks[k] = z := ⟨_, rfl⟩
  have hin := hk z (by rw [← hz]; exact List.getElem_mem h)
  have hd := lessO_drop X ks h
  have ht := decL_take bag ks h
  rw [← hX, hz] at ht
  rw [hz] at hd
  obtain ⟨d1, d2, d3⟩ := decAt (X := X) hin.1 (by omega) (fun i => by have := hS i; omega)
  have hnl := dec1_len X z
  obtain ⟨Y, hY⟩ : ∃ Y, dec1 X z = Y := ⟨_, rfl⟩
  have hYg : Y.getD z.toNat 0 = X.getD z.toNat 0 - 1 := by rw [← hY, dec1_get (bag := X) hin.1 (by omega), if_pos (by omega)]
  have hYS : ¬ (dec1 X z).getD z.toNat 0 < 0 → Sb (dec1 X z) := fun hn => hS.dec hin.1 (by omega) hn
  rw [hY] at hd ht d3 hnl hYS
  have d4 : z.toNat < Y.length := by omega
  have d5 : Y[z.toNat] = Y.getD z.toNat 0 := by simp [d4]
  (have fa := (And.intro hz (And.intro d2 (And.intro d3 d5))); (repeat' first | refine zQ ?_ | (refine zN ?_; intro K hC hK) | ((repeat clear hJo hJU hJC Jo JU JC); (repeat (fail_if_success (refine hK _ ?_)); clear hK hC K); refine hK _ ?_; clear hK hC K) | (refine zC ?_ ?_ <;> intro hb) | (refine zK ?_; intro Jo JU JC hJo hJU hJC)) <;> (try clear fa))
  ·refine AW_ret ?_; refine zU ?_; refine ⟨_, .rfl', .inr rfl, ?_, [], 2, finOk_nil, ?_⟩ <;> (have fa := zT; first | exact zE0 | (refine zE ?_; try clear fa))
   rw [hR, hd, if_pos (by omega)]; rfl
  ·have hn : ¬ Y.getD z.toNat 0 < 0 := by omega
   refine hJ _ h ⟨Y, ht, hY ▸ hYS hn, by omega, ?_, by (have fa := zT; exact zV)⟩
   rw [hR, hd, if_neg hn]
 ·(have fa := zT; (repeat' first | refine zQ ?_ | (refine zN ?_; intro K hC hK) | ((repeat clear hJo hJU hJC Jo JU JC); (repeat (fail_if_success (refine hK _ ?_)); clear hK hC K); refine hK _ ?_; clear hK hC K) | (refine zC ?_ ?_ <;> intro hb) | (refine zK ?_; intro Jo JU JC hJo hJU hJC)) <;> (try clear fa))
  refine AW_ret ?_; refine zU ?_; refine ⟨_, .rfl', .inr rfl, ?_, [], 2, finOk_nil, ?_⟩ <;> (have fa := zT; first | exact zE0 | (refine zE ?_; try clear fa))
  have : ks.drop k = [] := List.drop_eq_nil_of_le (by omega)
  rw [hR, this]
  simp [lessO, nilO, ← hXl]
def Sg (l : List Gp) : Prop := ∀ g ∈ l, -1000 ≤ g.wh ∧ g.wh ≤ 1000 ∧ -1000 ≤ g.kd ∧ g.kd ≤ 1000
def lcmpR : List Gp → List Gp → Int
 | a :: l, b :: m => if a.wh ≠ b.wh then a.wh - b.wh else if a.kd ≠ b.kd then a.kd - b.kd else lcmpR l m
 | l, m => l.length - m.length
theorem lcmpR_sign : ∀ a b : List Gp, (lcmpR a b < 0 ↔ lcmp a b < 0) ∧ (lcmpR a b = 0 ↔ lcmp a b = 0)
 | [], [] => by simp [lcmpR, lcmp]
 | [], _ :: _ => by simp [lcmpR, lcmp]; omega
 | _ :: _, [] => by simp [lcmpR, lcmp]; omega
 | a :: l, b :: m => by
  have k := gcmp_cases a b
  have ih := lcmpR_sign l m
  unfold lcmpR lcmp
  by_cases h1 : a.wh = b.wh
  ·rw [if_neg (by simpa using h1)]
   by_cases h2 : a.kd = b.kd
   ·rw [if_neg (by simpa using h2), if_pos (by omega)]; exact ih
   ·rw [if_pos h2, if_neg (by omega)]; omega
  ·rw [if_pos h1, if_neg (by omega)]; omega
theorem lcmpR_drop (a b : List Gp) {k : Nat} (h1 : k < a.length) (h2 : k < b.length) : lcmpR (a.drop k) (b.drop k) = if a[k].wh ≠ b[k].wh then a[k].wh - b[k].wh else if a[k].kd ≠ b[k].kd then a[k].kd - b[k].kd else lcmpR (a.drop (k + 1)) (b.drop (k + 1)) := by
 rw [List.drop_eq_getElem_cons h1, List.drop_eq_getElem_cons h2, lcmpR]
theorem lcmpR_end (a b : List Gp) {k : Nat} (h : ¬ (k < a.length ∧ k < b.length)) (h1 : k ≤ a.length) (h2 : k ≤ b.length) : lcmpR (a.drop k) (b.drop k) = (a.length : Int) - b.length := by
 have e : a.drop k = [] ∨ b.drop k = [] := by
  by_cases h3 : k < a.length
  ·exact .inr (List.drop_eq_nil_of_le (by omega))
  ·exact .inl (List.drop_eq_nil_of_le (by omega))
 have l1 : (a.drop k).length = a.length - k := List.length_drop
 have l2 : (b.drop k).length = b.length - k := List.length_drop
 rcases e with e | e
 ·rw [e] at l1 ⊢
  cases hb : b.drop k with
  | nil => rw [hb] at l2; simp [lcmpR] at *; omega
  | cons y m => rw [hb] at l2; simp [lcmpR] at *; omega
 ·rw [e] at l2 ⊢
  cases ha : a.drop k with
  | nil => rw [ha] at l1; simp [lcmpR] at *; omega
  | cons y m => rw [ha] at l1; simp [lcmpR] at *; omega
theorem says_rcompare (a b : List Gp) (ha : Sg a) (hb : Sg b) (h1 : a.length ≤ 1000000) (h2 : b.length ≤ 1000000) : ASays Tryz.prog 185 [eGps false a, eGps false b] (I (lcmpR a b)) := by
 refine acall_ofW (nx := 0) (ne := 0) tysGood (DD_ok tysGood mixed _) Tryz.func185 (by rfl) (by rfl) (by simp [Tryz.ntmps185]) (fun p hp => by cases hp) ?_; rw [Tryz.ntmps185]; let tb := ord_185; let lv := live_185
 (have fa := zT; (repeat' first | refine zQ ?_ | (refine zN ?_; intro K hC hK) | ((repeat clear hJo hJU hJC Jo JU JC); (repeat (fail_if_success (refine hK _ ?_)); clear hK hC K); refine hK _ ?_; clear hK hC K) | (refine zC ?_ ?_ <;> intro hb) | (refine zK ?_; intro Jo JU JC hJo hJU hJC)) <;> (try clear fa))
 refine AW_forC (min a.length b.length) (fun k σ => lcmpR a b = lcmpR (a.drop k) (b.drop k) ∧ σ = ⟨900, [(0, eGps false a), (1, eGps false b), (5, I k)], []⟩) [] [] 0 [0, 1, 5] 900 (finOk0 (by decide) (by decide)) (finOk0 (by decide) (by decide)) ⟨rfl, by (have fa := zT; exact zV)⟩ ?_
 rintro k σ' hk ⟨hR, rfl⟩ J hcJ hJ
 by_cases h : k < a.length ∧ k < b.length
 ·obtain ⟨k1, k2⟩ := h
  have hd := lcmpR_drop a b k1 k2
  have g1 := ha a[k] (List.getElem_mem k1)
  have g2 := hb b[k] (List.getElem_mem k2)
  (have fa := zT; (repeat' first | refine zQ ?_ | (refine zN ?_; intro K hC hK) | ((repeat clear hJo hJU hJC Jo JU JC); (repeat (fail_if_success (refine hK _ ?_)); clear hK hC K); refine hK _ ?_; clear hK hC K) | (refine zC ?_ ?_ <;> intro hb) | (refine zK ?_; intro Jo JU JC hJo hJU hJC)) <;> (try clear fa))
  ·refine AW_ret ?_; refine zU ?_; refine ⟨_, .rfl', .inr rfl, ?_, [], 2, finOk_nil, ?_⟩ <;> (have fa := zT; first | exact zE0 | (refine zE ?_; try clear fa))
   rw [hR, hd]; ((repeat' split) <;> first | rfl | (exfalso; omega) | (simp_all; done) | (simp_all; omega))
  ·refine AW_ret ?_; refine zU ?_; refine ⟨_, .rfl', .inr rfl, ?_, [], 2, finOk_nil, ?_⟩ <;> (have fa := zT; first | exact zE0 | (refine zE ?_; try clear fa))
   rw [hR, hd]; ((repeat' split) <;> first | rfl | (exfalso; omega) | (simp_all; done) | (simp_all; omega))
  ·refine hJ _ (by omega) ⟨?_, by (have fa := zT; exact zV)⟩
   rw [hR, hd]; ((repeat' split) <;> first | rfl | (exfalso; omega) | (simp_all; done) | (simp_all; omega))
 ·have hd := lcmpR_end a b h (by omega) (by omega)
  (have fa := zT; (repeat' first | refine zQ ?_ | (refine zN ?_; intro K hC hK) | ((repeat clear hJo hJU hJC Jo JU JC); (repeat (fail_if_success (refine hK _ ?_)); clear hK hC K); refine hK _ ?_; clear hK hC K) | (refine zC ?_ ?_ <;> intro hb) | (refine zK ?_; intro Jo JU JC hJo hJU hJC)) <;> (try clear fa))
  all_goals (refine AW_ret ?_; refine zU ?_; refine ⟨_, .rfl', .inr rfl, ?_, [], 2, finOk_nil, ?_⟩ <;> (have fa := zT; first | exact zE0 | (refine zE ?_; try clear fa)); rw [hR, hd])
end Go.Proofs.YthblfhgofopcaaaGreat

namespace Go.Proofs.YthblfhgofopcaaaGreat
open Go.RowKit
set_option maxRecDepth 100000
set_option maxHeartbeats 2000000
@[go_sem] theorem one_LL (f : Bool) (l : List (List Gp)) : (∀ u ∈ l.map (eGps f), ∀ v ∈ u.cs, v.one = true) = True := one_map (fun x v hv => by simp [AV.cs] at hv; subst hv; rfl) l
theorem take1 {α : Type} {l : List α} {k : Nat} (h : k < l.length) : (l.drop k).take 1 = [l[k]] := by
 rw [List.drop_eq_getElem_cons h]; rfl
theorem atG_pred (l : List Gp) (g : Gp) {m : Nat} (h0 : 0 < m) (h : m ≤ l.length) : atG l g m = if gcmp g l[m - 1] < 0 then atG l g (m - 1) else m := by
 obtain ⟨j, rfl⟩ : ∃ j, m = j + 1 := ⟨m - 1, by omega⟩
 exact atG_succ l g (by omega)
theorem lcmp_one (a b : Gp) : lcmp [a] [b] = gcmp a b := by
 simp only [lcmp]; split <;> omega
theorem ins_eq {α : Type} (l : List α) (g : α) {m : Nat} (hm : m ≤ l.length) : min ((m : Int) - 0).toNat l.length + 1 + min (l.length - m) (l.length - m) ≤ min (min ((m : Int) - 0).toNat l.length + 1) (min (min ((m : Int) - 0).toNat l.length) (min ((m : Int) - 0).toNat l.length) + 1) + min (l.length - m) (l.length - m) ∧
  List.take (min ((m : Int) - 0).toNat l.length + 1 + min (l.length - m) (l.length - m)) (List.take (min ((m : Int) - 0).toNat l.length + 1) (List.take (min ((m : Int) - 0).toNat l.length) (List.take ((m : Int) - 0).toNat l) ++ [g]) ++ List.take (l.length - m) (List.drop m l)) = l.take m ++ g :: l.drop m := by
 have e1 : ((m : Int) - 0).toNat = m := by omega
 have e2 : min m l.length = m := by omega
 simp only [e1, e2, Nat.min_self]
 refine ⟨Nat.le_refl _, ?_⟩
 rw [List.take_take, Nat.min_self, List.take_of_length_le (l := List.take m l ++ [g]) (by simp; omega), List.take_of_length_le (l := List.drop m l) (by simp), List.take_of_length_le (by simp; omega)]
 simp
section
theorem rel_low {c : Cx} {h : HF} {x : AV} {y : Value} (k : RelV c h x y) : RelV c h x.low y := k.low rfl fun f b hs => ⟨hs.1, hs.2.1, by rcases hs.2.2 with h | h | ⟨_, h⟩ <;> simp [h]⟩
theorem asays_low {P : Program} {f : Nat} {ys : List AV} {res : AV} (h : ACall P f ys [] fun x hl => x.low = res ∧ hl = []) : ASays P f ys res := by
 refine ⟨h.1, fun c vals hn hh hr => (h.2 c vals hn hh hr).mono ?_⟩
 rintro e w' ⟨v, x, hl, c', e1, e2, ⟨rfl, rfl⟩, k1, k2, k3⟩
 exact ⟨v, x.low, [], c', e1, e2, ⟨rfl, rfl⟩, k1, k2, rel_low k3⟩
end
theorem says_with (l : List Gp) (g : Gp) (h : Sg l) (hg : Sg [g]) (hl : l.length ≤ 1000000) : ASays Tryz.prog 165 [eGps false l, eGp g] (eGps true (withL l g)) := by
 refine acall_ofW (nx := 0) (ne := 0) tysGood (DD_ok tysGood mixed _) Tryz.func165 (by rfl) (by rfl) (by simp [Tryz.ntmps165]) (fun p hp => by cases hp) ?_; rw [Tryz.ntmps165]; let tb := ord_165; let lv := live_165
 (have fa := zT; (repeat' first | refine zQ ?_ | (refine zN ?_; intro K hC hK) | ((repeat clear hJo hJU hJC Jo JU JC); (repeat (fail_if_success (refine hK _ ?_)); clear hK hC K); refine hK _ ?_; clear hK hC K) | (refine zC ?_ ?_ <;> intro hb) | (refine zK ?_; intro Jo JU JC hJo hJU hJC)) <;> (try clear fa))
 refine AW_loopC (fun m σ => m ≤ l.length ∧ atG l g l.length = atG l g m ∧ σ = ⟨900, [(0, eGps false l), (3, .ref 0 0 0 0), (5, I m)], [(0, .arr 0 3 [eGp g])]⟩) [(0, 0)] [(0, 0)] 0 [0, 3, 5] 900 (finOk0 (by decide) (by decide)) (finOk0 (by decide) (by decide)) ⟨l.length, Nat.le_refl _, rfl, by (have fa := zT; exact zV)⟩ ?_
 rintro m σ' ⟨hm, hR, rfl⟩ J hcJ hJ
 have out : ∀ a : Nat, atG l g l.length = a → l.take a ++ g :: l.drop a = withL l g := fun a ha => by rw [withL, ha]
 by_cases h0 : 0 < m
 ·have hsl := take1 (show m - 1 < l.length by omega)
  have hp := atG_pred l g h0 hm
  have sx : Sg [l[m - 1]] := fun y hy => by simp at hy; subst hy; exact h _ (List.getElem_mem _)
  have hs := lcmpR_sign [g] [l[m - 1]]
  rw [lcmp_one] at hs
  have CC := says_rcompare [g] [l[m - 1]] hg sx (by simp) (by simp)
  obtain ⟨cv, hcv⟩ : ∃ cv, lcmpR [g] [l[m - 1]] = cv := ⟨_, rfl⟩
  rw [hcv] at CC hs
  (have fa := hsl; (repeat' first | refine zS (CC) ?_ | refine zQ ?_ | (refine zN ?_; intro K hC hK) | ((repeat clear hJo hJU hJC Jo JU JC); (repeat (fail_if_success (refine hK _ ?_)); clear hK hC K); refine hK _ ?_; clear hK hC K) | (refine zC ?_ ?_ <;> intro hb) | (refine zK ?_; intro Jo JU JC hJo hJU hJC)) <;> (try clear fa))
  ·have w1 : ((m : Int) - 1) = ((m - 1 : Nat) : Int) := by omega
   refine hJ (m - 1) _ (by omega) ⟨by omega, ?_, by rw [w1]; (have fa := zT; exact zV)⟩
   rw [hR, hp, if_pos (by omega)]
  ·have hR := out m (by rw [hR, hp, if_neg (by omega)])
   refine AW_ret ?_; refine zU ?_; refine ⟨_, .rfl', .inr rfl, ?_, [], 2, finOk_nil, ?_⟩ <;> (have fa := zT; first | exact zE0 | (refine zE ?_; try clear fa))
   rw [if_pos (ins_eq l g hm).1, (ins_eq l g hm).2, hR]
 ·(have fa := zT; (repeat' first | refine zQ ?_ | (refine zN ?_; intro K hC hK) | ((repeat clear hJo hJU hJC Jo JU JC); (repeat (fail_if_success (refine hK _ ?_)); clear hK hC K); refine hK _ ?_; clear hK hC K) | (refine zC ?_ ?_ <;> intro hb) | (refine zK ?_; intro Jo JU JC hJo hJU hJC)) <;> (try clear fa))
  have hR := out m (by rw [hR]; obtain rfl : m = 0 := by omega
                       rfl)
  refine AW_ret ?_; refine zU ?_; refine ⟨_, .rfl', .inr rfl, ?_, [], 2, finOk_nil, ?_⟩ <;> (have fa := zT; first | exact zE0 | (refine zE ?_; try clear fa))
  rw [if_pos (ins_eq l g hm).1, (ins_eq l g hm).2, hR]
theorem atL_pred (l : List (List Gp)) (g : List Gp) {m : Nat} (h0 : 0 < m) (h : m ≤ l.length) : atL l g m = if lcmp g l[m - 1] < 0 then atL l g (m - 1) else m := by
 obtain ⟨j, rfl⟩ : ∃ j, m = j + 1 := ⟨m - 1, by omega⟩
 exact atL_succ l g (by omega)
def Sl (l : List (List Gp)) : Prop := ∀ x ∈ l, Sg x ∧ x.length ≤ 1000000
theorem says_add (l : List (List Gp)) (g : List Gp) (h : Sl l) (hg : Sg g) (hgl : g.length ≤ 1000000) (hl : l.length ≤ 1000000000) : ASays Tryz.prog 164 [eLL false l, eGps false g] (eLL false (addL l g)) := by
 refine asays_low ?_
 refine acall_ofW (nx := 0) (ne := 0) tysGood (DD_ok tysGood mixed _) Tryz.func164 (by rfl) (by rfl) (by simp [Tryz.ntmps164]) (fun p hp => by cases hp) ?_; rw [Tryz.ntmps164]; let tb := ord_164; let lv := live_164
 (have fa := zT; (repeat' first | refine zQ ?_ | (refine zN ?_; intro K hC hK) | ((repeat clear hJo hJU hJC Jo JU JC); (repeat (fail_if_success (refine hK _ ?_)); clear hK hC K); refine hK _ ?_; clear hK hC K) | (refine zC ?_ ?_ <;> intro hb) | (refine zK ?_; intro Jo JU JC hJo hJU hJC)) <;> (try clear fa))
 refine AW_loopC (fun m σ => m ≤ l.length ∧ atL l g l.length = atL l g m ∧ σ = ⟨900, [(0, eLL false l), (1, eGps false g), (5, I m)], []⟩) [] [] 0 [0, 1, 5] 900 (finOk0 (by decide) (by decide)) (finOk0 (by decide) (by decide)) ⟨l.length, Nat.le_refl _, rfl, by (have fa := zT; exact zV)⟩ ?_
 rintro m σ' ⟨hm, hR, rfl⟩ J hcJ hJ
 have out : ∀ a : Nat, atL l g l.length = a → addL l g = if 0 < a ∧ lcmp g ((l[a - 1]?).getD []) = 0 then l else l.take a ++ g :: l.drop a := fun a ha => by rw [addL, ha]
 by_cases h0 : 0 < m
 ·have hp := atL_pred l g h0 hm
  have hlt : m - 1 < l.length := by omega
  have sx := h l[m - 1] (List.getElem_mem _)
  have hs := lcmpR_sign g l[m - 1]
  have hgd : (l[m - 1]?).getD [] = l[m - 1] := by simp [hlt]
  have CC := says_rcompare g l[m - 1] hg sx.1 hgl sx.2
  obtain ⟨cv, hcv⟩ : ∃ cv, lcmpR g l[m - 1] = cv := ⟨_, rfl⟩
  rw [hcv] at CC hs
  (have fa := zT; (repeat' first | refine zS (CC) ?_ | refine zQ ?_ | (refine zN ?_; intro K hC hK) | ((repeat clear hJo hJU hJC Jo JU JC); (repeat (fail_if_success (refine hK _ ?_)); clear hK hC K); refine hK _ ?_; clear hK hC K) | (refine zC ?_ ?_ <;> intro hb) | (refine zK ?_; intro Jo JU JC hJo hJU hJC)) <;> (try clear fa))
  ·have w1 : ((m : Int) - 1) = ((m - 1 : Nat) : Int) := by omega
   refine hJ (m - 1) _ (by omega) ⟨by omega, ?_, by rw [w1]; (have fa := zT; exact zV)⟩
   rw [hR, hp, if_pos (by omega)]
  ·have hR := out m (by rw [hR, hp, if_neg (by omega)])
   rw [if_pos ⟨h0, by rw [hgd]; omega⟩] at hR
   refine AW_ret ?_; refine zU ?_; refine ⟨_, .rfl', .inr rfl, ?_, [], 2, finOk_nil, ?_⟩ <;> (have fa := zT; first | exact zE0 | (refine zE ?_; try clear fa))
   rw [hR]
  ·have hR := out m (by rw [hR, hp, if_neg (by omega)])
   rw [if_neg (by rw [hgd]; omega)] at hR
   refine AW_ret ?_; refine zU ?_; refine ⟨_, .rfl', .inr rfl, ?_, [], 2, finOk_nil, ?_⟩ <;> (have fa := zT; first | exact zE0 | (refine zE ?_; try clear fa))
   rw [if_pos (ins_eq l g hm).1, (ins_eq l g hm).2, ← hR]; simp only [AV.low, lowL_eGps]
 ·(have fa := zT; (repeat' first | refine zQ ?_ | (refine zN ?_; intro K hC hK) | ((repeat clear hJo hJU hJC Jo JU JC); (repeat (fail_if_success (refine hK _ ?_)); clear hK hC K); refine hK _ ?_; clear hK hC K) | (refine zC ?_ ?_ <;> intro hb) | (refine zK ?_; intro Jo JU JC hJo hJU hJC)) <;> (try clear fa))
  have hR := out m (by rw [hR]; obtain rfl : m = 0 := by omega
                       rfl)
  rw [if_neg (by omega)] at hR
  refine AW_ret ?_; refine zU ?_; refine ⟨_, .rfl', .inr rfl, ?_, [], 2, finOk_nil, ?_⟩ <;> (have fa := zT; first | exact zE0 | (refine zE ?_; try clear fa))
  rw [if_pos (ins_eq l g hm).1, (ins_eq l g hm).2, ← hR]; simp only [AV.low, lowL_eGps]
end Go.Proofs.YthblfhgofopcaaaGreat

namespace Go.Proofs.YthblfhgofopcaaaGreat
open Go.RowKit
set_option maxRecDepth 100000
set_option maxHeartbeats 2000000
theorem asays_le {P : Program} {f : Nat} {ys : List AV} {res : AV} (h : ACall P f ys [] fun x hl => LeV x res ∧ hl = []) : ASays P f ys res := by
 refine ⟨h.1, fun c vals hn hh hr => (h.2 c vals hn hh hr).mono ?_⟩
 rintro e w' ⟨v, x, hl, c', e1, e2, ⟨hx, rfl⟩, k1, k2, k3⟩
 exact ⟨v, res, [], c', e1, e2, ⟨rfl, rfl⟩, k1, k2, hx _ _ _ k3⟩
end Go.Proofs.YthblfhgofopcaaaGreat

namespace Go.Proofs.YthblfhgofopcaaaGreat
def rawE (bag : List Int) : Nat → List Gp
 | 0 => []
 | k + 1 => rawE bag k ++ (if bag.getD k 0 = 1 then [gp 5 k] else if bag.getD k 0 = 2 then [gp 4 k] else [])
def Rise (ks : List Int) : Prop := ks.Pairwise (· < ·)
theorem rise_ext : ∀ {l m : List Int}, Rise l → Rise m → (∀ x, x ∈ l ↔ x ∈ m) → l = m
 | [], [], _, _, _ => rfl
 | [], b :: m, _, _, h => absurd ((h b).2 (by simp)) (by simp)
 | a :: l, [], _, _, h => absurd ((h a).1 (by simp)) (by simp)
 | a :: l, b :: m, hl, hm, h => by
  have hl' := List.pairwise_cons.1 hl
  have hm' := List.pairwise_cons.1 hm
  have hab : a = b := by
   rcases List.mem_cons.1 ((h a).1 (by simp)) with e | h1
   ·exact e
   ·rcases List.mem_cons.1 ((h b).2 (by simp)) with e | h2
    ·exact e.symm
    ·have k1 := hm'.1 a h1
     have k2 := hl'.1 b h2
     omega
  subst hab
  rw [rise_ext hl'.2 hm'.2 fun x => ⟨fun hx => ?_, fun hx => ?_⟩]
  ·rcases List.mem_cons.1 ((h x).1 (by simp [hx])) with e | h1
   ·subst e; have := hl'.1 x hx; omega
   ·exact h1
  ·rcases List.mem_cons.1 ((h x).2 (by simp [hx])) with e | h1
   ·subst e; have := hm'.1 x hx; omega
   ·exact h1
def upTo : Nat → List Int
 | 0 => []
 | k + 1 => upTo k ++ [(k : Int)]
theorem mem_upTo {x : Int} : ∀ {n : Nat}, x ∈ upTo n ↔ 0 ≤ x ∧ x < (n : Int)
 | 0 => by simp only [upTo, List.not_mem_nil, false_iff]; omega
 | n + 1 => by rw [upTo, List.mem_append, mem_upTo]; simp; omega
theorem upTo_rise : ∀ n, Rise (upTo n)
 | 0 => List.Pairwise.nil
 | n + 1 => by
  unfold Rise; rw [upTo, List.pairwise_append]
  exact ⟨upTo_rise n, by simp, fun a ha b hb => by simp at hb; have := mem_upTo.1 ha; omega⟩
theorem rise_filter {ks : List Int} (h : Rise ks) (p : Int → Bool) : Rise (ks.filter p) := List.Pairwise.filter p h
theorem rise_eq {ks : List Int} {n : Nat} (h : Rise ks) (hb : InB n ks) : ks = (upTo n).filter fun z => ks.any fun y => y == z := by
 refine rise_ext h (rise_filter (upTo_rise n) _) fun x => ?_
 rw [List.mem_filter, mem_upTo, List.any_eq_true]
 constructor
 ·intro hx
  exact ⟨hb x hx, x, hx, by simp⟩
 ·rintro ⟨_, y, hy, he⟩
  simp at he; subst he; exact hy
def cntL (ks : List Int) (n : Nat) : List Int := incL (List.replicate n 0) ks
theorem cntL_len (ks : List Int) (n : Nat) : (cntL ks n).length = n := by rw [cntL, incL_len]; simp
end Go.Proofs.YthblfhgofopcaaaGreat

namespace Go.Proofs.YthblfhgofopcaaaGreat
open Go.RowKit
set_option maxRecDepth 100000
set_option maxHeartbeats 2000000
def eJob (s : TSet) (f : Fm) (h : Hd) : AV := .agg [I s.pl, eInts false s.su, I s.wi, I s.dr, I s.fl, I s.co, I s.me, I s.de, eInts false s.re, I f.wh, eInts false f.ks, B f.ag, eInts false h.bag, eGps false h.me]
end Go.Proofs.YthblfhgofopcaaaGreat

namespace Go.Proofs.YthblfhgofopcaaaGreat
open Go.RowKit
set_option maxRecDepth 100000
set_option maxHeartbeats 2000000
def jobF (wh : Int) : Nat := if wh = 1 then 133 else if wh = 2 then 134 else if wh = 3 then 135 else if wh = 4 then 136 else if wh = 5 then 137 else 138
def mostI (s : TSet) (f : Fm) : Int := if f.wh = 1 then s.me else if f.wh = 5 then s.me - 3 else 0
set_option maxHeartbeats 4000000 in
theorem says_apart (s : TSet) (f : Fm) (h : Hd) (c : List (List Gp)) (hw : 1 ≤ f.wh ∧ f.wh ≤ 6) (hme : 1 ≤ s.me ∧ s.me ≤ 4) (hml : h.me.length ≤ 1000) (CJ : (h.me.length : Int) ≤ mostI s f → ASays Tryz.prog (jobF f.wh) [eJob s f h] (eLL false c)) : ASays Tryz.prog 88 [eSet s, eFm false f, eHd false h] (eLL false (if (h.me.length : Int) ≤ mostI s f then c else [])) := by
 refine asays_le ?_
 have hw' : f.wh = 1 ∨ f.wh = 2 ∨ f.wh = 3 ∨ f.wh = 4 ∨ f.wh = 5 ∨ f.wh = 6 := by omega
 by_cases hl : (h.me.length : Int) ≤ mostI s f
 ·rw [if_pos hl]
  replace CJ := CJ hl
  unfold mostI at hl
  unfold jobF at CJ
  rcases hw' with e | e | e | e | e | e
  all_goals
   simp only [eJob, e] at hl CJ
   simp (decide := true) only [↓reduceIte] at hl CJ
   refine acall_ofW (nx := 0) (ne := 0) tysGood (DD_ok tysGood mixed _) Tryz.func88 (by rfl) (by rfl) (by simp [Tryz.ntmps88]) (fun p hp => by cases hp) ?_; rw [Tryz.ntmps88]; let tb := ord_88; let lv := live_88
   (have fa := (And.intro @eJob.eq_1 e); (repeat' first | refine zS (CJ) ?_ | refine zQ ?_ | (refine zN ?_; intro K hC hK) | ((repeat clear hJo hJU hJC Jo JU JC); (repeat (fail_if_success (refine hK _ ?_)); clear hK hC K); refine hK _ ?_; clear hK hC K) | (refine zC ?_ ?_ <;> intro hb) | (refine zK ?_; intro Jo JU JC hJo hJU hJC)) <;> (try clear fa))
   all_goals first
    | (exfalso; omega)
    | (refine AW_ret ?_; refine zU ?_; refine ⟨_, .rfl', .inr rfl, ?_, [], 2, finOk_nil, ?_⟩ <;> (have fa := zT; first | exact zE0 | (refine zE ?_; try clear fa)); exact .rfl')
    | trace_state
 ·rw [if_neg hl]
  unfold mostI at hl
  clear CJ
  rcases hw' with e | e | e | e | e | e
  all_goals
   simp only [e] at hl
   simp (decide := true) only [↓reduceIte] at hl
   refine acall_ofW (nx := 0) (ne := 0) tysGood (DD_ok tysGood mixed _) Tryz.func88 (by rfl) (by rfl) (by simp [Tryz.ntmps88]) (fun p hp => by cases hp) ?_; rw [Tryz.ntmps88]; let tb := ord_88; let lv := live_88
   (have fa := e; (repeat' first | refine zQ ?_ | (refine zN ?_; intro K hC hK) | ((repeat clear hJo hJU hJC Jo JU JC); (repeat (fail_if_success (refine hK _ ?_)); clear hK hC K); refine hK _ ?_; clear hK hC K) | (refine zC ?_ ?_ <;> intro hb) | (refine zK ?_; intro Jo JU JC hJo hJU hJC)) <;> (try clear fa))
   all_goals first
    | (exfalso; omega)
    | (refine AW_ret ?_; refine zU ?_; refine ⟨_, .rfl', .inr rfl, ?_, [], 2, finOk_nil, ?_⟩ <;> (have fa := zT; first | exact zE0 | (refine zE ?_; try clear fa)); exact LeV.nil _ _)
    | trace_state
end Go.Proofs.YthblfhgofopcaaaGreat
