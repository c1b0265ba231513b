/-
  Parts of the proof: HandV, HandP.
-/
import Derived.Test.YthblfhgofopcaaaGreatHA14
import Derived.Test.YthblfhgofopcaaaGreatHA29
set_option linter.all false
namespace Go.Proofs.YthblfhgofopcaaaGreat
open Go.RowKit
set_option maxRecDepth 100000
set_option maxHeartbeats 2000000
theorem says_Kinds (s : TSet) : ASays Tryz.prog 101 [eSet s] (I (kindsI s)) := asays_gives ⟨_, _, Tryz.func101, rfl, rfl⟩ fun c vals hx => by
 obtain ⟨v, rfl, k⟩ := relL_1 hx
 exact Kinds_any v s c.w (rel_set k)
theorem says_rcounts (s : TSet) (zs : List Int) : ASays Tryz.prog 118 [eSet s, eInts false zs] (I (cntErr s zs)) := asays_gives ⟨_, _, Tryz.func118, rfl, rfl⟩ fun c vals hx => by
 obtain ⟨v, v', rfl, k1, k2⟩ := relL_2 hx
 exact rcounts_any v v' s zs c.w (rel_set k1) (rel_ints k2)
def handErr (s : TSet) (x : Hd) : Int :=
 if chkErr s ≠ 0 then chkErr s else if cntErr s x.bag ≠ 0 then cntErr s x.bag else if mldsErr s x.me ≠ 0 then mldsErr s x.me
 else if (totL x.bag x.me).any (fun z => decide (s.co < z)) = true then 8 else if x.bag.sum < 3 * (s.me - x.me.length) + 1 then 6 else if 3 * (s.me - x.me.length) + 2 < x.bag.sum then 5 else 0
theorem mldErr_zero {s : TSet} : ∀ {l : List Gp}, mldErr s l = 0 → ∀ g ∈ l, meldErr s g = 0
 | [], _, g, h => by cases h
 | x :: l, h0, g, h => by
  unfold mldErr at h0
  split at h0
  ·rename_i hx; exact absurd h0 hx
  ·rename_i hx
   rcases List.mem_cons.1 h with rfl | h
   ·omega
   ·exact mldErr_zero h0 g h
theorem meld_grp {s : TSet} {g : Gp} (h : meldErr s g = 0) : grpErr s g.wh g.kd = 0 := by
 unfold meldErr at h
 split at h
 ·cases h
 ·split at h
  ·rename_i h2; exact absurd h h2
  ·rename_i h2; omega
theorem cnt_rg {s : TSet} {zs : List Int} (h : cntErr s zs = 0) : (zs.length : Int) = kindsI s ∧ ∀ z ∈ zs, 0 ≤ z ∧ z ≤ s.co := by
 unfold cntErr at h
 split at h
 ·cases h
 ·split at h
  ·cases h
  ·rename_i h1 h2
   refine ⟨by omega, fun z hz => ?_⟩
   have := fun hf => h2 (List.any_eq_true.2 ⟨z, hz, hf⟩)
   unfold farC at this
   simp at this
   omega
theorem getD_of {zs : List Int} {P : Int → Prop} (h : ∀ z ∈ zs, P z) (h0 : P 0) (i : Nat) : P (zs.getD i 0) := by
 by_cases hi : i < zs.length
 ·simp [hi]; exact h _ (List.getElem_mem hi)
 ·simp [hi]; exact h0
theorem bagOk_of {s : TSet} {x : Hd} (h1 : chkErr s = 0) (h2 : cntErr s x.bag = 0) (h3 : mldsErr s x.me = 0) : BagOk s x.bag x.me := by
 have V := valid_of h1
 obtain ⟨k1, k2⟩ := cnt_rg h2
 have hco := V.co
 have hme := V.me
 unfold mldsErr at h3
 split at h3
 ·cases h3
 ·exact ⟨h1, k1, fun i => getD_of (P := fun z => 0 ≤ z ∧ z ≤ 1000) (fun z hz => by have := k2 z hz; omega) (by omega) i, fun g hg => meld_grp (mldErr_zero h3 g hg), by omega⟩
theorem any_false {α : Type} {l : List α} {p : α → Bool} (h : ∀ i, (hi : i < l.length) → p l[i] = false) : l.any p = false := by
 rw [List.any_eq_false]
 intro x hx
 obtain ⟨i, hi, rfl⟩ := List.mem_iff_getElem.1 hx
 rw [h i hi]; simp
theorem any_true {α : Type} {l : List α} {p : α → Bool} {i : Nat} (hi : i < l.length) (h : p l[i] = true) : l.any p = true := List.any_eq_true.2 ⟨_, List.getElem_mem hi, h⟩
theorem says_rCheckHand (s : TSet) (x : Hd) (h1 : x.me.length ≤ 1000000) : ASays Tryz.prog 53 [eSet s, eHd false x] (I (handErr s x)) := by
 by_cases c1 : chkErr s = 0
 ·have e1 : (chkErr s != 0) = false := by simp [c1]
  by_cases c2 : cntErr s x.bag = 0
  ·have e2 : (cntErr s x.bag != 0) = false := by simp [c2]
   have V := valid_of c1
   obtain ⟨k1, k2⟩ := cnt_rg c2
   have hK := kinds_le c1
   have hco := V.co
   have hme := V.me
   have hsum : sumW x.bag = x.bag.sum := sumW_eq (m := 4) (fun z hz => by have := k2 z hz; omega) (by omega) (by omega)
   have hsb := sum_bound (zs := x.bag) (m := 4) fun z hz => by have := k2 z hz; omega
   by_cases c3 : s.me < (x.me.length : Int)
   ·have he : handErr s x = 8 := by simp [handErr, c1, c2, mldsErr, c3]
    have e3 : decide ((x.me.length : Int) > s.me) = true := by simp; omega
    refine acall_of (nx := 0) (ne := 0) tysGood (DD_ok tysGood mixed _) Tryz.func53 (by rfl) (by rfl) (by simp [Tryz.ntmps53]) (fun p hp => by cases hp) ?_; rw [Tryz.ntmps53]; let tb := ord_53
    (have fa := zT; (repeat first | refine zG ?_ | ((with_reducible refine AW_seq ?_); intro K hK) | ((repeat (fail_if_success (refine hK _ ?_)); clear hK K); refine hK _ ?_; clear hK K)); (try clear fa))
    (have fa := zT; refine zW (says_rCheck s) ?_; (try clear fa))
    (have fa := e1; (repeat first | refine zG ?_ | ((with_reducible refine AW_seq ?_); intro K hK) | ((repeat (fail_if_success (refine hK _ ?_)); clear hK K); refine hK _ ?_; clear hK K)); (try clear fa))
    (have fa := zT; refine zW (says_rcounts s x.bag) ?_; (try clear fa))
    (have fa := (And.intro e2 e3); (repeat first | refine zG ?_ | ((with_reducible refine AW_seq ?_); intro K hK) | ((repeat (fail_if_success (refine hK _ ?_)); clear hK K); refine hK _ ?_; clear hK K)); (try clear fa))
    refine AW_ret ?_; refine ⟨.inr rfl, ?_, [], 2, finOk_nil, ?_⟩ <;> (have fa := zT; first | exact zE0 | (refine zE ?_; try clear fa))
    rw [he]
   ·have e3 : decide ((x.me.length : Int) > s.me) = false := by simp; omega
    have hm : mldsErr s x.me = mldErr s x.me := by simp [mldsErr, c3]
    refine acall_of (nx := 0) (ne := 0) tysGood (DD_ok tysGood mixed _) Tryz.func53 (by rfl) (by rfl) (by simp [Tryz.ntmps53]) (fun p hp => by cases hp) ?_; rw [Tryz.ntmps53]; let tb := ord_53
    (have fa := zT; (repeat first | refine zG ?_ | ((with_reducible refine AW_seq ?_); intro K hK) | ((repeat (fail_if_success (refine hK _ ?_)); clear hK K); refine hK _ ?_; clear hK K)); (try clear fa))
    (have fa := zT; refine zW (says_rCheck s) ?_; (try clear fa))
    (have fa := e1; (repeat first | refine zG ?_ | ((with_reducible refine AW_seq ?_); intro K hK) | ((repeat (fail_if_success (refine hK _ ?_)); clear hK K); refine hK _ ?_; clear hK K)); (try clear fa))
    (have fa := zT; refine zW (says_rcounts s x.bag) ?_; (try clear fa))
    (have fa := (And.intro e2 e3); (repeat first | refine zG ?_ | ((with_reducible refine AW_seq ?_); intro K hK) | ((repeat (fail_if_success (refine hK _ ?_)); clear hK K); refine hK _ ?_; clear hK K)); (try clear fa))
    refine AW_for2 x.me.length (fun k => mldErr s x.me = mldErr s (x.me.drop k)) (fun k => ⟨100, [(2, .ref 0 0 0 0), (3, .ref 1 0 0 0), (7, I k)], [(0, .arr 0 9 [eSet s]), (1, .arr 0 2 [eHd false x])]⟩) [(0, 0), (16, 1)] [(0, 0), (1, 1)] 0 [2, 3, 7] 100 (finOk0 (by decide) (by decide)) (finOk0 (by decide) (by decide)) rfl (by (have fa := zT; exact zV)) ?_
    intro k hk hR J hJ
    (have fa := zT; (repeat first | refine zG ?_ | ((with_reducible refine AW_seq ?_); intro K hK) | ((repeat (fail_if_success (refine hK _ ?_)); clear hK K); refine hK _ ?_; clear hK K)); (try clear fa))
    refine AW_cond rfl ⟨fun h => ?_, fun h => ?_⟩
    ·have hlt : k < x.me.length := by simpa using h
     clear h
     have hd := mldErr_drop (s := s) hlt
     obtain ⟨g, hg⟩ : ∃ g, g = x.me[k] := ⟨_, rfl⟩
     rw [← hg] at hd
     (have fa := (And.intro hlt (Eq.symm hg)); (repeat first | refine zG ?_ | ((with_reducible refine AW_seq ?_); intro K hK) | ((repeat (fail_if_success (refine hK _ ?_)); clear hK K); refine hK _ ?_; clear hK K)); (try clear fa))
     (have fa := zT; refine zD (says_rcheckMeld s g) ?_; (try clear fa))
     by_cases c4 : meldErr s g = 0
     ·have e4 : (meldErr s g != 0) = false := by simp [c4]
      rw [if_neg (by omega)] at hd
      (have fa := (And.intro e4 (vwrap_succ (show k < 9223372036854775807 by omega))); (repeat first | refine zG ?_ | ((with_reducible refine AW_seq ?_); intro K hK) | ((repeat (fail_if_success (refine hK _ ?_)); clear hK K); refine hK _ ?_; clear hK K)); (try clear fa))
      refine hJ _ hlt (hR.trans hd) (by (have fa := zT; exact zV))
     ·have e4 : (meldErr s g != 0) = true := by simp [c4]
      rw [if_pos c4] at hd
      (have fa := e4; (repeat first | refine zG ?_ | ((with_reducible refine AW_seq ?_); intro K hK) | ((repeat (fail_if_success (refine hK _ ?_)); clear hK K); refine hK _ ?_; clear hK K)); (try clear fa))
      refine AW_ret ?_; refine ⟨.inr rfl, ?_, [], 2, finOk_nil, ?_⟩ <;> (have fa := zT; first | exact zE0 | (refine zE ?_; try clear fa))
      have he : handErr s x = meldErr s g := by simp [handErr, c1, c2, hm, hR, hd, c4]
      rw [he]
    ·have hk' : k = x.me.length := by have : ¬ k < x.me.length := by simpa using h
                                      omega
     subst hk'
     clear h
     rw [List.drop_length] at hR
     have hm0 : mldsErr s x.me = 0 := by rw [hm, hR]; rfl
     have b := bagOk_of c1 c2 hm0
     have hTl := totL_len x.me x.bag
     obtain ⟨T, hT⟩ : ∃ T, T = totL x.bag x.me := ⟨_, rfl⟩
     have CT := own_rtotal s x b
     rw [← hT] at CT hTl
     have hH : handErr s x = if T.any (fun z => decide (s.co < z)) = true then 8 else if x.bag.sum < 3 * (s.me - x.me.length) + 1 then 6 else if 3 * (s.me - x.me.length) + 2 < x.bag.sum then 5 else 0 := by
      simp [handErr, c1, c2, hm0, hT]
     (have fa := zT; (repeat first | refine zG ?_ | ((with_reducible refine AW_seq ?_); intro K hK) | ((repeat (fail_if_success (refine hK _ ?_)); clear hK K); refine hK _ ?_; clear hK K)); (try clear fa))
     (have fa := zT; refine zWo (CT) ?_; (try clear fa))
     (have fa := zT; (repeat first | refine zG ?_ | ((with_reducible refine AW_seq ?_); intro K hK) | ((repeat (fail_if_success (refine hK _ ?_)); clear hK K); refine hK _ ?_; clear hK K)); (try clear fa))
     have hT2 : T.take x.bag.length = T := by rw [← hTl, List.take_length]
     have hT3 : x.bag.length ≤ T.length := by omega
     refine AW_for2 T.length (fun k => ∀ i, (hi : i < T.length) → i < k → decide (s.co < T[i]) = false) (fun k => ⟨300, [(2, .ref 0 0 0 0), (3, .ref 1 0 0 0), (9, eInts true T), (10, I k)], [(0, .arr 0 9 [eSet s]), (1, .arr 0 2 [eHd false x])]⟩) [(0, 0), (1, 1)] [(0, 0), (1, 1)] 1 [2, 3, 9, 10] 300 (finOk0 (by decide) (by decide)) (finOk0 (by decide) (by decide)) (fun i _ h => absurd h (Nat.not_lt_zero i)) (by (have fa := (And.intro hT2 hT3); exact zV)) ?_
     intro j hj hR2 J2 hJ2
     (have fa := zT; (repeat first | refine zG ?_ | ((with_reducible refine AW_seq ?_); intro K hK) | ((repeat (fail_if_success (refine hK _ ?_)); clear hK K); refine hK _ ?_; clear hK K)); (try clear fa))
     refine AW_cond rfl ⟨fun h => ?_, fun h => ?_⟩
     ·have hlj : j < T.length := by simpa using h
      clear h
      by_cases c5 : s.co < T[j]
      ·have e5 : decide (T[j] > s.co) = true := by simp; omega
       have ha : T.any (fun z => decide (s.co < z)) = true := any_true hlj (by simpa using c5)
       (have fa := (And.intro hlj e5); (repeat first | refine zG ?_ | ((with_reducible refine AW_seq ?_); intro K hK) | ((repeat (fail_if_success (refine hK _ ?_)); clear hK K); refine hK _ ?_; clear hK K)); (try clear fa))
       refine AW_ret ?_; refine ⟨.inr rfl, ?_, [], 2, finOk_nil, ?_⟩ <;> (have fa := zT; first | exact zE0 | (refine zE ?_; try clear fa))
       rw [hH, if_pos ha]
      ·have e5 : decide (T[j] > s.co) = false := by simp; omega
       (have fa := (And.intro hlj (And.intro e5 (vwrap_succ (show j < 9223372036854775807 by omega)))); (repeat first | refine zG ?_ | ((with_reducible refine AW_seq ?_); intro K hK) | ((repeat (fail_if_success (refine hK _ ?_)); clear hK K); refine hK _ ?_; clear hK K)); (try clear fa))
       refine hJ2 _ hlj (fun i hi h3 => ?_) (by (have fa := zT; exact zV))
       by_cases hij : i = j
       ·subst hij; simp; omega
       ·exact hR2 i hi (by omega)
     ·have hj' : j = T.length := by have : ¬ j < T.length := by simpa using h
                                    omega
      subst hj'
      clear h
      have ha : T.any (fun z => decide (s.co < z)) = false := any_false fun i hi => hR2 i hi hi
      rw [if_neg (by simp [ha])] at hH
      have w1 : IntKind.i64.wrap (s.me - (x.me.length : Int)) = s.me - x.me.length := vwrap_in (by omega) (by omega)
      have w2 : IntKind.i64.wrap (3 * (s.me - (x.me.length : Int))) = 3 * (s.me - x.me.length) := vwrap_in (by omega) (by omega)
      have w3 : IntKind.i64.wrap (3 * (s.me - (x.me.length : Int)) + 1) = 3 * (s.me - x.me.length) + 1 := vwrap_in (by omega) (by omega)
      have w4 : IntKind.i64.wrap (3 * (s.me - (x.me.length : Int)) + 1 + 1) = 3 * (s.me - x.me.length) + 2 := by rw [vwrap_in (by omega) (by omega)]; omega
      (have fa := (And.intro w1 (And.intro w2 w3)); (repeat first | refine zG ?_ | ((with_reducible refine AW_seq ?_); intro K hK) | ((repeat (fail_if_success (refine hK _ ?_)); clear hK K); refine hK _ ?_; clear hK K)); (try clear fa))
      (have fa := zT; refine zW (says_rsum x.bag (by omega)) ?_; (try clear fa))
      by_cases c6 : x.bag.sum < 3 * (s.me - x.me.length) + 1
      ·have e6 : decide (x.bag.sum < 3 * (s.me - (x.me.length : Int)) + 1) = true := by simp; omega
       (have fa := (And.intro hsum e6); (repeat first | refine zG ?_ | ((with_reducible refine AW_seq ?_); intro K hK) | ((repeat (fail_if_success (refine hK _ ?_)); clear hK K); refine hK _ ?_; clear hK K)); (try clear fa))
       refine AW_ret ?_; refine ⟨.inr rfl, ?_, [], 2, finOk_nil, ?_⟩ <;> (have fa := zT; first | exact zE0 | (refine zE ?_; try clear fa))
       rw [hH, if_pos c6]
      ·have e6 : decide (x.bag.sum < 3 * (s.me - (x.me.length : Int)) + 1) = false := by simp; omega
       (have fa := (And.intro hsum e6); (repeat first | refine zG ?_ | ((with_reducible refine AW_seq ?_); intro K hK) | ((repeat (fail_if_success (refine hK _ ?_)); clear hK K); refine hK _ ?_; clear hK K)); (try clear fa))
       (have fa := zT; refine zW (says_rsum x.bag (by omega)) ?_; (try clear fa))
       by_cases c7 : 3 * (s.me - x.me.length) + 2 < x.bag.sum
       ·have e7 : decide (x.bag.sum > 3 * (s.me - (x.me.length : Int)) + 2) = true := by simp; omega
        (have fa := (And.intro hsum (And.intro w4 e7)); (repeat first | refine zG ?_ | ((with_reducible refine AW_seq ?_); intro K hK) | ((repeat (fail_if_success (refine hK _ ?_)); clear hK K); refine hK _ ?_; clear hK K)); (try clear fa))
        refine AW_ret ?_; refine ⟨.inr rfl, ?_, [], 2, finOk_nil, ?_⟩ <;> (have fa := zT; first | exact zE0 | (refine zE ?_; try clear fa))
        rw [hH, if_neg c6, if_pos c7]
       ·have e7 : decide (x.bag.sum > 3 * (s.me - (x.me.length : Int)) + 2) = false := by simp; omega
        (have fa := (And.intro hsum (And.intro w4 e7)); (repeat first | refine zG ?_ | ((with_reducible refine AW_seq ?_); intro K hK) | ((repeat (fail_if_success (refine hK _ ?_)); clear hK K); refine hK _ ?_; clear hK K)); (try clear fa))
        refine AW_ret ?_; refine ⟨.inr rfl, ?_, [], 2, finOk_nil, ?_⟩ <;> (have fa := zT; first | exact zE0 | (refine zE ?_; try clear fa))
        rw [hH, if_neg c6, if_neg c7]
  ·have e2 : (cntErr s x.bag != 0) = true := by simp [c2]
   refine acall_of (nx := 0) (ne := 0) tysGood (DD_ok tysGood mixed _) Tryz.func53 (by rfl) (by rfl) (by simp [Tryz.ntmps53]) (fun p hp => by cases hp) ?_; rw [Tryz.ntmps53]; let tb := ord_53
   (have fa := zT; (repeat first | refine zG ?_ | ((with_reducible refine AW_seq ?_); intro K hK) | ((repeat (fail_if_success (refine hK _ ?_)); clear hK K); refine hK _ ?_; clear hK K)); (try clear fa))
   (have fa := zT; refine zW (says_rCheck s) ?_; (try clear fa))
   (have fa := e1; (repeat first | refine zG ?_ | ((with_reducible refine AW_seq ?_); intro K hK) | ((repeat (fail_if_success (refine hK _ ?_)); clear hK K); refine hK _ ?_; clear hK K)); (try clear fa))
   (have fa := zT; refine zW (says_rcounts s x.bag) ?_; (try clear fa))
   (have fa := e2; (repeat first | refine zG ?_ | ((with_reducible refine AW_seq ?_); intro K hK) | ((repeat (fail_if_success (refine hK _ ?_)); clear hK K); refine hK _ ?_; clear hK K)); (try clear fa))
   refine AW_ret ?_; refine ⟨.inr rfl, ?_, [], 2, finOk_nil, ?_⟩ <;> (have fa := zT; first | exact zE0 | (refine zE ?_; try clear fa))
   simp [handErr, c1, c2]
 ·have e1 : (chkErr s != 0) = true := by simp [c1]
  refine acall_of (nx := 0) (ne := 0) tysGood (DD_ok tysGood mixed _) Tryz.func53 (by rfl) (by rfl) (by simp [Tryz.ntmps53]) (fun p hp => by cases hp) ?_; rw [Tryz.ntmps53]; let tb := ord_53
  (have fa := zT; (repeat first | refine zG ?_ | ((with_reducible refine AW_seq ?_); intro K hK) | ((repeat (fail_if_success (refine hK _ ?_)); clear hK K); refine hK _ ?_; clear hK K)); (try clear fa))
  (have fa := zT; refine zW (says_rCheck s) ?_; (try clear fa))
  (have fa := e1; (repeat first | refine zG ?_ | ((with_reducible refine AW_seq ?_); intro K hK) | ((repeat (fail_if_success (refine hK _ ?_)); clear hK K); refine hK _ ?_; clear hK K)); (try clear fa))
  refine AW_ret ?_; refine ⟨.inr rfl, ?_, [], 2, finOk_nil, ?_⟩ <;> (have fa := zT; first | exact zE0 | (refine zE ?_; try clear fa))
  simp [handErr, c1]
end Go.Proofs.YthblfhgofopcaaaGreat

namespace Go.Proofs.YthblfhgofopcaaaGreat
open Go.RowKit
set_option maxRecDepth 100000
set_option maxHeartbeats 2000000
theorem sum_take_succ (l : List Int) {k : Nat} (h : k < l.length) : (l.take (k + 1)).sum = (l.take k).sum + l[k] := by
 rw [List.take_succ_eq_append_getElem h, List.sum_append]; simp
theorem says_CheckHand (s : TSet) (x : Hd) (h1 : x.me.length ≤ 1000000) (h2 : x.bag.length ≤ 1000000) : ASays Tryz.prog 41 [eSet s, eHd false x] (I (handErr s x)) := by
 by_cases c1 : chkErr s = 0
 ·have e1 : (chkErr s != 0) = false := by simp [c1]
  have V := valid_of c1
  have hK := kinds_le c1
  have hco := V.co
  have hme := V.me
  by_cases cl : (x.bag.length : Int) = kindsI s
  ·have el : ((x.bag.length : Int) != kindsI s) = false := by simp [cl]
   refine acall_of (nx := 0) (ne := 0) tysGood (DD_ok tysGood mixed _) Tryz.func41 (by rfl) (by rfl) (by simp [Tryz.ntmps41]) (fun p hp => by cases hp) ?_; rw [Tryz.ntmps41]; let tb := ord_41
   (have fa := zT; (repeat first | refine zG ?_ | ((with_reducible refine AW_seq ?_); intro K hK) | ((repeat (fail_if_success (refine hK _ ?_)); clear hK K); refine hK _ ?_; clear hK K)); (try clear fa))
   (have fa := zT; refine zW (says_Check s) ?_; (try clear fa))
   (have fa := e1; (repeat first | refine zG ?_ | ((with_reducible refine AW_seq ?_); intro K hK) | ((repeat (fail_if_success (refine hK _ ?_)); clear hK K); refine hK _ ?_; clear hK K)); (try clear fa))
   (have fa := zT; refine zD (says_Kinds s) ?_; (try clear fa))
   (have fa := el; (repeat first | refine zG ?_ | ((with_reducible refine AW_seq ?_); intro K hK) | ((repeat (fail_if_success (refine hK _ ?_)); clear hK K); refine hK _ ?_; clear hK K)); (try clear fa))
   refine AW_for2 x.bag.length (fun k => ∀ i, (hi : i < x.bag.length) → i < k → farC s.co x.bag[i] = false) (fun k => ⟨300, [(2, .ref 0 0 0 0), (3, .ref 1 0 0 0), (25, eInts false x.bag), (26, I x.bag.length), (27, I k)], [(0, .arr 0 9 [eSet s]), (1, .arr 0 2 [eHd false x])]⟩) [(0, 0), (16, 1)] [(0, 0), (1, 1)] 0 [2, 3, 25, 26, 27] 300 (finOk0 (by decide) (by decide)) (finOk0 (by decide) (by decide)) (fun i _ h => absurd h (Nat.not_lt_zero i)) (by (have fa := zT; exact zV)) ?_
   intro k hk hR J hJ
   (have fa := zT; (repeat first | refine zG ?_ | ((with_reducible refine AW_seq ?_); intro K hK) | ((repeat (fail_if_success (refine hK _ ?_)); clear hK K); refine hK _ ?_; clear hK K)); (try clear fa))
   refine AW_cond rfl ⟨fun h => ?_, fun h => ?_⟩
   ·have hlt : k < x.bag.length := by simpa using h
    clear h
    obtain ⟨z, hz⟩ : ∃ z, z = x.bag[k] := ⟨_, rfl⟩
    by_cases z0 : z < 0
    ·have e2 : decide (z < 0) = true := by simp [z0]
     have hc : cntErr s x.bag = 2 := by unfold cntErr; rw [if_neg (by omega), if_pos (any_true hlt (by rw [← hz]; simp [farC, z0]))]
     (have fa := (And.intro hlt (And.intro (Eq.symm hz) e2)); (repeat first | refine zG ?_ | ((with_reducible refine AW_seq ?_); intro K hK) | ((repeat (fail_if_success (refine hK _ ?_)); clear hK K); refine hK _ ?_; clear hK K)); (try clear fa))
     refine AW_ret ?_; refine ⟨.inr rfl, ?_, [], 2, finOk_nil, ?_⟩ <;> (have fa := zT; first | exact zE0 | (refine zE ?_; try clear fa))
     simp [handErr, c1, hc]
    ·have e2 : decide (z < 0) = false := by simp [z0]
     by_cases z1 : s.co < z
     ·have e3 : decide (z > s.co) = true := by simp; omega
      have hc : cntErr s x.bag = 2 := by unfold cntErr; rw [if_neg (by omega), if_pos (any_true hlt (by rw [← hz]; simp [farC, z1]))]
      (have fa := (And.intro hlt (And.intro (Eq.symm hz) (And.intro e2 e3))); (repeat first | refine zG ?_ | ((with_reducible refine AW_seq ?_); intro K hK) | ((repeat (fail_if_success (refine hK _ ?_)); clear hK K); refine hK _ ?_; clear hK K)); (try clear fa))
      refine AW_ret ?_; refine ⟨.inr rfl, ?_, [], 2, finOk_nil, ?_⟩ <;> (have fa := zT; first | exact zE0 | (refine zE ?_; try clear fa))
      simp [handErr, c1, hc]
     ·have e3 : decide (z > s.co) = false := by simp; omega
      (have fa := (And.intro hlt (And.intro (Eq.symm hz) (And.intro e2 (And.intro e3 (vwrap_succ (show k < 9223372036854775807 by omega)))))); (repeat first | refine zG ?_ | ((with_reducible refine AW_seq ?_); intro K hK) | ((repeat (fail_if_success (refine hK _ ?_)); clear hK K); refine hK _ ?_; clear hK K)); (try clear fa))
      refine hJ _ hlt (fun i hi h3 => ?_) (by (have fa := zT; exact zV))
      by_cases hij : i = k
      ·subst hij; rw [← hz]; simp [farC]; omega
      ·exact hR i hi (by omega)
   ·have hk' : k = x.bag.length := by have : ¬ k < x.bag.length := by simpa using h
                                      omega
    subst hk'
    clear h
    have c2 : cntErr s x.bag = 0 := by unfold cntErr; rw [if_neg (by omega), if_neg (by rw [any_false fun i hi => hR i hi hi]; simp)]
    obtain ⟨k1, k2⟩ := cnt_rg c2
    have hsb : ∀ n, 0 ≤ (x.bag.take n).sum ∧ (x.bag.take n).sum ≤ 240 := fun n => by
     have := sum_bound (zs := x.bag.take n) (m := 4) fun z hz => by have := k2 z (List.mem_of_mem_take hz); omega
     simp at this; omega
    (have fa := zT; (repeat first | refine zG ?_ | ((with_reducible refine AW_seq ?_); intro K hK) | ((repeat (fail_if_success (refine hK _ ?_)); clear hK K); refine hK _ ?_; clear hK K)); (try clear fa))
    (have fa := zT; refine zW (says_checkMelds s x.me h1) ?_; (try clear fa))
    by_cases c3 : mldsErr s x.me = 0
    ·have e3 : (mldsErr s x.me != 0) = false := by simp [c3]
     have hml : (x.me.length : Int) ≤ s.me := by unfold mldsErr at c3; split at c3; cases c3; omega
     have b := bagOk_of c1 c2 c3
     have hTl := totL_len x.me x.bag
     obtain ⟨T, hT⟩ : ∃ T, T = totL x.bag x.me := ⟨_, rfl⟩
     have CT := own_total s x b
     rw [← hT] at CT hTl
     have hH : handErr s x = if T.any (fun z => decide (s.co < z)) = true then 8 else if x.bag.sum < 3 * (s.me - x.me.length) + 1 then 6 else if 3 * (s.me - x.me.length) + 2 < x.bag.sum then 5 else 0 := by
      simp [handErr, c1, c2, c3, hT]
     have hT2 : T.take x.bag.length = T := by rw [← hTl, List.take_length]
     have hT3 : x.bag.length ≤ T.length := by omega
     (have fa := e3; (repeat first | refine zG ?_ | ((with_reducible refine AW_seq ?_); intro K hK) | ((repeat (fail_if_success (refine hK _ ?_)); clear hK K); refine hK _ ?_; clear hK K)); (try clear fa))
     (have fa := zT; refine zWo (CT) ?_; (try clear fa))
     (have fa := zT; (repeat first | refine zG ?_ | ((with_reducible refine AW_seq ?_); intro K hK) | ((repeat (fail_if_success (refine hK _ ?_)); clear hK K); refine hK _ ?_; clear hK K)); (try clear fa))
     refine AW_for2 x.bag.length (fun k => ∀ i, (hi : i < T.length) → i < k → decide (s.co < T[i]) = false) (fun k => ⟨600, [(2, .ref 0 0 0 0), (3, .ref 1 0 0 0), (9, I (x.bag.take k).sum), (49, eInts true T), (50, I x.bag.length), (51, I k)], [(0, .arr 0 9 [eSet s]), (1, .arr 0 2 [eHd false x])]⟩) [(0, 0), (1, 1)] [(0, 0), (1, 1)] 1 [2, 3, 9, 49, 50, 51] 600 (finOk0 (by decide) (by decide)) (finOk0 (by decide) (by decide)) (fun i _ h => absurd h (Nat.not_lt_zero i)) (by (have fa := (And.intro hT2 hT3); exact zV)) ?_
     intro j hj hR2 J2 hJ2
     (have fa := zT; (repeat first | refine zG ?_ | ((with_reducible refine AW_seq ?_); intro K hK) | ((repeat (fail_if_success (refine hK _ ?_)); clear hK K); refine hK _ ?_; clear hK K)); (try clear fa))
     refine AW_cond rfl ⟨fun h => ?_, fun h => ?_⟩
     ·have hlj : j < x.bag.length := by simpa using h
      have hlj' : j < T.length := by omega
      clear h
      by_cases c5 : s.co < T[j]
      ·have e5 : decide (T[j] > s.co) = true := by simp; omega
       have ha : T.any (fun z => decide (s.co < z)) = true := any_true hlj' (by simpa using c5)
       (have fa := (And.intro hlj (And.intro hlj' e5)); (repeat first | refine zG ?_ | ((with_reducible refine AW_seq ?_); intro K hK) | ((repeat (fail_if_success (refine hK _ ?_)); clear hK K); refine hK _ ?_; clear hK K)); (try clear fa))
       refine AW_ret ?_; refine ⟨.inr rfl, ?_, [], 2, finOk_nil, ?_⟩ <;> (have fa := zT; first | exact zE0 | (refine zE ?_; try clear fa))
       rw [hH, if_pos ha]
      ·have e5 : decide (T[j] > s.co) = false := by simp; omega
       have hs := sum_take_succ x.bag hlj
       have hw : IntKind.i64.wrap ((x.bag.take j).sum + x.bag[j]) = (x.bag.take (j + 1)).sum := by rw [← hs]; have := hsb (j + 1); exact vwrap_in (by omega) (by omega)
       (have fa := (And.intro hlj (And.intro hlj' (And.intro e5 (And.intro hw (vwrap_succ (show j < 9223372036854775807 by omega)))))); (repeat first | refine zG ?_ | ((with_reducible refine AW_seq ?_); intro K hK) | ((repeat (fail_if_success (refine hK _ ?_)); clear hK K); refine hK _ ?_; clear hK K)); (try clear fa))
       refine hJ2 _ hlj (fun i hi h3 => ?_) (by (have fa := zT; exact zV))
       by_cases hij : i = j
       ·subst hij; simp; omega
       ·exact hR2 i hi (by omega)
     ·have hj' : j = x.bag.length := by have : ¬ j < x.bag.length := by simpa using h
                                        omega
      subst hj'
      clear h
      have ha : T.any (fun z => decide (s.co < z)) = false := any_false fun i hi => hR2 i hi (by omega)
      rw [if_neg (by simp [ha])] at hH
      have w1 : IntKind.i64.wrap (s.me - (x.me.length : Int)) = s.me - x.me.length := vwrap_in (by omega) (by omega)
      have w2 : IntKind.i64.wrap (3 * (s.me - (x.me.length : Int))) = 3 * (s.me - x.me.length) := vwrap_in (by omega) (by omega)
      have w3 : IntKind.i64.wrap (3 * (s.me - (x.me.length : Int)) + 1) = 3 * (s.me - x.me.length) + 1 := vwrap_in (by omega) (by omega)
      have w4 : IntKind.i64.wrap (3 * (s.me - (x.me.length : Int)) + 1 + 1) = 3 * (s.me - x.me.length) + 2 := by rw [vwrap_in (by omega) (by omega)]; omega
      have ht : x.bag.take x.bag.length = x.bag := List.take_length
      by_cases c6 : x.bag.sum < 3 * (s.me - x.me.length) + 1
      ·have e6 : decide (x.bag.sum < 3 * (s.me - (x.me.length : Int)) + 1) = true := by simp; omega
       (have fa := (And.intro w1 (And.intro w2 (And.intro w3 e6))); (repeat first | refine zG ?_ | ((with_reducible refine AW_seq ?_); intro K hK) | ((repeat (fail_if_success (refine hK _ ?_)); clear hK K); refine hK _ ?_; clear hK K)); (try clear fa))
       refine AW_ret ?_; refine ⟨.inr rfl, ?_, [], 2, finOk_nil, ?_⟩ <;> (have fa := zT; first | exact zE0 | (refine zE ?_; try clear fa))
       rw [hH, if_pos c6]
      ·have e6 : decide (x.bag.sum < 3 * (s.me - (x.me.length : Int)) + 1) = false := by simp; omega
       by_cases c7 : 3 * (s.me - x.me.length) + 2 < x.bag.sum
       ·have e7 : decide (x.bag.sum > 3 * (s.me - (x.me.length : Int)) + 2) = true := by simp; omega
        (have fa := (And.intro w1 (And.intro w2 (And.intro w3 (And.intro w4 (And.intro e6 e7))))); (repeat first | refine zG ?_ | ((with_reducible refine AW_seq ?_); intro K hK) | ((repeat (fail_if_success (refine hK _ ?_)); clear hK K); refine hK _ ?_; clear hK K)); (try clear fa))
        refine AW_ret ?_; refine ⟨.inr rfl, ?_, [], 2, finOk_nil, ?_⟩ <;> (have fa := zT; first | exact zE0 | (refine zE ?_; try clear fa))
        rw [hH, if_neg c6, if_pos c7]
       ·have e7 : decide (x.bag.sum > 3 * (s.me - (x.me.length : Int)) + 2) = false := by simp; omega
        (have fa := (And.intro w1 (And.intro w2 (And.intro w3 (And.intro w4 (And.intro e6 e7))))); (repeat first | refine zG ?_ | ((with_reducible refine AW_seq ?_); intro K hK) | ((repeat (fail_if_success (refine hK _ ?_)); clear hK K); refine hK _ ?_; clear hK K)); (try clear fa))
        refine AW_ret ?_; refine ⟨.inr rfl, ?_, [], 2, finOk_nil, ?_⟩ <;> (have fa := zT; first | exact zE0 | (refine zE ?_; try clear fa))
        rw [hH, if_neg c6, if_neg c7]
    ·have e3 : (mldsErr s x.me != 0) = true := by simp [c3]
     (have fa := e3; (repeat first | refine zG ?_ | ((with_reducible refine AW_seq ?_); intro K hK) | ((repeat (fail_if_success (refine hK _ ?_)); clear hK K); refine hK _ ?_; clear hK K)); (try clear fa))
     refine AW_ret ?_; refine ⟨.inr rfl, ?_, [], 2, finOk_nil, ?_⟩ <;> (have fa := zT; first | exact zE0 | (refine zE ?_; try clear fa))
     simp [handErr, c1, c2, c3]
  ·have el : ((x.bag.length : Int) != kindsI s) = true := by simp [cl]
   have hc : cntErr s x.bag = 3 := by unfold cntErr; rw [if_pos cl]
   refine acall_of (nx := 0) (ne := 0) tysGood (DD_ok tysGood mixed _) Tryz.func41 (by rfl) (by rfl) (by simp [Tryz.ntmps41]) (fun p hp => by cases hp) ?_; rw [Tryz.ntmps41]; let tb := ord_41
   (have fa := zT; (repeat first | refine zG ?_ | ((with_reducible refine AW_seq ?_); intro K hK) | ((repeat (fail_if_success (refine hK _ ?_)); clear hK K); refine hK _ ?_; clear hK K)); (try clear fa))
   (have fa := zT; refine zW (says_Check s) ?_; (try clear fa))
   (have fa := e1; (repeat first | refine zG ?_ | ((with_reducible refine AW_seq ?_); intro K hK) | ((repeat (fail_if_success (refine hK _ ?_)); clear hK K); refine hK _ ?_; clear hK K)); (try clear fa))
   (have fa := zT; refine zD (says_Kinds s) ?_; (try clear fa))
   (have fa := el; (repeat first | refine zG ?_ | ((with_reducible refine AW_seq ?_); intro K hK) | ((repeat (fail_if_success (refine hK _ ?_)); clear hK K); refine hK _ ?_; clear hK K)); (try clear fa))
   refine AW_ret ?_; refine ⟨.inr rfl, ?_, [], 2, finOk_nil, ?_⟩ <;> (have fa := zT; first | exact zE0 | (refine zE ?_; try clear fa))
   simp [handErr, c1, hc]
 ·have e1 : (chkErr s != 0) = true := by simp [c1]
  refine acall_of (nx := 0) (ne := 0) tysGood (DD_ok tysGood mixed _) Tryz.func41 (by rfl) (by rfl) (by simp [Tryz.ntmps41]) (fun p hp => by cases hp) ?_; rw [Tryz.ntmps41]; let tb := ord_41
  (have fa := zT; (repeat first | refine zG ?_ | ((with_reducible refine AW_seq ?_); intro K hK) | ((repeat (fail_if_success (refine hK _ ?_)); clear hK K); refine hK _ ?_; clear hK K)); (try clear fa))
  (have fa := zT; refine zW (says_Check s) ?_; (try clear fa))
  (have fa := e1; (repeat first | refine zG ?_ | ((with_reducible refine AW_seq ?_); intro K hK) | ((repeat (fail_if_success (refine hK _ ?_)); clear hK K); refine hK _ ?_; clear hK K)); (try clear fa))
  refine AW_ret ?_; refine ⟨.inr rfl, ?_, [], 2, finOk_nil, ?_⟩ <;> (have fa := zT; first | exact zE0 | (refine zE ?_; try clear fa))
  simp [handErr, c1]
end Go.Proofs.YthblfhgofopcaaaGreat
