/-
  Parts of the proof: FullV, Live.
-/
import Derived.Test.YthblfhgofopcaaaGreatHA14
import Derived.Test.YthblfhgofopcaaaGreatHA30
import Derived.Test.YthblfhgofopcaaaGreatHA15
set_option linter.all false
namespace Go.Proofs.YthblfhgofopcaaaGreat
open Go.RowKit
set_option maxRecDepth 100000
set_option maxHeartbeats 2000000
structure HandOk (s : TSet) (x : Hd) : Prop where
 va : chkErr s = 0
 cn : cntErr s x.bag = 0
 ml : mldsErr s x.me = 0
 ln : (x.bag.length : Int) = kindsI s
 rg : ∀ z ∈ x.bag, 0 ≤ z ∧ z ≤ s.co
 mm : (x.me.length : Int) ≤ s.me
 tot : ∀ z ∈ totL x.bag x.me, z ≤ s.co
 lo : 3 * (s.me - x.me.length) + 1 ≤ x.bag.sum
 hi : x.bag.sum ≤ 3 * (s.me - x.me.length) + 2
theorem hand_ok {s : TSet} {x : Hd} (h : handErr s x = 0) : HandOk s x := by
 unfold handErr at h
 by_cases c1 : chkErr s = 0
 ·rw [if_neg (by omega)] at h
  by_cases c2 : cntErr s x.bag = 0
  ·rw [if_neg (by omega)] at h
   by_cases c3 : mldsErr s x.me = 0
   ·rw [if_neg (by omega)] at h
    split at h
    ·cases h
    ·rename_i h4
     split at h
     ·cases h
     ·split at h
      ·cases h
      ·obtain ⟨k1, k2⟩ := cnt_rg c2
       refine ⟨c1, c2, c3, k1, k2, by have := c3; unfold mldsErr at this; split at this; cases this; omega, fun z hz => ?_, by omega, by omega⟩
       have := fun hf => h4 (List.any_eq_true.2 ⟨z, hz, hf⟩)
       simp at this; omega
   ·rw [if_pos c3] at h; exact absurd h c3
  ·rw [if_pos c2] at h; exact absurd h c2
 ·rw [if_pos c1] at h; exact absurd h c1
theorem HandOk.bag {s : TSet} {x : Hd} (h : HandOk s x) : BagOk s x.bag x.me := bagOk_of h.va h.cn h.ml
def fullB (s : TSet) (x : Hd) : Bool := decide (handErr s x = 0) && decide (x.bag.sum = 3 * (s.me - x.me.length) + 2)
theorem HandOk.nums {s : TSet} {x : Hd} (h : HandOk s x) : sumW x.bag = x.bag.sum ∧ IntKind.i64.wrap (s.me - (x.me.length : Int)) = s.me - x.me.length ∧ IntKind.i64.wrap (3 * (s.me - (x.me.length : Int))) = 3 * (s.me - x.me.length) ∧ IntKind.i64.wrap (3 * (s.me - (x.me.length : Int)) + 2) = 3 * (s.me - x.me.length) + 2 := by
 have V := valid_of h.va
 have := V.co; have := V.me; have := kinds_le h.va; have := h.ln; have := h.mm
 refine ⟨sumW_eq (m := 4) (fun z hz => by have := h.rg z hz; omega) (by omega) (by omega), vwrap_in (by omega) (by omega), vwrap_in (by omega) (by omega), vwrap_in (by omega) (by omega)⟩
theorem says_Full (s : TSet) (x : Hd) (h1 : x.me.length ≤ 1000000) (h2 : x.bag.length ≤ 1000000) : ASays Tryz.prog 40 [eSet s, eHd false x] (B (fullB s x)) := by
 by_cases c : handErr s x = 0
 ·have e1 : (handErr s x == 0) = true := by simp [c]
  obtain ⟨w1, w2, w3, w4⟩ := (hand_ok c).nums
  refine acall_of (nx := 0) (ne := 0) tysGood (DD_ok tysGood mixed _) Tryz.func40 (by rfl) (by rfl) (by simp [Tryz.ntmps40]) (fun p hp => by cases hp) ?_; rw [Tryz.ntmps40]; let tb := ord_40
  (have fa := zT; (repeat first | refine zG ?_ | ((with_reducible refine AW_seq ?_); intro K hK) | ((repeat (fail_if_success (refine hK _ ?_)); clear hK K); refine hK _ ?_; clear hK K)); (try clear fa))
  (have fa := zT; refine zD (says_CheckHand s x h1 h2) ?_; (try clear fa))
  (have fa := e1; (repeat first | refine zG ?_ | ((with_reducible refine AW_seq ?_); intro K hK) | ((repeat (fail_if_success (refine hK _ ?_)); clear hK K); refine hK _ ?_; clear hK K)); (try clear fa))
  (have fa := zT; refine zD (says_size x.bag h2) ?_; (try clear fa))
  (have fa := (And.intro e1 (And.intro w1 (And.intro w2 (And.intro w3 w4)))); (repeat first | refine zG ?_ | ((with_reducible refine AW_seq ?_); intro K hK) | ((repeat (fail_if_success (refine hK _ ?_)); clear hK K); refine hK _ ?_; clear hK K)); (try clear fa))
  refine AW_ret ?_; refine ⟨.inr rfl, ?_, [], 2, finOk_nil, ?_⟩ <;> (have fa := zT; first | exact zE0 | (refine zE ?_; try clear fa))
  unfold fullB
  rw [c]; simp; rw [Bool.eq_iff_iff]; simp
 ·have e1 : (handErr s x == 0) = false := by simp [c]
  refine acall_of (nx := 0) (ne := 0) tysGood (DD_ok tysGood mixed _) Tryz.func40 (by rfl) (by rfl) (by simp [Tryz.ntmps40]) (fun p hp => by cases hp) ?_; rw [Tryz.ntmps40]; let tb := ord_40
  (have fa := zT; (repeat first | refine zG ?_ | ((with_reducible refine AW_seq ?_); intro K hK) | ((repeat (fail_if_success (refine hK _ ?_)); clear hK K); refine hK _ ?_; clear hK K)); (try clear fa))
  (have fa := zT; refine zD (says_CheckHand s x h1 h2) ?_; (try clear fa))
  (have fa := e1; (repeat first | refine zG ?_ | ((with_reducible refine AW_seq ?_); intro K hK) | ((repeat (fail_if_success (refine hK _ ?_)); clear hK K); refine hK _ ?_; clear hK K)); (try clear fa))
  refine AW_ret ?_; refine ⟨.inr rfl, ?_, [], 2, finOk_nil, ?_⟩ <;> (have fa := zT; first | exact zE0 | (refine zE ?_; try clear fa))
  simp [fullB, c]
theorem says_rFull (s : TSet) (x : Hd) (h1 : x.me.length ≤ 1000000) (h2 : x.bag.length ≤ 1000000) : ASays Tryz.prog 54 [eSet s, eHd false x] (B (fullB s x)) := by
 by_cases c : handErr s x = 0
 ·have e1 : (handErr s x == 0) = true := by simp [c]
  obtain ⟨w1, w2, w3, w4⟩ := (hand_ok c).nums
  refine acall_of (nx := 0) (ne := 0) tysGood (DD_ok tysGood mixed _) Tryz.func54 (by rfl) (by rfl) (by simp [Tryz.ntmps54]) (fun p hp => by cases hp) ?_; rw [Tryz.ntmps54]; let tb := ord_54
  (have fa := zT; (repeat first | refine zG ?_ | ((with_reducible refine AW_seq ?_); intro K hK) | ((repeat (fail_if_success (refine hK _ ?_)); clear hK K); refine hK _ ?_; clear hK K)); (try clear fa))
  (have fa := zT; refine zD (says_rCheckHand s x h1) ?_; (try clear fa))
  (have fa := e1; (repeat first | refine zG ?_ | ((with_reducible refine AW_seq ?_); intro K hK) | ((repeat (fail_if_success (refine hK _ ?_)); clear hK K); refine hK _ ?_; clear hK K)); (try clear fa))
  (have fa := zT; refine zD (says_rsum x.bag h2) ?_; (try clear fa))
  (have fa := (And.intro e1 (And.intro w1 (And.intro w2 (And.intro w3 w4)))); (repeat first | refine zG ?_ | ((with_reducible refine AW_seq ?_); intro K hK) | ((repeat (fail_if_success (refine hK _ ?_)); clear hK K); refine hK _ ?_; clear hK K)); (try clear fa))
  refine AW_ret ?_; refine ⟨.inr rfl, ?_, [], 2, finOk_nil, ?_⟩ <;> (have fa := zT; first | exact zE0 | (refine zE ?_; try clear fa))
  unfold fullB
  rw [c]; simp; rw [Bool.eq_iff_iff]; simp
 ·have e1 : (handErr s x == 0) = false := by simp [c]
  refine acall_of (nx := 0) (ne := 0) tysGood (DD_ok tysGood mixed _) Tryz.func54 (by rfl) (by rfl) (by simp [Tryz.ntmps54]) (fun p hp => by cases hp) ?_; rw [Tryz.ntmps54]; let tb := ord_54
  (have fa := zT; (repeat first | refine zG ?_ | ((with_reducible refine AW_seq ?_); intro K hK) | ((repeat (fail_if_success (refine hK _ ?_)); clear hK K); refine hK _ ?_; clear hK K)); (try clear fa))
  (have fa := zT; refine zD (says_rCheckHand s x h1) ?_; (try clear fa))
  (have fa := e1; (repeat first | refine zG ?_ | ((with_reducible refine AW_seq ?_); intro K hK) | ((repeat (fail_if_success (refine hK _ ?_)); clear hK K); refine hK _ ?_; clear hK K)); (try clear fa))
  refine AW_ret ?_; refine ⟨.inr rfl, ?_, [], 2, finOk_nil, ?_⟩ <;> (have fa := zT; first | exact zE0 | (refine zE ?_; try clear fa))
  simp [fullB, c]
def totalI (s : TSet) (x : Hd) : List Int := if handErr s x = 0 then totL x.bag x.me else []
theorem says_Total (s : TSet) (x : Hd) (h1 : x.me.length ≤ 1000000) (h2 : x.bag.length ≤ 1000000) : ASays Tryz.prog 55 [eSet s, eHd false x] (eInts true (totalI s x)) := by
 by_cases c : handErr s x = 0
 ·have e1 : (handErr s x != 0) = false := by simp [c]
  have ht : totalI s x = totL x.bag x.me := by simp [totalI, c]
  have hTl := totL_len x.me x.bag
  have CT := own_total s x (hand_ok c).bag
  rw [ht]
  obtain ⟨T, hT⟩ : ∃ T, T = totL x.bag x.me := ⟨_, rfl⟩
  rw [← hT] at CT hTl ⊢
  have hT2 : T.take x.bag.length = T := by rw [← hTl, List.take_length]
  have hT3 : x.bag.length ≤ T.length := by omega
  refine acall_of (nx := 0) (ne := 0) tysGood (DD_ok tysGood mixed _) Tryz.func55 (by rfl) (by rfl) (by simp [Tryz.ntmps55]) (fun p hp => by cases hp) ?_; rw [Tryz.ntmps55]; let tb := ord_55
  (have fa := zT; (repeat first | refine zG ?_ | ((with_reducible refine AW_seq ?_); intro K hK) | ((repeat (fail_if_success (refine hK _ ?_)); clear hK K); refine hK _ ?_; clear hK K)); (try clear fa))
  (have fa := zT; refine zW (says_CheckHand s x h1 h2) ?_; (try clear fa))
  (have fa := e1; (repeat first | refine zG ?_ | ((with_reducible refine AW_seq ?_); intro K hK) | ((repeat (fail_if_success (refine hK _ ?_)); clear hK K); refine hK _ ?_; clear hK K)); (try clear fa))
  (have fa := zT; refine zWo (CT) ?_; (try clear fa))
  (have fa := zT; (repeat first | refine zG ?_ | ((with_reducible refine AW_seq ?_); intro K hK) | ((repeat (fail_if_success (refine hK _ ?_)); clear hK K); refine hK _ ?_; clear hK K)); (try clear fa))
  refine AW_ret ?_; refine ⟨.inr rfl, ?_, [], 2, finOk_nil, ?_⟩ <;> (have fa := (And.intro hT2 hT3); first | exact zE0 | (refine zE ?_; try clear fa))
 ·have e1 : (handErr s x != 0) = true := by simp [c]
  have ht : totalI s x = [] := by simp [totalI, c]
  rw [ht]
  refine asays_res (x := .v (.slice none 0 0)) (fun _ _ _ => rel_nil) ?_
  refine acall_of (nx := 0) (ne := 0) tysGood (DD_ok tysGood mixed _) Tryz.func55 (by rfl) (by rfl) (by simp [Tryz.ntmps55]) (fun p hp => by cases hp) ?_; rw [Tryz.ntmps55]; let tb := ord_55
  (have fa := zT; (repeat first | refine zG ?_ | ((with_reducible refine AW_seq ?_); intro K hK) | ((repeat (fail_if_success (refine hK _ ?_)); clear hK K); refine hK _ ?_; clear hK K)); (try clear fa))
  (have fa := zT; refine zW (says_CheckHand s x h1 h2) ?_; (try clear fa))
  (have fa := e1; (repeat first | refine zG ?_ | ((with_reducible refine AW_seq ?_); intro K hK) | ((repeat (fail_if_success (refine hK _ ?_)); clear hK K); refine hK _ ?_; clear hK K)); (try clear fa))
  refine AW_ret ?_; refine ⟨.inr rfl, ?_, [], 2, finOk_nil, ?_⟩ <;> (have fa := zT; first | exact zE0 | (refine zE ?_; try clear fa))
theorem says_rTotal (s : TSet) (x : Hd) (h1 : x.me.length ≤ 1000000) (h2 : x.bag.length ≤ 1000000) : ASays Tryz.prog 56 [eSet s, eHd false x] (eInts true (totalI s x)) := by
 by_cases c : handErr s x = 0
 ·have e1 : (handErr s x != 0) = false := by simp [c]
  have ht : totalI s x = totL x.bag x.me := by simp [totalI, c]
  have hTl := totL_len x.me x.bag
  have CT := own_rtotal s x (hand_ok c).bag
  rw [ht]
  obtain ⟨T, hT⟩ : ∃ T, T = totL x.bag x.me := ⟨_, rfl⟩
  rw [← hT] at CT hTl ⊢
  have hT2 : T.take x.bag.length = T := by rw [← hTl, List.take_length]
  have hT3 : x.bag.length ≤ T.length := by omega
  refine acall_of (nx := 0) (ne := 0) tysGood (DD_ok tysGood mixed _) Tryz.func56 (by rfl) (by rfl) (by simp [Tryz.ntmps56]) (fun p hp => by cases hp) ?_; rw [Tryz.ntmps56]; let tb := ord_56
  (have fa := zT; (repeat first | refine zG ?_ | ((with_reducible refine AW_seq ?_); intro K hK) | ((repeat (fail_if_success (refine hK _ ?_)); clear hK K); refine hK _ ?_; clear hK K)); (try clear fa))
  (have fa := zT; refine zW (says_rCheckHand s x h1) ?_; (try clear fa))
  (have fa := e1; (repeat first | refine zG ?_ | ((with_reducible refine AW_seq ?_); intro K hK) | ((repeat (fail_if_success (refine hK _ ?_)); clear hK K); refine hK _ ?_; clear hK K)); (try clear fa))
  (have fa := zT; refine zWo (CT) ?_; (try clear fa))
  (have fa := zT; (repeat first | refine zG ?_ | ((with_reducible refine AW_seq ?_); intro K hK) | ((repeat (fail_if_success (refine hK _ ?_)); clear hK K); refine hK _ ?_; clear hK K)); (try clear fa))
  refine AW_ret ?_; refine ⟨.inr rfl, ?_, [], 2, finOk_nil, ?_⟩ <;> (have fa := (And.intro hT2 hT3); first | exact zE0 | (refine zE ?_; try clear fa))
 ·have e1 : (handErr s x != 0) = true := by simp [c]
  have ht : totalI s x = [] := by simp [totalI, c]
  rw [ht]
  refine asays_res (x := .v (.slice none 0 0)) (fun _ _ _ => rel_nil) ?_
  refine acall_of (nx := 0) (ne := 0) tysGood (DD_ok tysGood mixed _) Tryz.func56 (by rfl) (by rfl) (by simp [Tryz.ntmps56]) (fun p hp => by cases hp) ?_; rw [Tryz.ntmps56]; let tb := ord_56
  (have fa := zT; (repeat first | refine zG ?_ | ((with_reducible refine AW_seq ?_); intro K hK) | ((repeat (fail_if_success (refine hK _ ?_)); clear hK K); refine hK _ ?_; clear hK K)); (try clear fa))
  (have fa := zT; refine zW (says_rCheckHand s x h1) ?_; (try clear fa))
  (have fa := e1; (repeat first | refine zG ?_ | ((with_reducible refine AW_seq ?_); intro K hK) | ((repeat (fail_if_success (refine hK _ ?_)); clear hK K); refine hK _ ?_; clear hK K)); (try clear fa))
  refine AW_ret ?_; refine ⟨.inr rfl, ?_, [], 2, finOk_nil, ?_⟩ <;> (have fa := zT; first | exact zE0 | (refine zE ?_; try clear fa))
end Go.Proofs.YthblfhgofopcaaaGreat

namespace Go.Proofs.YthblfhgofopcaaaGreat
def live_12 : List (Nat × List Nat) := [(0, [3, 4, 5, 6, 7, 8]), (1, [3, 4, 5, 6, 7, 8, 31]), (2, [12]), (3, [4, 5, 6, 7, 8, 14, 16]), (4, [6, 7, 8, 14, 16]), (5, [8, 17, 18]), (6, [8, 17, 18, 19]), (7, [8, 17, 18, 19, 64]), (8, [8, 17, 18, 19]), (9, [8, 17, 18, 19, 20]), (10, [8, 17, 18, 19, 20, 124]), (11, [12]), (12, [8, 17, 18, 19, 20, 21]), (13, [8, 17, 18, 19, 20, 21, 148]), (14, [12]), (15, [8, 17, 18, 19, 20, 21, 22]), (16, [8, 17, 18, 19, 20, 21, 22, 153]), (17, [8, 17, 18, 19, 20, 21, 22]), (18, [8, 17, 18, 19, 20, 21, 22]), (19, [8, 17, 18, 19, 20, 21, 23]), (20, [8, 17, 18, 19, 20, 21, 23, 167]), (21, [8, 17, 18, 19, 20, 21, 23]), (22, [8, 17, 18, 19, 20, 21, 23]), (23, [8, 17, 18, 19, 185]), (24, [12]), (25, [12])]
def live_17 : List (Nat × List Nat) := [(0, [1, 3, 5]), (1, [1, 34]), (2, [6]), (3, [1, 7]), (4, [1, 7, 38]), (5, [1, 7]), (6, [1, 7, 47]), (7, [6]), (8, [6])]
def live_18 : List (Nat × List Nat) := [(0, []), (1, [1]), (2, [1, 2]), (3, [0])]
def live_20 : List (Nat × List Nat) := [(0, [2, 3]), (1, [2, 3, 5]), (2, [2, 3, 5, 12]), (3, [4]), (4, [2, 3, 6]), (5, [2, 3, 6, 7]), (6, [2, 3, 7, 8]), (7, [2, 3, 7, 8, 44]), (8, [4]), (9, [2, 3, 7, 8, 44, 45]), (10, [2, 3, 7, 8, 44, 45]), (11, [2, 3, 7, 8, 44, 48]), (12, [2, 3, 8]), (13, [2, 3, 7, 8, 44, 56]), (14, [2, 3, 8]), (15, [2, 3, 7, 8, 44, 67]), (16, [2, 3, 8]), (17, [2, 3, 7, 8, 82]), (18, [2, 3, 8]), (19, [2, 3, 92]), (20, [4]), (21, [4])]
def live_21 : List (Nat × List Nat) := [(0, [2, 3]), (1, [2, 3, 5]), (2, [2, 3, 5, 11]), (3, [4]), (4, [2, 3, 20]), (5, [4]), (6, [2, 3, 6]), (7, [2, 3, 45]), (8, [4]), (9, [2, 3, 7]), (10, [2, 3, 7, 51]), (11, [2, 3, 7, 51, 52]), (12, [2, 3, 56]), (13, [4]), (14, [2, 3, 7, 51, 57]), (15, [2, 3, 64]), (16, [4]), (17, [2, 3, 7, 51, 65]), (18, [2, 3, 74]), (19, [4]), (20, [2, 3, 7, 75]), (21, [2, 3, 81]), (22, [4]), (23, [4])]
def live_22 : List (Nat × List Nat) := [(0, [1, 2]), (1, [1, 2, 5]), (2, [1, 2, 5, 12]), (3, [4]), (4, [1, 2, 14]), (5, [4]), (6, [1, 2, 18]), (7, [4]), (8, [2, 22, 23, 24]), (9, [2, 22, 23, 24, 25]), (10, [2, 7, 22, 23, 24]), (11, [2, 8, 22, 23, 24]), (12, [2, 8, 22, 23, 24, 32]), (13, [4]), (14, [2, 22, 23, 24]), (15, [4])]
def live_25 : List (Nat × List Nat) := [(0, [0, 3, 5]), (1, [3, 5, 6]), (2, [3, 5, 6, 7]), (3, [3, 5, 6, 7, 14]), (4, [3, 5, 6, 7]), (5, [3, 5, 6, 7, 8]), (6, [2, 3, 4, 5])]
def live_26 : List (Nat × List Nat) := [(0, [0, 1]), (1, [0, 1]), (2, [0, 1, 9]), (3, [0]), (4, [4])]
def live_28 : List (Nat × List Nat) := [(0, [1, 3, 4, 6]), (1, [1, 3, 4, 6, 46]), (2, [8]), (3, [1, 3, 4, 6, 9]), (4, [3, 4, 6, 9, 47, 48, 49]), (5, [3, 4, 6, 9, 47, 48, 49, 50]), (6, [3, 4, 6, 9, 10, 11, 47, 48, 49]), (7, [3, 4, 6, 9, 10, 47, 48, 49, 57, 58, 59]), (8, [3, 4, 6, 9, 10, 47, 48, 49, 57, 58, 59, 60]), (9, [3, 4, 6, 9, 10, 13, 47, 48, 49, 57, 58, 59]), (10, [3, 4, 6, 9, 10, 14, 47, 48, 49, 57, 58, 59]), (11, [3, 4, 6, 9, 10, 14, 15, 47, 48, 49, 57, 58, 59]), (12, [3, 4, 6, 9, 10, 14, 15, 47, 48, 49, 57, 58, 59, 74]), (13, [3, 4, 6, 9, 10, 14, 15, 47, 48, 49, 57, 58, 59]), (14, [3, 4, 6, 9, 10, 14, 15, 16, 47, 48, 49, 57, 58, 59]), (15, [3, 4, 6, 9, 10, 14, 15, 47, 48, 49, 57, 58, 59, 105]), (16, [3, 4, 6, 9, 10, 14, 15, 47, 48, 49, 57, 58, 59]), (17, [3, 4, 6, 9, 10, 47, 48, 49, 57, 58, 59]), (18, [3, 4, 6, 9, 47, 48, 49]), (19, [8])]
def live_32 : List (Nat × List Nat) := [(0, [0, 3, 4]), (1, [0, 3, 4, 5]), (2, [4, 5, 6]), (3, [4, 5, 6, 7]), (4, [4, 5, 6, 7, 19]), (5, [4, 5, 6, 7]), (6, [4, 5, 6, 7, 32]), (7, [4, 5]), (8, [4]), (9, [4, 5, 6, 7]), (10, [4])]
def live_33 : List (Nat × List Nat) := [(0, [1, 3, 5]), (1, [6])]
def live_35 : List (Nat × List Nat) := [(0, [0, 1]), (1, [0, 1, 10]), (2, [4]), (3, [0, 1, 5]), (4, [0, 1, 5, 14]), (5, [0, 1, 5]), (6, [0, 1, 5, 25]), (7, [4]), (8, [4])]
def live_36 : List (Nat × List Nat) := [(0, [1, 3, 5]), (1, [1, 3, 5, 19]), (2, [6]), (3, [1, 3, 5, 7]), (4, [1, 3, 5, 7, 21, 22]), (5, [1, 3, 5, 7, 21, 22, 23]), (6, [1, 3, 5, 7, 8, 21, 22]), (7, [1, 3, 5, 7, 8, 9, 21, 22]), (8, [1, 3, 5, 7, 8, 9, 21, 22]), (9, [1, 3, 5, 7, 8, 21, 22, 37]), (10, [1, 3, 5, 7, 21, 22]), (11, [1, 3, 5, 7, 21, 22]), (12, [6])]
def live_43 : List (Nat × List Nat) := [(0, [0, 3]), (1, [0, 3, 5]), (2, [0, 3, 5, 6]), (3, [0, 3, 5, 6, 12]), (4, [0, 3, 5, 6]), (5, [0, 3, 5, 6, 7]), (6, [0, 3, 5, 6, 7, 21]), (7, [0, 3, 5, 6]), (8, [0, 5, 33]), (9, [5, 8]), (10, [5]), (11, [4])]
def live_44 : List (Nat × List Nat) := [(0, [0]), (1, [0, 3]), (2, [0, 3, 4]), (3, [0, 3, 4, 10]), (4, [0, 3, 4]), (5, [0, 3, 4]), (6, [0, 3, 4]), (7, [2])]
def live_45 : List (Nat × List Nat) := [(0, [0, 2]), (1, [0, 2, 4]), (2, [2]), (3, [2])]
def live_46 : List (Nat × List Nat) := [(0, [0, 3, 4]), (1, [0, 3, 4, 7]), (2, [0, 3, 4, 7, 8]), (3, [0, 3, 4, 7, 8, 9]), (4, [0, 3, 4, 7, 8, 9, 10]), (5, [0, 3, 4, 7, 8, 9, 10, 11]), (6, [0, 3, 4, 7, 8, 9, 10, 11, 45]), (7, [0, 3, 4, 7, 8, 9, 10, 11]), (8, [0, 3, 4, 7, 8, 9, 10, 11, 12]), (9, [0, 3, 4, 7, 8, 9, 10, 11, 12, 13]), (10, [0, 3, 4, 7, 8, 9, 10, 11, 12, 13, 14]), (11, [0, 3, 4, 7, 8, 9, 10, 11, 12, 13, 14, 69]), (12, [0, 3, 4, 7, 8, 9, 10, 11, 12, 13, 14]), (13, [0, 3, 4, 7, 8, 9, 10, 11, 13, 14, 73]), (14, [0, 3, 4, 7, 8, 9, 10, 11]), (15, [0, 3, 4, 7, 8, 9, 10, 11, 14]), (16, [0, 3, 4, 7, 8, 9, 10, 11]), (17, [0, 3, 4, 7, 8, 9, 15]), (18, [0, 3, 4, 7, 8, 9, 15, 16]), (19, [0, 3, 4, 7, 8, 9, 15, 16, 101]), (20, [0, 3, 4, 7, 8, 9, 15, 16]), (21, [0, 3, 4, 7, 8, 9, 15, 16, 17]), (22, [0, 3, 4, 7, 8, 9, 15, 16, 17, 113]), (23, [4, 7, 9, 17]), (24, [4, 5, 6]), (25, [4, 5, 6])]
def live_47 : List (Nat × List Nat) := [(0, []), (1, [0])]
def live_49 : List (Nat × List Nat) := [(0, [0]), (1, [0, 3]), (2, [0, 3, 4]), (3, [0, 3, 4, 9]), (4, [0, 3, 4]), (5, [0, 3, 4, 5]), (6, [0, 3, 4, 5, 27]), (7, [0, 3, 4, 5]), (8, [0, 3, 4]), (9, [2])]
def live_50 : List (Nat × List Nat) := [(0, [0, 1]), (1, [0, 1]), (2, [0, 1, 15]), (3, [4]), (4, [4])]
def live_66 : List (Nat × List Nat) := [(0, [0]), (1, [0])]
def live_67 : List (Nat × List Nat) := [(0, [0]), (1, [0])]
def live_68 : List (Nat × List Nat) := [(0, [0, 1, 2, 3, 4, 10]), (1, [10])]
def live_82 : List (Nat × List Nat) := [(0, [0, 1]), (1, [4])]
def live_83 : List (Nat × List Nat) := [(0, [0, 1, 4]), (1, [0, 1, 4, 5]), (2, [0, 1, 4, 5, 6]), (3, [0, 1, 4, 5, 6, 24]), (4, [0, 1, 4, 5, 6]), (5, [0, 1, 4, 5, 6]), (6, [0, 4, 5, 7]), (7, [0, 4, 5, 7, 53]), (8, [0, 4, 5, 7]), (9, [0, 4, 5, 7, 59]), (10, [0, 4, 5, 7]), (11, [0, 4, 5, 7, 67]), (12, [0, 4, 5, 7]), (13, [0, 4, 5, 7, 75]), (14, [0, 4, 5, 7]), (15, [0, 4, 5, 8]), (16, [0, 4, 5, 8, 86]), (17, [0, 4, 5, 8]), (18, [0, 4, 5, 8, 90]), (19, [0, 4, 5, 8]), (20, [4])]
def live_84 : List (Nat × List Nat) := [(0, [0, 1, 2]), (1, [6])]
def live_85 : List (Nat × List Nat) := [(0, [0, 2, 4, 6]), (1, [0, 4, 6, 7, 8]), (2, [0, 4, 6, 7, 29]), (3, [0, 4, 6, 7]), (4, [6]), (5, [0, 4, 6, 7, 42]), (6, [0, 4, 6, 7, 9]), (7, [4, 6, 7, 9, 10]), (8, [4, 6, 7, 9]), (9, [6, 7, 9, 59]), (10, [6]), (11, [6])]
def live_87 : List (Nat × List Nat) := [(0, [1, 3, 5]), (1, [6])]
def live_88 : List (Nat × List Nat) := [(0, [3, 4, 5]), (1, [3, 4, 5, 7]), (2, [3, 4, 5, 7, 8]), (3, [3, 4, 5, 7, 8, 11]), (4, [3, 4, 5, 7, 8, 11, 12]), (5, [3, 4, 5, 7, 8]), (6, [3, 4, 5, 7, 8, 16]), (7, [3, 4, 5, 7, 8]), (8, [3, 4, 5, 7, 25]), (9, [6]), (10, [6])]
def live_89 : List (Nat × List Nat) := [(0, [0]), (1, [0, 3]), (2, [0, 3, 9, 10, 11]), (3, [0, 3, 9, 10, 11, 12]), (4, [0, 3, 5, 9, 10, 11]), (5, [0, 3, 9, 10, 11]), (6, [0, 3, 9, 10, 11, 20]), (7, [0, 3, 9, 10, 11]), (8, [0, 3, 9, 10, 11]), (9, [0, 6]), (10, [6, 25, 26, 27]), (11, [6, 25, 26, 27, 28]), (12, [6, 8, 25, 26, 27]), (13, [6, 25, 26, 27]), (14, [6, 25, 26, 27]), (15, [2])]
def live_91 : List (Nat × List Nat) := [(0, [0]), (1, [0, 4]), (2, [2]), (3, [2])]
def live_97 : List (Nat × List Nat) := [(0, [0]), (1, [0, 3]), (2, [0, 3, 4]), (3, [0, 3, 4, 8]), (4, [0, 3, 4]), (5, [0, 3, 4]), (6, [2])]
def live_98 : List (Nat × List Nat) := [(0, [0, 1]), (1, [4])]
def live_99 : List (Nat × List Nat) := [(0, [1, 2, 3]), (1, [4])]
def live_107 : List (Nat × List Nat) := [(0, [0, 3, 4]), (1, [0, 3, 4, 5]), (2, [0, 3, 4, 5, 13]), (3, [0, 3, 4, 5, 13, 14]), (4, [4, 5]), (5, [0, 3, 4, 5, 13, 19]), (6, [4, 5]), (7, [0, 3, 4, 5, 29]), (8, [0, 3, 4, 5, 6, 7]), (9, [0, 3, 4, 5, 6, 7, 42]), (10, [0, 3, 4, 5, 6, 7]), (11, [0, 3, 4, 5, 6, 7, 8]), (12, [0, 3, 4, 5, 6, 7, 8, 55]), (13, [0, 3, 4, 5, 6, 7, 8]), (14, [0, 3, 4, 5, 6, 7, 8]), (15, [0, 3, 4, 5, 6, 7, 8]), (16, [4])]
def live_108 : List (Nat × List Nat) := [(0, [1]), (1, [2])]
def live_109 : List (Nat × List Nat) := [(0, [0, 2, 4, 6]), (1, [0, 2, 6, 7]), (2, [0, 6, 7, 20]), (3, [6, 7]), (4, [6])]
def live_110 : List (Nat × List Nat) := [(0, [1, 2, 3]), (1, [2, 3, 7]), (2, [2, 3, 7, 8]), (3, [2, 3, 7, 8, 15]), (4, [2, 3, 7, 8]), (5, [2, 3, 7, 8]), (6, [2, 3, 7, 8, 36]), (7, [6]), (8, [6])]
def live_111 : List (Nat × List Nat) := [(0, [0, 1, 4]), (1, [0, 1, 4, 8]), (2, [0, 1, 4]), (3, [0, 1, 4])]
def live_114 : List (Nat × List Nat) := [(0, [2, 3]), (1, [4])]
def live_124 : List (Nat × List Nat) := [(0, [1, 2]), (1, [2, 5]), (2, [2, 5, 6]), (3, [2, 5, 6, 7]), (4, [2, 5, 6, 7, 8]), (5, [2, 5, 6, 7, 8, 9]), (6, [2, 5, 6, 7, 8, 9, 10]), (7, [7, 10]), (8, [7]), (9, [7]), (10, [4])]
def live_131 : List (Nat × List Nat) := [(0, [0, 4, 5, 6]), (1, [0, 4, 5, 6, 8]), (2, [0, 4, 5, 6, 8, 19]), (3, [6, 14, 16]), (4, [6, 7]), (5, [0, 4, 5, 6, 8, 19, 29]), (6, [0, 4, 5, 6, 9]), (7, [4, 6, 9, 54]), (8, [4, 6, 9]), (9, [4, 6, 8]), (10, [0, 4, 5, 6, 8, 19, 63]), (11, [4, 6, 8]), (12, [0, 4, 5, 6, 8, 19, 78]), (13, [4, 6, 8]), (14, [0, 4, 5, 6, 8, 19, 83]), (15, [0, 4, 6, 8, 10]), (16, [0, 4, 6, 8, 10, 11]), (17, [0, 4, 6, 8, 10, 11, 88]), (18, [0, 4, 6, 8, 10, 11]), (19, [0, 4, 6, 8, 10, 11]), (20, [0, 4, 6, 8, 12]), (21, [0, 4, 6, 8]), (22, [4, 6, 8, 13]), (23, [4, 6, 8]), (24, [0, 4, 5, 6, 130]), (25, [4, 6, 8]), (26, [4, 6, 17]), (27, [6, 7])]
def live_132 : List (Nat × List Nat) := [(0, [0, 3, 5, 6, 8]), (1, [0, 3, 5, 6, 8, 9]), (2, [0, 3, 5, 6, 8, 9, 10]), (3, [0, 3, 5, 6, 8, 9, 10, 11]), (4, [0, 3, 5, 6, 8, 9, 10, 11, 32]), (5, [0, 3, 5, 6, 8, 9, 10, 11]), (6, [0, 3, 5, 6, 8, 9, 10, 11]), (7, [0, 3, 5, 8, 9, 10, 12]), (8, [0, 5, 8, 9, 10, 12, 52]), (9, [0, 5, 8, 9, 10, 12]), (10, [0, 5, 8, 9, 10, 12, 13]), (11, [0, 5, 8, 9, 10, 12, 13, 14]), (12, [0, 5, 8, 9, 10, 12, 13, 14, 68]), (13, [0, 5, 8, 9, 10, 12, 13, 14]), (14, [0, 5, 8, 9, 10, 12, 13, 14, 15]), (15, [0, 5, 8, 9, 10, 12, 13, 14, 15, 76]), (16, [0, 5, 8, 9, 10, 12, 13, 14, 15]), (17, [0, 5, 8, 9, 10, 12, 13, 14, 15, 86]), (18, [0, 5, 8, 9, 10, 12, 13, 14, 15]), (19, [0, 5, 8, 9, 10, 12, 13, 14]), (20, [5, 8, 9, 10, 12, 16]), (21, [5, 8, 9, 10, 12, 16, 106]), (22, [5, 8, 9, 10, 12, 16]), (23, [5, 8, 9, 10, 12, 16, 122]), (24, [5, 8, 9, 10, 12, 16]), (25, [5, 8, 9, 10, 12, 16]), (26, [8])]
def live_133 : List (Nat × List Nat) := [(0, [1]), (1, [2])]
def live_150 : List (Nat × List Nat) := [(0, [0, 1]), (1, [0, 1, 7, 8]), (2, [0, 1, 7, 8, 9]), (3, [0, 1, 5, 7, 8]), (4, [0, 1, 5, 7, 8, 16]), (5, [4]), (6, [0, 1, 7, 8]), (7, [4])]
def live_152 : List (Nat × List Nat) := [(0, [0, 2, 4]), (1, [0, 2, 4, 7]), (2, [0, 2, 4, 7, 8]), (3, [0, 2, 4, 7, 8, 13]), (4, [0, 2, 4, 7, 8]), (5, [0, 2, 4, 7, 8, 9]), (6, [0, 2, 4, 7, 8, 28]), (7, [0, 2, 4, 7, 8]), (8, [0, 2, 4, 7, 8]), (9, [6])]
def live_157 : List (Nat × List Nat) := [(0, [1, 2, 3, 4, 5]), (1, [1, 3, 4, 5, 7]), (2, [1, 3, 4, 5, 7, 15, 16, 17]), (3, [1, 3, 4, 5, 7, 15, 16, 17, 18]), (4, [1, 3, 4, 5, 7, 9, 15, 16, 17]), (5, [1, 3, 4, 5, 7, 15, 16, 17]), (6, [1, 3, 4, 5, 7, 15, 16, 17]), (7, [1, 3, 4, 7]), (8, [3, 4, 7]), (9, [3, 7]), (10, [3, 39, 40, 41]), (11, [3, 39, 40, 41, 42]), (12, [3, 11, 39, 40, 41]), (13, [3, 39, 40, 41]), (14, [3, 39, 40, 41])]
def live_158 : List (Nat × List Nat) := [(0, [1, 2, 3, 4, 5, 6, 7, 8]), (1, [1, 2, 3, 4, 5, 6, 7, 8, 21]), (2, [1, 2, 3, 4, 5, 6, 7, 8]), (3, [1, 2, 3, 4, 5, 6, 7, 8, 27]), (4, [3, 4, 28]), (5, []), (6, [1, 2, 4, 6, 7, 8, 9]), (7, [1, 2, 4, 6, 7, 8, 9, 10]), (8, [1, 2, 4, 6, 7, 8, 9, 10, 48]), (9, [1, 2, 6, 7, 8, 9, 10]), (10, [1, 2, 6, 7, 8, 9, 10, 68]), (11, [1, 2, 6, 7, 8, 9, 10]), (12, [1, 2, 6, 7, 8, 9, 10]), (13, [1, 6, 7, 8, 9, 10]), (14, [1, 6, 7, 8, 9, 82]), (15, [1, 6, 7, 8, 9]), (16, [6, 8, 9, 106]), (17, [])]
def live_159 : List (Nat × List Nat) := [(0, [0]), (1, [3]), (2, [3]), (3, [2])]
def live_160 : List (Nat × List Nat) := [(0, [])]
def live_168 : List (Nat × List Nat) := [(0, [0, 3]), (1, [0, 3, 5]), (2, [0, 3, 5, 6]), (3, [0, 3, 5, 6, 7]), (4, [0, 3, 5, 6, 7, 8]), (5, [0, 3, 5, 6, 7, 8, 18]), (6, [0, 3, 5, 6, 7, 8]), (7, [0, 3, 5, 6, 7, 8, 9]), (8, [0, 3, 5, 6, 7, 8, 9, 27]), (9, [0, 3, 5, 6, 7, 8, 9]), (10, [0, 3, 5, 6, 7, 8, 9, 36]), (11, [0, 3, 5, 6, 7, 8, 9]), (12, [0, 3, 5, 6, 7, 8, 9]), (13, [0, 3, 6, 7, 46]), (14, [0, 3, 6, 7]), (15, [0, 3, 6, 7]), (16, [0, 6, 10]), (17, [0, 6, 10, 60]), (18, [0, 6, 10, 11]), (19, [0, 6, 10]), (20, [4])]
def live_169 : List (Nat × List Nat) := [(0, [1, 2]), (1, [1, 5]), (2, [5]), (3, [4])]
end Go.Proofs.YthblfhgofopcaaaGreat
