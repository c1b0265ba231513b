/-
  Parts of the proof: RefS, SplY, SrcV, LitN, BigT.
-/
import Derived.Test.YthblfhgofopcaaaGreatSP16
import Derived.Test.YthblfhgofopcaaaGreatSP33
import Derived.Test.YthblfhgofopcaaaGreatSP39
import Derived.Test.YthblfhgofopcaaaGreatSP15
import Derived.Test.YthblfhgofopcaaaGreatSP22
import Derived.Test.YthblfhgofopcaaaGreatSP28
import Derived.Test.YthblfhgofopcaaaGreatSP20
set_option linter.all false
namespace Go.Proofs.YthblfhgofopcaaaGreat
open Go.RowKit
set_option maxRecDepth 100000
set_option maxHeartbeats 2000000
theorem rangeS (rn : Int → Bool) (f : Nat) (bag : List Int) (k : Nat) : (List.range (k + 1)).foldl (stepS rn f bag) [] = stepS rn f bag ((List.range k).foldl (stepS rn f bag) []) k := by
 rw [List.range_succ, List.foldl_append]; rfl
theorem stepS_small {rn : Int → Bool} {f : Nat} {bag : List Int} (hb : bag.length ≤ 1000) {k : Nat} (hk : k ≤ 1000) {out : List (List Gp)} (ho : ∀ x ∈ out, Sg x ∧ x.length ≤ f + 1) : (stepS rn f bag out k).length ≤ out.length + 2 ^ f ∧ ∀ x ∈ stepS rn f bag out k, Sg x ∧ x.length ≤ f + 1 := by
 unfold stepS
 split
 ·exact ⟨Nat.le_add_right _ _, ho⟩
 ·split
  ·exact ⟨Nat.le_add_right _ _, ho⟩
  ·rename_i r hr
   have hl : r.length ≤ 1000 := by rw [lessO_len _ _ _ hr]; exact hb
   have ih := meldsF_small (rn := rn) f r hl
   refine ⟨Nat.le_trans (len_addAll _ _) (by omega), fun x hx => ?_⟩
   rcases mem_addAll hx with hx | ⟨y, hy, rfl⟩
   ·exact ho x hx
   ·exact ⟨sg_with (ih.2 y hy).1 (fun z hz => by simp at hz; subst hz; simp [gp]; omega), by rw [len_with]; have := (ih.2 y hy).2; omega⟩
theorem foldS_small {rn : Int → Bool} {f : Nat} {bag : List Int} (hb : bag.length ≤ 1000) : ∀ k, k ≤ 1000 → ((List.range k).foldl (stepS rn f bag) []).length ≤ k * 2 ^ f ∧ ∀ x ∈ (List.range k).foldl (stepS rn f bag) [], Sg x ∧ x.length ≤ f + 1
 | 0, _ => ⟨by simp, fun x hx => by cases hx⟩
 | k + 1, hk => by
  rw [rangeS]
  have h1 := foldS_small (rn := rn) (f := f) hb k (by omega)
  have h2 := stepS_small (rn := rn) (f := f) hb (k := k) (by omega) h1.2
  refine ⟨?_, h2.2⟩
  rw [Nat.succ_mul]; omega
set_option maxHeartbeats 4000000 in
theorem says_rsplits (s : TSet) (hv : chkErr s = 0) (f : Nat) (bag : List Int) (hf : f ≤ 20) (hb : Sb bag) (hn : (bag.length : Int) = kindsI s) (hs : bag.sum < (f : Int)) : ASays Tryz.prog 125 [eSet s, eInts false bag] (eLL false (splR (runsB s) f bag)) := by
 have hK := kinds_le hv
 have hp2 : (2 : Nat) ^ f ≤ 2 ^ 20 := Nat.pow_le_pow_right (by omega) (by omega)
 refine asays_low ?_
 refine acall_ofW (nx := 0) (ne := 0) tysGood (DD_ok tysGood mixed _) Tryz.func125 (by rfl) (by rfl) (by simp [Tryz.ntmps125]) (fun p hp => by cases hp) ?_; rw [Tryz.ntmps125]; let tb := ord_125; let lv := live_125
 (have fa := zT; (repeat' first | refine zQ ?_ | (refine zN ?_; intro K hC hK) | ((repeat clear hJo hJU hJC Jo JU JC); (repeat (fail_if_success (refine hK _ ?_)); clear hK hC K); refine hK _ ?_; clear hK hC K) | (refine zC ?_ ?_ <;> intro hb) | (refine zK ?_; intro Jo JU JC hJo hJU hJC)) <;> (try clear fa))
 refine AW_loopG (α := Nat × List (List Gp)) (fun x => [(1, eInts false bag), (2, .ref 0 0 0 0), (5, eLL false x.2), (6, I x.1)]) (fun _ => [(0, .arr 0 9 [eSet s])]) (fun x => bag.length - x.1) (fun x => x.1 ≤ bag.length ∧ x.2 = (List.range x.1).foldl (stepS (runsB s) f bag) []) [(0, 0)] [(0, 0)] 0 [1, 2, 5, 6] 900 (finOk0 (by decide) (by decide)) (finOk0 (by decide) (by decide)) (0, []) ⟨Nat.zero_le _, rfl⟩ (by (have fa := zT; exact zSF)) ?_
 rintro ⟨k, out⟩ ⟨hk, hout⟩ J hcJ hJ
 dsimp only at hk hout hJ ⊢
 have small := foldS_small (rn := runsB s) (f := f) (bag := bag) (by omega) k (by omega)
 rw [← hout] at small
 have lo : out.length ≤ 60 * 2 ^ 20 := Nat.le_trans small.1 (Nat.mul_le_mul (by have := kinds_bound s; omega) hp2)
 by_cases h : k < bag.length
 ·have hst := rangeS (runsB s) f bag k
  rw [← hout] at hst
  by_cases h2 : bag[k] < 2
  ·have e : stepS (runsB s) f bag out k = out := by unfold stepS; rw [if_pos (by simpa [h] using h2)]
   (have fa := zT; (repeat' first | refine zQ ?_ | (refine zN ?_; intro K hC hK) | ((repeat clear hJo hJU hJC Jo JU JC); (repeat (fail_if_success (refine hK _ ?_)); clear hK hC K); refine hK _ ?_; clear hK hC K) | (refine zC ?_ ?_ <;> intro hb) | (refine zK ?_; intro Jo JU JC hJo hJU hJC)) <;> (try clear fa))
   exact hJ _ (k + 1, out) (by simp; omega) ⟨by simp; omega, by rw [hst, e]⟩ (by (have fa := zT; exact zSF))
  ·have k3 : InB bag.length [(k : Int), (k : Int)] := fun z hz => by simp at hz; omega
   have hb2 := hb k
   have hge : bag.getD k 0 = bag[k] := by simp [h]
   obtain ⟨r, hle⟩ : ∃ r, lessO bag [(k : Int), (k : Int)] = some r := by
    rcases lessO_ok _ bag k3 hb.bg with ⟨h1, _⟩ | ⟨_, i, hi⟩
    ·exact ⟨_, h1⟩
    ·exfalso
     have e1 := cntG_pair (k : Int) false i
     unfold cntG at e1
     simp only [tilesL] at e1
     simp at e1
     rw [e1] at hi
     have := hb i
     split at hi
     ·rename_i hki
      have : k = i := by omega
      subst this; omega
     ·omega
   obtain ⟨r1, r2, r3⟩ := less_ok hb k3 hle
   have e : stepS (runsB s) f bag out k = addAll (gp 4 k) out (meldsF (runsB s) f r) := by
    unfold stepS; rw [if_neg (by rw [hge]; exact h2), hle]
   have CT : ASays Tryz.prog 123 [eGp (gp 4 k)] (eInts true [(k : Int), (k : Int)]) := says_rtiles (gp 4 k) (by simp [gp]) (by simp [gp]; omega)
   have CL : ASays Tryz.prog 146 [eInts false bag, eInts false [(k : Int), (k : Int)]] (eInts true r) := by
    have := says_less bag _ hb k3 (by omega) (by simp)
    rw [hle] at this; exact this
   have CM := says_rmelds s hv f r hf r1 (by omega) (by simp at r3; omega)
   have sm := meldsF_small (rn := runsB s) f r (by omega)
   obtain ⟨ls, hls⟩ : ∃ ls, meldsF (runsB s) f r = ls := ⟨_, rfl⟩
   rw [hls] at CM sm e
   (have fa := zT; (repeat' first | refine zS (CT) ?_ | refine zS (CL) ?_ | refine zS (CM) ?_ | refine zQ ?_ | (refine zN ?_; intro K hC hK) | ((repeat clear hJo hJU hJC Jo JU JC); (repeat (fail_if_success (refine hK _ ?_)); clear hK hC K); refine hK _ ?_; clear hK hC K) | (refine zC ?_ ?_ <;> intro hb) | (refine zK ?_; intro Jo JU JC hJo hJU hJC)) <;> (try clear fa))
   refine AW_loopG (α := Nat × List (List Gp)) (fun x => [(1, eInts false bag), (2, .ref 0 0 0 0), (5, eLL false x.2), (6, I k), (7, .ref 1 0 0 0), (8, eLL false ls), (9, I x.1)]) (fun _ => [(0, .arr 0 9 [eSet s]), (1, .arr 0 3 [eGp (gp 4 k)])]) (fun x => ls.length - x.1) (fun x => x.1 ≤ ls.length ∧ x.2 = addAll (gp 4 k) out (ls.take x.1)) [(0, 0), (1076, 1)] [(0, 0), (1, 1)] 0 [1, 2, 5, 6, 7, 8, 9] 900 (finOk0 (by decide) (by decide)) (finOk0 (by decide) (by decide)) (0, out) ⟨Nat.zero_le _, rfl⟩ (by (have fa := zT; exact zSF)) ?_
   rintro ⟨n, o2⟩ ⟨hn2, ho2⟩ J2 hcJ2 hJ2
   dsimp only at hn2 ho2 hJ2 ⊢
   have sgg : Sg [gp 4 (k : Int)] := fun z hz => by simp at hz; subst hz; simp [gp]; omega
   have so : Sl o2 := fun x hx => by
    rw [ho2] at hx
    rcases mem_addAll hx with hx | ⟨y, hy, rfl⟩
    ·exact ⟨(small.2 x hx).1, by have := (small.2 x hx).2; omega⟩
    ·have hy := sm.2 y (List.mem_of_mem_take hy)
     exact ⟨sg_with hy.1 sgg, by rw [len_with]; have := hy.2; omega⟩
   have lo2 : o2.length ≤ 1000000000 := by
    have h1 := len_addAll (g := gp 4 (k : Int)) (ls.take n) out
    rw [← ho2, List.length_take] at h1
    omega
   by_cases h3 : n < ls.length
   ·have sy := sm.2 ls[n] (List.getElem_mem h3)
    have CW := says_with ls[n] (gp 4 (k : Int)) sy.1 sgg (by omega)
    have CA := says_add o2 (withL ls[n] (gp 4 (k : Int))) so (sg_with sy.1 sgg) (by rw [len_with]; omega) lo2
    have hl2 : ls.length ≤ 2 ^ 20 := by omega
    (have fa := zT; (repeat' first | refine zS (CW) ?_ | refine zS (CA) ?_ | refine zQ ?_ | (refine zN ?_; intro K hC hK) | ((repeat clear hJo hJU hJC Jo JU JC); (repeat (fail_if_success (refine hK _ ?_)); clear hK hC K); refine hK _ ?_; clear hK hC K) | (refine zC ?_ ?_ <;> intro hb) | (refine zK ?_; intro Jo JU JC hJo hJU hJC)) <;> (try clear fa))
    refine hJ2 _ (n + 1, addL o2 (withL ls[n] (gp 4 (k : Int)))) (by simp; omega) ⟨by simp; omega, by rw [ho2]; exact addAll_take _ out ls h3⟩ (by (have fa := zT; exact zSF))
   ·(have fa := zT; (repeat' first | refine zQ ?_ | (refine zN ?_; intro K hC hK) | ((repeat clear hJo hJU hJC Jo JU JC); (repeat (fail_if_success (refine hK _ ?_)); clear hK hC K); refine hK _ ?_; clear hK hC K) | (refine zC ?_ ?_ <;> intro hb) | (refine zK ?_; intro Jo JU JC hJo hJU hJC)) <;> (try clear fa))
    have e2 : ls.take n = ls := List.take_of_length_le (by omega)
    refine hJ _ (k + 1, o2) (by simp; omega) ⟨by simp; omega, by rw [hst, e, ho2, e2]⟩ (by (have fa := zT; exact zSF))
 ·(have fa := zT; (repeat' first | refine zQ ?_ | (refine zN ?_; intro K hC hK) | ((repeat clear hJo hJU hJC Jo JU JC); (repeat (fail_if_success (refine hK _ ?_)); clear hK hC K); refine hK _ ?_; clear hK hC K) | (refine zC ?_ ?_ <;> intro hb) | (refine zK ?_; intro Jo JU JC hJo hJU hJC)) <;> (try clear fa))
  refine AW_ret ?_; refine zU ?_; refine ⟨_, .rfl', .inr rfl, ?_, [], 2, finOk_nil, ?_⟩ <;> (have fa := zT; first | exact zE0 | (refine zE ?_; try clear fa))
  obtain rfl : k = bag.length := by omega
  rw [hout]; rfl
def splitsM (s : TSet) (bag : List Int) : List (List Gp) := if chkErr s = 0 ∧ cntErr s bag = 0 ∧ bag.sum % 3 = 2 ∧ bag.sum ≤ 3 * s.me + 2 then splR (runsB s) 20 bag else []
theorem cnt_sb {s : TSet} {bag : List Int} (hv : chkErr s = 0) (h : cntErr s bag = 0) : Sb bag ∧ (bag.length : Int) = kindsI s ∧ 0 ≤ bag.sum := by
 obtain ⟨h1, h2⟩ := cnt_rg h
 have := (valid_of hv).co
 exact ⟨fun i => getD_of (P := fun z => 0 ≤ z ∧ z ≤ 1000) (fun z hz => by have := h2 z hz; omega) (by omega) i, h1, sum_nonneg' fun z hz => (h2 z hz).1⟩
theorem says_rSplits (s : TSet) (bag : List Int) (hl : bag.length ≤ 1000000) : ASays Tryz.prog 64 [eSet s, eInts false bag] (eLL false (splitsM s bag)) := by
 by_cases hv : chkErr s = 0
 ·by_cases hc : cntErr s bag = 0
  ·obtain ⟨h1, h2, h3⟩ := cnt_sb hv hc
   have hm := me_rg hv
   have hK := kinds_le hv
   have hco := (valid_of hv).co
   have e := sumW_eq (m := 4) (zs := bag) (fun z hz => by have := (cnt_rg hc).2 z hz; omega) (by omega) (by omega)
   have sb := sum_bound (zs := bag) (m := 4) fun z hz => by have := (cnt_rg hc).2 z hz; omega
   have CS := says_rsum bag hl
   rw [e] at CS
   have ht : bag.sum.tmod 3 = bag.sum % 3 := Int.tmod_eq_emod_of_nonneg h3
   by_cases hs : bag.sum % 3 = 2 ∧ bag.sum ≤ 3 * s.me + 2
   ·have CP := says_rsplits s hv 20 bag (by omega) h1 h2 (by omega)
    have hU : splitsM s bag = splR (runsB s) 20 bag := by unfold splitsM; rw [if_pos ⟨hv, hc, hs⟩]
    rw [hU]
    refine asays_low ?_
    refine acall_ofW (nx := 0) (ne := 0) tysGood (DD_ok tysGood mixed _) Tryz.func64 (by rfl) (by rfl) (by simp [Tryz.ntmps64]) (fun p hp => by cases hp) ?_; rw [Tryz.ntmps64]; let tb := ord_64; let lv := live_64
    (have fa := ht; (repeat' first | refine zS (says_rCheck s) ?_ | refine zS (says_rcounts s bag) ?_ | refine zS (CS) ?_ | refine zS (CP) ?_ | refine zQ ?_ | (refine zN ?_; intro K hC hK) | ((repeat clear hJo hJU hJC Jo JU JC); (repeat (fail_if_success (refine hK _ ?_)); clear hK hC K); refine hK _ ?_; clear hK hC K) | (refine zC ?_ ?_ <;> intro hb) | (refine zK ?_; intro Jo JU JC hJo hJU hJC)) <;> (try clear fa))
    all_goals (refine AW_ret ?_; refine zU ?_; refine ⟨_, .rfl', .inr rfl, ?_, [], 2, finOk_nil, ?_⟩ <;> (have fa := zT; first | exact zE0 | (refine zE ?_; try clear fa)); done)
   ·have hU : splitsM s bag = [] := by unfold splitsM; rw [if_neg (fun h => hs h.2.2)]
    rw [hU]
    refine asays_res (x := .v (.slice none 0 0)) (fun _ _ _ => rel_nil) ?_
    refine acall_ofW (nx := 0) (ne := 0) tysGood (DD_ok tysGood mixed _) Tryz.func64 (by rfl) (by rfl) (by simp [Tryz.ntmps64]) (fun p hp => by cases hp) ?_; rw [Tryz.ntmps64]; let tb := ord_64; let lv := live_64
    (have fa := ht; (repeat' first | refine zS (says_rCheck s) ?_ | refine zS (says_rcounts s bag) ?_ | refine zS (CS) ?_ | refine zQ ?_ | (refine zN ?_; intro K hC hK) | ((repeat clear hJo hJU hJC Jo JU JC); (repeat (fail_if_success (refine hK _ ?_)); clear hK hC K); refine hK _ ?_; clear hK hC K) | (refine zC ?_ ?_ <;> intro hb) | (refine zK ?_; intro Jo JU JC hJo hJU hJC)) <;> (try clear fa))
    all_goals (refine AW_ret ?_; refine zU ?_; refine ⟨_, .rfl', .inr rfl, ?_, [], 2, finOk_nil, ?_⟩ <;> (have fa := zT; first | exact zE0 | (refine zE ?_; try clear fa)); done)
  ·have hU : splitsM s bag = [] := by unfold splitsM; rw [if_neg (fun h => hc h.2.1)]
   rw [hU]
   refine asays_res (x := .v (.slice none 0 0)) (fun _ _ _ => rel_nil) ?_
   refine acall_ofW (nx := 0) (ne := 0) tysGood (DD_ok tysGood mixed _) Tryz.func64 (by rfl) (by rfl) (by simp [Tryz.ntmps64]) (fun p hp => by cases hp) ?_; rw [Tryz.ntmps64]; let tb := ord_64; let lv := live_64
   (have fa := zT; (repeat' first | refine zS (says_rCheck s) ?_ | refine zS (says_rcounts s bag) ?_ | refine zQ ?_ | (refine zN ?_; intro K hC hK) | ((repeat clear hJo hJU hJC Jo JU JC); (repeat (fail_if_success (refine hK _ ?_)); clear hK hC K); refine hK _ ?_; clear hK hC K) | (refine zC ?_ ?_ <;> intro hb) | (refine zK ?_; intro Jo JU JC hJo hJU hJC)) <;> (try clear fa))
   all_goals (refine AW_ret ?_; refine zU ?_; refine ⟨_, .rfl', .inr rfl, ?_, [], 2, finOk_nil, ?_⟩ <;> (have fa := zT; first | exact zE0 | (refine zE ?_; try clear fa)); done)
 ·have hU : splitsM s bag = [] := by unfold splitsM; rw [if_neg (fun h => hv h.1)]
  rw [hU]
  refine asays_res (x := .v (.slice none 0 0)) (fun _ _ _ => rel_nil) ?_
  refine acall_ofW (nx := 0) (ne := 0) tysGood (DD_ok tysGood mixed _) Tryz.func64 (by rfl) (by rfl) (by simp [Tryz.ntmps64]) (fun p hp => by cases hp) ?_; rw [Tryz.ntmps64]; let tb := ord_64; let lv := live_64
  (have fa := zT; (repeat' first | refine zS (says_rCheck s) ?_ | refine zQ ?_ | (refine zN ?_; intro K hC hK) | ((repeat clear hJo hJU hJC Jo JU JC); (repeat (fail_if_success (refine hK _ ?_)); clear hK hC K); refine hK _ ?_; clear hK hC K) | (refine zC ?_ ?_ <;> intro hb) | (refine zK ?_; intro Jo JU JC hJo hJU hJC)) <;> (try clear fa))
  all_goals (refine AW_ret ?_; refine zU ?_; refine ⟨_, .rfl', .inr rfl, ?_, [], 2, finOk_nil, ?_⟩ <;> (have fa := zT; first | exact zE0 | (refine zE ?_; try clear fa)); done)
end Go.Proofs.YthblfhgofopcaaaGreat

namespace Go.Proofs.YthblfhgofopcaaaGreat
open Go.RowKit
set_option maxRecDepth 100000
set_option maxHeartbeats 2000000
theorem says_Splits (s : TSet) (bag : List Int) (hl : bag.length ≤ 1000000) : ASays Tryz.prog 63 [eSet s, eInts false bag] (eLL false (splitsM s bag)) := by
 by_cases hv : chkErr s = 0
 ·by_cases hk : (bag.length : Int) = kindsI s
  ·have CS := says_size bag hl
   have hK := kinds_le hv
   have hm := me_rg hv
   have hco := (valid_of hv).co
   refine asays_le ?_
   refine acall_ofW (nx := 0) (ne := 0) tysGood (DD_ok tysGood mixed _) Tryz.func63 (by rfl) (by rfl) (by simp [Tryz.ntmps63]) (fun p hp => by cases hp) ?_; rw [Tryz.ntmps63]; let tb := ord_63; let lv := live_63
   (have fa := zT; (repeat' first | refine zS (says_Check s) ?_ | refine zS (says_Kinds s) ?_ | refine zQ ?_ | (refine zN ?_; intro K hC hK) | ((repeat clear hJo hJU hJC Jo JU JC); (repeat (fail_if_success (refine hK _ ?_)); clear hK hC K); refine hK _ ?_; clear hK hC K) | (refine zC ?_ ?_ <;> intro hb) | (refine zK ?_; intro Jo JU JC hJo hJU hJC)) <;> (try clear fa))
   refine AW_forC bag.length (fun k σ => (∀ i, (hi : i < bag.length) → i < k → farC s.co bag[i] = false) ∧ σ = ⟨900, [(1, eInts false bag), (2, .ref 0 0 0 0), (18, eInts false bag), (19, I bag.length), (20, I k)], [(0, .arr 0 9 [eSet s])]⟩) [(0, 0)] [(0, 0)] 0 [1, 2, 18, 19, 20] 900 (finOk0 (by decide) (by decide)) (finOk0 (by decide) (by decide)) ⟨fun i _ h => absurd h (Nat.not_lt_zero i), by (have fa := zT; exact zV)⟩ ?_
   rintro k σ' hk' ⟨hR, rfl⟩ J hcJ hJ
   by_cases h : k < bag.length
   ·by_cases hf : farC s.co bag[k] = true
    ·have hU : splitsM s bag = [] := by
      unfold splitsM; rw [if_neg]; rintro ⟨_, h2, _⟩
      have := (cnt_rg h2).2 bag[k] (List.getElem_mem h)
      simp [farC] at hf; omega
     rw [hU]
     simp [farC] at hf
     (have fa := zT; (repeat' first | refine zQ ?_ | (refine zN ?_; intro K hC hK) | ((repeat clear hJo hJU hJC Jo JU JC); (repeat (fail_if_success (refine hK _ ?_)); clear hK hC K); refine hK _ ?_; clear hK hC K) | (refine zC ?_ ?_ <;> intro hb) | (refine zK ?_; intro Jo JU JC hJo hJU hJC)) <;> (try clear fa))
     all_goals first
      | (refine AW_ret ?_; refine zU ?_; refine ⟨_, .rfl', .inr rfl, ?_, [], 2, finOk_nil, ?_⟩ <;> (have fa := zT; first | exact zE0 | (refine zE ?_; try clear fa)); exact LeV.nil _ _)
      | (exfalso; omega)
    ·have hf' : ¬ (bag[k] < 0 ∨ s.co < bag[k]) := by simpa [farC] using hf
     (have fa := zT; (repeat' first | refine zQ ?_ | (refine zN ?_; intro K hC hK) | ((repeat clear hJo hJU hJC Jo JU JC); (repeat (fail_if_success (refine hK _ ?_)); clear hK hC K); refine hK _ ?_; clear hK hC K) | (refine zC ?_ ?_ <;> intro hb) | (refine zK ?_; intro Jo JU JC hJo hJU hJC)) <;> (try clear fa))
     all_goals first
      | (exfalso; omega)
      | skip
     refine hJ _ h ⟨fun i hi h2 => ?_, by (have fa := zT; exact zV)⟩
     by_cases e : i = k
     ·subst e; simpa using hf
     ·exact hR i hi (by omega)
   ·obtain rfl : k = bag.length := by omega
    have hc : cntErr s bag = 0 := by unfold cntErr; rw [if_neg (by omega), if_neg (by rw [any_false fun i hi => hR i hi hi]; simp)]
    obtain ⟨h1, h2, h3⟩ := cnt_sb hv hc
    have e := sumW_eq (m := 4) (zs := bag) (fun z hz => by have := (cnt_rg hc).2 z hz; omega) (by omega) (by omega)
    have sb := sum_bound (zs := bag) (m := 4) fun z hz => by have := (cnt_rg hc).2 z hz; omega
    rw [e] at CS
    have ht : bag.sum.tmod 3 = bag.sum % 3 := Int.tmod_eq_emod_of_nonneg h3
    by_cases hs : bag.sum % 3 = 2 ∧ bag.sum ≤ 3 * s.me + 2
    ·have CP := says_splits s hv bag h1 h2 (by omega)
     have hU : splitsM s bag = splR (runsB s) 20 bag := by unfold splitsM; rw [if_pos ⟨hv, hc, hs⟩]
     (have fa := ht; (repeat' first | refine zS (CS) ?_ | refine zS (CP) ?_ | refine zQ ?_ | (refine zN ?_; intro K hC hK) | ((repeat clear hJo hJU hJC Jo JU JC); (repeat (fail_if_success (refine hK _ ?_)); clear hK hC K); refine hK _ ?_; clear hK hC K) | (refine zC ?_ ?_ <;> intro hb) | (refine zK ?_; intro Jo JU JC hJo hJU hJC)) <;> (try clear fa))
     all_goals first
      | (exfalso; omega)
      | (refine AW_ret ?_; refine zU ?_; refine ⟨_, .rfl', .inr rfl, ?_, [], 2, finOk_nil, ?_⟩ <;> (have fa := zT; first | exact zE0 | (refine zE ?_; try clear fa)); rw [hU]; exact LeV.rfl')
    ·have hU : splitsM s bag = [] := by unfold splitsM; rw [if_neg (fun h => hs h.2.2)]
     (have fa := ht; (repeat' first | refine zS (CS) ?_ | refine zQ ?_ | (refine zN ?_; intro K hC hK) | ((repeat clear hJo hJU hJC Jo JU JC); (repeat (fail_if_success (refine hK _ ?_)); clear hK hC K); refine hK _ ?_; clear hK hC K) | (refine zC ?_ ?_ <;> intro hb) | (refine zK ?_; intro Jo JU JC hJo hJU hJC)) <;> (try clear fa))
     all_goals first
      | (refine AW_ret ?_; refine zU ?_; refine ⟨_, .rfl', .inr rfl, ?_, [], 2, finOk_nil, ?_⟩ <;> (have fa := zT; first | exact zE0 | (refine zE ?_; try clear fa)); rw [hU]; exact LeV.nil _ _)
      | (exfalso; omega)
  ·have hU : splitsM s bag = [] := by unfold splitsM; rw [if_neg]; rintro ⟨_, h2, _⟩; exact hk (cnt_rg h2).1
   rw [hU]
   refine asays_res (x := .v (.slice none 0 0)) (fun _ _ _ => rel_nil) ?_
   refine acall_ofW (nx := 0) (ne := 0) tysGood (DD_ok tysGood mixed _) Tryz.func63 (by rfl) (by rfl) (by simp [Tryz.ntmps63]) (fun p hp => by cases hp) ?_; rw [Tryz.ntmps63]; let tb := ord_63; let lv := live_63
   (have fa := zT; (repeat' first | refine zS (says_Check s) ?_ | refine zS (says_Kinds s) ?_ | refine zQ ?_ | (refine zN ?_; intro K hC hK) | ((repeat clear hJo hJU hJC Jo JU JC); (repeat (fail_if_success (refine hK _ ?_)); clear hK hC K); refine hK _ ?_; clear hK hC K) | (refine zC ?_ ?_ <;> intro hb) | (refine zK ?_; intro Jo JU JC hJo hJU hJC)) <;> (try clear fa))
   all_goals (refine AW_ret ?_; refine zU ?_; refine ⟨_, .rfl', .inr rfl, ?_, [], 2, finOk_nil, ?_⟩ <;> (have fa := zT; first | exact zE0 | (refine zE ?_; try clear fa)); done)
 ·have hU : splitsM s bag = [] := by unfold splitsM; rw [if_neg (fun h => hv h.1)]
  rw [hU]
  refine asays_res (x := .v (.slice none 0 0)) (fun _ _ _ => rel_nil) ?_
  refine acall_ofW (nx := 0) (ne := 0) tysGood (DD_ok tysGood mixed _) Tryz.func63 (by rfl) (by rfl) (by simp [Tryz.ntmps63]) (fun p hp => by cases hp) ?_; rw [Tryz.ntmps63]; let tb := ord_63; let lv := live_63
  (have fa := zT; (repeat' first | refine zS (says_Check s) ?_ | refine zQ ?_ | (refine zN ?_; intro K hC hK) | ((repeat clear hJo hJU hJC Jo JU JC); (repeat (fail_if_success (refine hK _ ?_)); clear hK hC K); refine hK _ ?_; clear hK hC K) | (refine zC ?_ ?_ <;> intro hb) | (refine zK ?_; intro Jo JU JC hJo hJU hJC)) <;> (try clear fa))
  all_goals (refine AW_ret ?_; refine zU ?_; refine ⟨_, .rfl', .inr rfl, ?_, [], 2, finOk_nil, ?_⟩ <;> (have fa := zT; first | exact zE0 | (refine zE ?_; try clear fa)); done)
end Go.Proofs.YthblfhgofopcaaaGreat

namespace Go.Proofs.YthblfhgofopcaaaGreat
open Go.RowKit
set_option maxRecDepth 100000
set_option maxHeartbeats 2000000
abbrev U (x : Int) : AV := .v (.int .u64 x)
def srcH (x : Int) : Hl := [(0, .arr 0 1 [U x])]
def nextX (x : Int) : Int := IntKind.u64.wrap (IntKind.u64.wrap (x * 15074714826142052245) + 7146057691288625177)
def outX (x : Int) : Int := (IntKind.u64.wrap ((BitVec.ofInt IntKind.u64.bits x ^^^ BitVec.ofInt IntKind.u64.bits (x.fdiv (2 ^ min 31 IntKind.u64.bits))).toNat)).fdiv (2 ^ min 20 IntKind.u64.bits)
def belX (x n : Int) : Int := if n < 1 then 0 else IntKind.i64.wrap ((outX (nextX x)).tmod (IntKind.u64.wrap n))
theorem u64_in {n : Int} (h0 : 0 ≤ n) (h1 : n < 18446744073709551616) : IntKind.u64.wrap n = n := by unfold IntKind.wrap; simp [IntKind.signed, IntKind.bits]; omega
theorem u64_rg (n : Int) : 0 ≤ IntKind.u64.wrap n := by unfold IntKind.wrap; simp [IntKind.signed, IntKind.bits]; omega
theorem outX_nonneg (x : Int) : 0 ≤ outX x := by
 unfold outX
 have h1 := u64_rg ((BitVec.ofInt IntKind.u64.bits x ^^^ BitVec.ofInt IntKind.u64.bits (x.fdiv (2 ^ min 31 IntKind.u64.bits))).toNat)
 exact Int.fdiv_nonneg h1 (by decide)
theorem belX_rg {x n : Int} (h1 : 1 ≤ n) (h2 : n ≤ 9223372036854775807) : 0 ≤ belX x n ∧ belX x n < n := by
 unfold belX
 rw [if_neg (by omega), u64_in (by omega) (by omega)]
 have h0 := outX_nonneg (nextX x)
 have h3 : (outX (nextX x)).tmod n = outX (nextX x) % n := Int.tmod_eq_emod_of_nonneg h0
 have h4 := Int.emod_nonneg (outX (nextX x)) (show n ≠ 0 by omega)
 have h5 := Int.emod_lt_of_pos (outX (nextX x)) (show 0 < n by omega)
 rw [h3, vwrap_in (by omega) (by omega)]
 exact ⟨h4, h5⟩
theorem v_Below (x n : Int) (hn : n ≤ 9223372036854775807) : AObj Tryz.prog 50 [.ref 0 0 0 0, I n] (srcH x) (I (belX x n)) (srcH (nextX x)) := by
 unfold AObj srcH
 by_cases h1 : n < 1
 ·refine acall_ofW (nx := 64) (ne := 1) tysGood (DD_ok tysGood mixed _) Tryz.func50 (by rfl) (by rfl) (by simp [Tryz.ntmps50]) (by simp) ?_; rw [Tryz.ntmps50]; let tb := ord_50; let lv := live_50
  (have fa := zT; (repeat' first | refine zQ ?_ | (refine zN ?_; intro K hC hK) | ((repeat clear hJo hJU hJC Jo JU JC); (repeat (fail_if_success (refine hK _ ?_)); clear hK hC K); refine hK _ ?_; clear hK hC K) | (refine zC ?_ ?_ <;> intro hb) | (refine zK ?_; intro Jo JU JC hJo hJU hJC)) <;> (try clear fa))
  refine AW_ret ?_; refine zU ?_; refine ⟨_, .rfl', .inr rfl, ?_, [(0, 0)], 2, ⟨by decide, by decide, by decide⟩, ?_⟩ <;> (have fa := zT; first | exact zE0 | (refine zE ?_; try clear fa))
  refine ⟨?_, rfl⟩
  unfold belX; rw [if_pos h1]
 ·have hw : IntKind.u64.wrap n = n := u64_in (by omega) (by omega)
  have hne : (n ≠ 0) = True := by simp; omega
  refine acall_ofW (nx := 64) (ne := 1) tysGood (DD_ok tysGood mixed _) Tryz.func50 (by rfl) (by rfl) (by simp [Tryz.ntmps50]) (by simp) ?_; rw [Tryz.ntmps50]; let tb := ord_50; let lv := live_50
  (have fa := (And.intro hw hne); (repeat' first | refine zQ ?_ | (refine zN ?_; intro K hC hK) | ((repeat clear hJo hJU hJC Jo JU JC); (repeat (fail_if_success (refine hK _ ?_)); clear hK hC K); refine hK _ ?_; clear hK hC K) | (refine zC ?_ ?_ <;> intro hb) | (refine zK ?_; intro Jo JU JC hJo hJU hJC)) <;> (try clear fa))
  refine AW_ret ?_; refine zU ?_; refine ⟨_, .rfl', .inr rfl, ?_, [(0, 0)], 2, ⟨by decide, by decide, by decide⟩, ?_⟩ <;> (have fa := zT; first | exact zE0 | (refine zE ?_; try clear fa))
  refine ⟨?_, rfl⟩
  unfold belX; rw [if_neg h1, hw]; rfl
theorem v_Odds (x n : Int) (hn : n ≤ 9223372036854775807) : AObj Tryz.prog 82 [.ref 0 0 0 0, I n] (srcH x) (B (belX x n == 0)) (srcH (nextX x)) := by
 have CB := v_Below x n hn
 unfold srcH at CB
 unfold AObj srcH
 refine acall_ofW (nx := 64) (ne := 1) tysGood (DD_ok tysGood mixed _) Tryz.func82 (by rfl) (by rfl) (by simp [Tryz.ntmps82]) (by simp) ?_; rw [Tryz.ntmps82]; let tb := ord_82; let lv := live_82
 (have fa := zT; (repeat' first | refine zJ (tg [0]) (CB) ?_ | refine zQ ?_ | (refine zN ?_; intro K hC hK) | ((repeat clear hJo hJU hJC Jo JU JC); (repeat (fail_if_success (refine hK _ ?_)); clear hK hC K); refine hK _ ?_; clear hK hC K) | (refine zC ?_ ?_ <;> intro hb) | (refine zK ?_; intro Jo JU JC hJo hJU hJC)) <;> (try clear fa))
 refine AW_ret ?_; refine zU ?_; refine ⟨_, .rfl', .inr rfl, ?_, [(0, 0)], 2, ⟨by decide, by decide, by decide⟩, ?_⟩ <;> (have fa := zT; first | exact zE0 | (refine zE ?_; try clear fa))
theorem v_Range (x lo hi : Int) (h0 : -1000000000 ≤ lo) (h1 : lo ≤ hi) (h2 : hi ≤ 1000000000) : AObj Tryz.prog 84 [.ref 0 0 0 0, I lo, I hi] (srcH x) (I (lo + belX x (hi - lo + 1))) (srcH (nextX x)) := by
 have hr := belX_rg (x := x) (n := hi - lo + 1) (by omega) (by omega)
 have CB := v_Below x (hi - lo + 1) (by omega)
 unfold srcH at CB
 unfold AObj srcH
 refine acall_ofW (nx := 64) (ne := 1) tysGood (DD_ok tysGood mixed _) Tryz.func84 (by rfl) (by rfl) (by simp [Tryz.ntmps84]) (by simp) ?_; rw [Tryz.ntmps84]; let tb := ord_84; let lv := live_84
 (have fa := zT; (repeat' first | refine zJ (tg [0]) (CB) ?_ | refine zQ ?_ | (refine zN ?_; intro K hC hK) | ((repeat clear hJo hJU hJC Jo JU JC); (repeat (fail_if_success (refine hK _ ?_)); clear hK hC K); refine hK _ ?_; clear hK hC K) | (refine zC ?_ ?_ <;> intro hb) | (refine zK ?_; intro Jo JU JC hJo hJU hJC)) <;> (try clear fa))
 refine AW_ret ?_; refine zU ?_; refine ⟨_, .rfl', .inr rfl, ?_, [(0, 0)], 2, ⟨by decide, by decide, by decide⟩, ?_⟩ <;> (have fa := zT; first | exact zE0 | (refine zE ?_; try clear fa))
end Go.Proofs.YthblfhgofopcaaaGreat

namespace Go.Proofs.YthblfhgofopcaaaGreat
theorem risErr_snoc {many p k : Int} {l : List Int} (h : risErr many p l = 0) (hl : ∀ z ∈ l, z < k) (hp : p < k) (h0 : 0 ≤ k) (h1 : k < many) : risErr many p (l ++ [k]) = 0 := by
 induction l generalizing p with
 | nil =>
  show (if k < 0 ∨ many ≤ k then (2 : Int) else if k ≤ p then 11 else risErr many k []) = 0
  rw [if_neg (by omega), if_neg (by omega)]; rfl
 | cons x l ih =>
  obtain ⟨a, b, c⟩ := risErr_cons h
  show (if x < 0 ∨ many ≤ x then (2 : Int) else if x ≤ p then 11 else risErr many x (l ++ [k])) = 0
  rw [if_neg (by omega), if_neg (by omega)]
  exact ih c (fun z hz => hl z (by simp [hz])) (hl x (by simp))
structure LitNum (s : TSet) (m : Int) : Prop where
 pl : s.pl = 3
 su : ∀ z ∈ s.su, 3 ≤ z ∧ z ≤ 5
 su2 : s.su.length ≤ 2
 wi : 0 ≤ s.wi ∧ s.wi ≤ 4
 dr : 0 ≤ s.dr ∧ s.dr ≤ 3
 fl : 0 ≤ s.fl ∧ s.fl ≤ 1
 co : 2 ≤ s.co ∧ s.co ≤ 4
 me : s.me = m
 de : 0 ≤ s.de ∧ s.de ≤ 2
theorem LitNum.ok {s : TSet} {m : Int} (h : LitNum s m) (hm : 1 ≤ m ∧ m ≤ 3) (h1 : 1 ≤ s.su.length) (hr : risErr (plainI s) (-1) s.re = 0) (hf : ¬ plainI s * s.co + s.fl < 3 * (3 * m + 1) + 1 + s.de) : chkErr s = 0 := by
 have hs := sumI_bound (l := s.su) fun z hz => by have := h.su z hz; omega
 have hp : plainI s = s.wi + s.dr + sumI s.su := rfl
 have a := h.pl
 have b := h.me
 have c := h.wi
 have d := h.dr
 have e := h.fl
 have f := h.co
 have g := h.de
 have hR : rowsB s = false := by
  unfold rowsB
  simp
  omega
 unfold chkErr
 rw [if_neg (by omega), if_neg (by have := h.su2; omega), if_neg, hR, if_neg (by simp), if_neg (by omega), if_neg (by simpa using hr), if_neg]
 ·rw [a, b]; omega
 ·intro hb
  obtain ⟨z, hz, hb⟩ := List.any_eq_true.1 hb
  have := h.su z hz
  unfold sutB at hb
  simp at hb
  omega
structure MadeS (s : TSet) : Prop where
 ok : chkErr s = 0
 fl : s.fl ≤ 1
end Go.Proofs.YthblfhgofopcaaaGreat

namespace Go.Proofs.YthblfhgofopcaaaGreat
open Go.RowKit
def bigT : TSet := ⟨4, [9, 9, 9], 4, 3, 0, 4, 4, 14, [4, 13, 22]⟩
def tinyT : TSet := ⟨3, [3], 0, 1, 0, 4, 1, 2, [1]⟩
end Go.Proofs.YthblfhgofopcaaaGreat
