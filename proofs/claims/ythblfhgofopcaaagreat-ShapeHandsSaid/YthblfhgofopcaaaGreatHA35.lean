/-
  Parts of the proof: FmW.
-/
import Derived.Test.YthblfhgofopcaaaGreatHA17
import Derived.Test.YthblfhgofopcaaaGreatHA34
import Derived.Test.YthblfhgofopcaaaGreatHA31
set_option linter.all false
namespace Go.Proofs.YthblfhgofopcaaaGreat
open Go.RowKit
set_option maxRecDepth 100000
set_option maxHeartbeats 2000000
theorem me_rg {s : TSet} (h : chkErr s = 0) : 1 ≤ s.me ∧ s.me ≤ 4 := (valid_of h).me
set_option maxHeartbeats 8000000 in
theorem says_CheckForm (s : TSet) (f : Fm) (hl : f.ks.length ≤ 1000000) (hs : s.su.length ≤ 1000000) : ASays Tryz.prog 20 [eSet s, eFm false f] (I (formErr s f)) := by
 by_cases c : chkErr s = 0
 ·have hm := me_rg c
  have hU : formErr s f = if f.wh < 1 ∨ 6 < f.wh then 4 else if wrongF s f then 3 else kndErr (kindsI s) s.co (f.wh == 6) none 0 f.ks := by simp [formErr, c]
  obtain ⟨E, hE⟩ : ∃ E, E = kndErr (kindsI s) s.co (f.wh == 6) none 0 f.ks := ⟨_, rfl⟩
  have CK := says_checkKinds s f.ks (f.wh == 6) hl
  rw [← hE] at hU CK
  have CE := says_EqualI s.su [9, 9, 9] hs
  obtain ⟨e9, h9⟩ : ∃ e9, e9 = decide (s.su = [9, 9, 9]) := ⟨_, rfl⟩
  rw [← h9] at CE
  have hW : wrongF s f ↔ (0 < f.ks.length ∧ f.wh ≠ 3 ∧ f.wh ≠ 6) ∨ (f.ag = true ∧ f.wh ≠ 2) ∨ (f.wh = 2 ∧ (3 * s.me + 2).tmod 2 = 1) ∨ (f.wh = 3 ∧ (f.ks.length : Int) ≠ 3 * s.me + 1) ∨ (f.wh = 5 ∧ (e9 = false ∨ s.me < 3)) ∨ (f.wh = 6 ∧ (f.ks.length : Int) ≠ 3 * s.me + 2) := by
   unfold wrongF
   rw [Int.tmod_eq_emod_of_nonneg (by omega), h9]; simp
  clear h9 hE
  refine acall_ofW (nx := 0) (ne := 0) tysGood (DD_ok tysGood mixed _) Tryz.func20 (by rfl) (by rfl) (by simp [Tryz.ntmps20]) (fun p hp => by cases hp) ?_; rw [Tryz.ntmps20]; let tb := ord_20; let lv := live_20
  (have fa := zT; (repeat' first | refine zS (says_Check s) ?_ | refine zS (CE) ?_ | refine zS (CK) ?_ | refine zQ ?_ | (refine zN ?_; intro K hC hK) | ((repeat clear hJo hJU hJC Jo JU JC); (repeat (fail_if_success (refine hK _ ?_)); clear hK hC K); refine hK _ ?_; clear hK hC K) | (refine zC ?_ ?_ <;> intro hb) | (refine zK ?_; intro Jo JU JC hJo hJU hJC)) <;> (try clear fa))
  all_goals (refine AW_ret ?_; refine zU ?_; refine ⟨_, .rfl', .inr rfl, ?_, [], 2, finOk_nil, ?_⟩ <;> (have fa := zT; first | exact zE0 | (refine zE ?_; try clear fa)); try (rw [hU]; by_cases w : wrongF s f <;> simp only [w, if_true, if_false] <;> rw [hW] at w <;> ((repeat' split) <;> first | rfl | (exfalso; omega) | (simp_all; done) | (simp_all; omega))))
 ·refine acall_ofW (nx := 0) (ne := 0) tysGood (DD_ok tysGood mixed _) Tryz.func20 (by rfl) (by rfl) (by simp [Tryz.ntmps20]) (fun p hp => by cases hp) ?_; rw [Tryz.ntmps20]; let tb := ord_20; let lv := live_20
  (have fa := zT; (repeat' first | refine zS (says_Check s) ?_ | refine zQ ?_ | (refine zN ?_; intro K hC hK) | ((repeat clear hJo hJU hJC Jo JU JC); (repeat (fail_if_success (refine hK _ ?_)); clear hK hC K); refine hK _ ?_; clear hK hC K) | (refine zC ?_ ?_ <;> intro hb) | (refine zK ?_; intro Jo JU JC hJo hJU hJC)) <;> (try clear fa))
  refine AW_ret ?_; refine zU ?_; refine ⟨_, .rfl', .inr rfl, ?_, [], 2, finOk_nil, ?_⟩ <;> (have fa := zT; first | exact zE0 | (refine zE ?_; try clear fa))
  simp [formErr, c]
set_option maxHeartbeats 8000000 in
theorem says_rCheckForm (s : TSet) (f : Fm) (hl : f.ks.length ≤ 1000000) (hs : s.su.length ≤ 1000000) : ASays Tryz.prog 21 [eSet s, eFm false f] (I (formErr s f)) := by
 by_cases c : chkErr s = 0
 ·have hm := me_rg c
  have hU : formErr s f = if f.wh < 1 ∨ 6 < f.wh then 4 else if wrongF s f then 3 else kndErr (kindsI s) s.co (f.wh != 3) none 0 f.ks := by
   by_cases w : wrongF s f
   ·simp [formErr, c, w]
   ·rw [knd_sev _ _ w]; simp [formErr, c, w]
  obtain ⟨E, hE⟩ : ∃ E, E = kndErr (kindsI s) s.co (f.wh != 3) none 0 f.ks := ⟨_, rfl⟩
  have CK := says_rcheckKinds s f hl
  rw [← hE] at hU CK
  have CE := says_rnines s hs
  obtain ⟨e9, h9⟩ : ∃ e9, e9 = decide (s.su = [9, 9, 9]) := ⟨_, rfl⟩
  rw [← h9] at CE
  have hW : wrongF s f ↔ (0 < f.ks.length ∧ f.wh ≠ 3 ∧ f.wh ≠ 6) ∨ (f.ag = true ∧ f.wh ≠ 2) ∨ (f.wh = 2 ∧ (3 * s.me + 2).tmod 2 = 1) ∨ (f.wh = 3 ∧ (f.ks.length : Int) ≠ 3 * s.me + 1) ∨ (f.wh = 5 ∧ (e9 = false ∨ s.me < 3)) ∨ (f.wh = 6 ∧ (f.ks.length : Int) ≠ 3 * s.me + 2) := by
   unfold wrongF
   rw [Int.tmod_eq_emod_of_nonneg (by omega), h9]; simp
  clear h9 hE
  refine acall_ofW (nx := 0) (ne := 0) tysGood (DD_ok tysGood mixed _) Tryz.func21 (by rfl) (by rfl) (by simp [Tryz.ntmps21]) (fun p hp => by cases hp) ?_; rw [Tryz.ntmps21]; let tb := ord_21; let lv := live_21
  (have fa := zT; (repeat' first | refine zS (says_rCheck s) ?_ | refine zS (CE) ?_ | refine zS (CK) ?_ | refine zQ ?_ | (refine zN ?_; intro K hC hK) | ((repeat clear hJo hJU hJC Jo JU JC); (repeat (fail_if_success (refine hK _ ?_)); clear hK hC K); refine hK _ ?_; clear hK hC K) | (refine zC ?_ ?_ <;> intro hb) | (refine zK ?_; intro Jo JU JC hJo hJU hJC)) <;> (try clear fa))
  all_goals (refine AW_ret ?_; refine zU ?_; refine ⟨_, .rfl', .inr rfl, ?_, [], 2, finOk_nil, ?_⟩ <;> (have fa := zT; first | exact zE0 | (refine zE ?_; try clear fa)); try (rw [hU]; by_cases w : wrongF s f <;> simp only [w, if_true, if_false] <;> rw [hW] at w <;> ((repeat' split) <;> first | rfl | (exfalso; omega) | (simp_all; done) | (simp_all; omega))))
 ·refine acall_ofW (nx := 0) (ne := 0) tysGood (DD_ok tysGood mixed _) Tryz.func21 (by rfl) (by rfl) (by simp [Tryz.ntmps21]) (fun p hp => by cases hp) ?_; rw [Tryz.ntmps21]; let tb := ord_21; let lv := live_21
  (have fa := zT; (repeat' first | refine zS (says_rCheck s) ?_ | refine zQ ?_ | (refine zN ?_; intro K hC hK) | ((repeat clear hJo hJU hJC Jo JU JC); (repeat (fail_if_success (refine hK _ ?_)); clear hK hC K); refine hK _ ?_; clear hK hC K) | (refine zC ?_ ?_ <;> intro hb) | (refine zK ?_; intro Jo JU JC hJo hJU hJC)) <;> (try clear fa))
  refine AW_ret ?_; refine zU ?_; refine ⟨_, .rfl', .inr rfl, ?_, [], 2, finOk_nil, ?_⟩ <;> (have fa := zT; first | exact zE0 | (refine zE ?_; try clear fa))
  simp [formErr, c]
def fmsErr (s : TSet) : List Fm → Int
 | [] => 0
 | f :: l => if formErr s f ≠ 0 then formErr s f else fmsErr s l
def formsErr (s : TSet) (l : List Fm) : Int := if chkErr s ≠ 0 then chkErr s else if l.length = 0 then 6 else if 8 < l.length then 8 else fmsErr s l
theorem fmsErr_drop {s : TSet} {l : List Fm} {k : Nat} (h : k < l.length) : fmsErr s (l.drop k) = if formErr s l[k] ≠ 0 then formErr s l[k] else fmsErr s (l.drop (k + 1)) := by
 rw [List.drop_eq_getElem_cons h, fmsErr]
theorem says_CheckForms (s : TSet) (l : List Fm) (hf : ∀ f ∈ l, f.ks.length ≤ 1000000) (hl : l.length ≤ 1000000) (hs : s.su.length ≤ 1000000) : ASays Tryz.prog 22 [eSet s, eFms false l] (I (formsErr s l)) := by
 refine acall_ofW (nx := 0) (ne := 0) tysGood (DD_ok tysGood mixed _) Tryz.func22 (by rfl) (by rfl) (by simp [Tryz.ntmps22]) (fun p hp => by cases hp) ?_; rw [Tryz.ntmps22]; let tb := ord_22; let lv := live_22
 (have fa := zT; (repeat' first | refine zS (says_Check s) ?_ | refine zQ ?_ | (refine zN ?_; intro K hC hK) | ((repeat clear hJo hJU hJC Jo JU JC); (repeat (fail_if_success (refine hK _ ?_)); clear hK hC K); refine hK _ ?_; clear hK hC K) | (refine zC ?_ ?_ <;> intro hb) | (refine zK ?_; intro Jo JU JC hJo hJU hJC)) <;> (try clear fa))
 iterate 3
  ·refine AW_ret ?_; refine zU ?_; refine ⟨_, .rfl', .inr rfl, ?_, [], 2, finOk_nil, ?_⟩ <;> (have fa := zT; first | exact zE0 | (refine zE ?_; try clear fa))
   unfold formsErr; ((repeat' split) <;> first | rfl | (exfalso; omega) | (simp_all; done) | (simp_all; omega))
 ·have hc : chkErr s = 0 := by assumption
  have hU : formsErr s l = fmsErr s l := by unfold formsErr; rw [if_neg (by omega), if_neg (by omega), if_neg (by omega)]
  refine AW_forC l.length (fun k σ => fmsErr s l = fmsErr s (l.drop k) ∧ σ = ⟨900, [(2, .ref 0 0 0 0), (22, eFms false l), (23, I l.length), (24, I k)], [(0, .arr 0 9 [eSet s])]⟩) [(0, 0)] [(0, 0)] 0 [2, 22, 23, 24] 900 (finOk0 (by decide) (by decide)) (finOk0 (by decide) (by decide)) ⟨rfl, by (have fa := zT; exact zV)⟩ ?_
  rintro k σ' hk ⟨hR, rfl⟩ J hcJ hJ
  have hS := @fmsErr_drop s l k
  by_cases h : k < l.length
  ·have CF := says_CheckForm s l[k] (hf _ (List.getElem_mem h)) hs
   have hS := hS h
   (have fa := zT; (repeat' first | refine zS (CF) ?_ | refine zQ ?_ | (refine zN ?_; intro K hC hK) | ((repeat clear hJo hJU hJC Jo JU JC); (repeat (fail_if_success (refine hK _ ?_)); clear hK hC K); refine hK _ ?_; clear hK hC K) | (refine zC ?_ ?_ <;> intro hb) | (refine zK ?_; intro Jo JU JC hJo hJU hJC)) <;> (try clear fa))
   ·refine AW_ret ?_; refine zU ?_; refine ⟨_, .rfl', .inr rfl, ?_, [], 2, finOk_nil, ?_⟩ <;> (have fa := zT; first | exact zE0 | (refine zE ?_; try clear fa))
    rw [hU, hR, hS]; ((repeat' split) <;> first | rfl | (exfalso; omega) | (simp_all; done) | (simp_all; omega))
   ·refine hJ _ h ⟨?_, by (have fa := zT; exact zV)⟩
    rw [hR, hS]; ((repeat' split) <;> first | rfl | (exfalso; omega) | (simp_all; done) | (simp_all; omega))
  ·(have fa := zT; (repeat' first | refine zQ ?_ | (refine zN ?_; intro K hC hK) | ((repeat clear hJo hJU hJC Jo JU JC); (repeat (fail_if_success (refine hK _ ?_)); clear hK hC K); refine hK _ ?_; clear hK hC K) | (refine zC ?_ ?_ <;> intro hb) | (refine zK ?_; intro Jo JU JC hJo hJU hJC)) <;> (try clear fa))
   refine AW_ret ?_; refine zU ?_; refine ⟨_, .rfl', .inr rfl, ?_, [], 2, finOk_nil, ?_⟩ <;> (have fa := zT; first | exact zE0 | (refine zE ?_; try clear fa))
   rw [hU, hR, List.drop_eq_nil_of_le (by omega)]; rfl
end Go.Proofs.YthblfhgofopcaaaGreat
