/-
  Parts of the proof: Read1, Read2.
-/
import Derived.Test.YthblfhgofopcaaaGreatHA17
import Derived.Test.YthblfhgofopcaaaGreatHA33
import Derived.Test.YthblfhgofopcaaaGreatHA16
import Derived.Test.YthblfhgofopcaaaGreatHA30
import Derived.Test.YthblfhgofopcaaaGreatHA35
set_option linter.all false
namespace Go.Proofs.YthblfhgofopcaaaGreat
open Go.RowKit
set_option maxRecDepth 100000
set_option maxHeartbeats 2000000
def fairB (s : TSet) (l : List Fm) (h : Hd) : Bool := decide (formsErr s l = 0) && decide (handErr s h = 0)
theorem says_fair (s : TSet) (l : List Fm) (h : Hd) (hf : ∀ f ∈ l, f.ks.length ≤ 1000000) (hl : l.length ≤ 1000000) (hs : s.su.length ≤ 1000000) (h1 : h.me.length ≤ 1000000) (h2 : h.bag.length ≤ 1000000) : ASays Tryz.prog 87 [eSet s, eFms false l, eHd false h] (B (fairB s l h)) := by
 have CF := says_CheckForms s l hf hl hs
 have CH := says_CheckHand s h h1 h2
 by_cases c : formsErr s l = 0
 ·have e : (formsErr s l == 0) = true := by simp [c]
  rw [c] at CF
  have hU : fairB s l h = (handErr s h == 0) := by unfold fairB; simp [c]; rfl
  rw [hU]
  refine acall_ofW (nx := 0) (ne := 0) tysGood (DD_ok tysGood mixed _) Tryz.func87 (by rfl) (by rfl) (by simp [Tryz.ntmps87]) (fun p hp => by cases hp) ?_; rw [Tryz.ntmps87]; let tb := ord_87; let lv := live_87
  (have fa := zT; (repeat' first | refine zS (CF) ?_ | refine zS (CH) ?_ | refine zQ ?_ | (refine zN ?_; intro K hC hK) | ((repeat clear hJo hJU hJC Jo JU JC); (repeat (fail_if_success (refine hK _ ?_)); clear hK hC K); refine hK _ ?_; clear hK hC K) | (refine zC ?_ ?_ <;> intro hb) | (refine zK ?_; intro Jo JU JC hJo hJU hJC)) <;> (try clear fa))
  refine AW_ret ?_; refine zU ?_; refine ⟨_, .rfl', .inr rfl, ?_, [], 2, finOk_nil, ?_⟩ <;> (have fa := zT; first | exact zE0 | (refine zE ?_; try clear fa))
 ·have e : (formsErr s l == 0) = false := by simp [c]
  have hU : fairB s l h = false := by unfold fairB; simp [c]
  rw [hU]
  refine acall_ofW (nx := 0) (ne := 0) tysGood (DD_ok tysGood mixed _) Tryz.func87 (by rfl) (by rfl) (by simp [Tryz.ntmps87]) (fun p hp => by cases hp) ?_; rw [Tryz.ntmps87]; let tb := ord_87; let lv := live_87
  (have fa := e; (repeat' first | refine zS (CF) ?_ | refine zQ ?_ | (refine zN ?_; intro K hC hK) | ((repeat clear hJo hJU hJC Jo JU JC); (repeat (fail_if_success (refine hK _ ?_)); clear hK hC K); refine hK _ ?_; clear hK hC K) | (refine zC ?_ ?_ <;> intro hb) | (refine zK ?_; intro Jo JU JC hJo hJU hJC)) <;> (try clear fa))
  refine AW_ret ?_; refine zU ?_; refine ⟨_, .rfl', .inr rfl, ?_, [], 2, finOk_nil, ?_⟩ <;> (have fa := zT; first | exact zE0 | (refine zE ?_; try clear fa))
section
variable (s : TSet) (h : Hd) (A : Fm → List (List Gp))
theorem v_Wins1 (f : Fm) (hA : ASays Tryz.prog 88 [eSet s, eFm false f, eHd false h] (eLL false (A f))) : AObj Tryz.prog 99 [eFm false f, .ref 0 0 0 0, .ref 1 0 0 0] [(0, .arr 0 9 [eSet s]), (1, .arr 0 2 [eHd false h])] (B (decide (0 < (A f).length))) [(0, .arr 0 9 [eSet s]), (1, .arr 0 2 [eHd false h])] := by
 unfold AObj
 refine acall_ofW (nx := 64) (ne := 2) tysGood (DD_ok tysGood mixed _) Tryz.func99 (by rfl) (by rfl) (by simp [Tryz.ntmps99]) (by simp) ?_; rw [Tryz.ntmps99]; let tb := ord_99; let lv := live_99
 (have fa := zT; (repeat' first | refine zS (hA) ?_ | refine zQ ?_ | (refine zN ?_; intro K hC hK) | ((repeat clear hJo hJU hJC Jo JU JC); (repeat (fail_if_success (refine hK _ ?_)); clear hK hC K); refine hK _ ?_; clear hK hC K) | (refine zC ?_ ?_ <;> intro hb) | (refine zK ?_; intro Jo JU JC hJo hJU hJC)) <;> (try clear fa))
 refine AW_ret ?_; refine zU ?_; refine ⟨_, .rfl', .inr rfl, ?_, [(0, 0), (1, 1)], 2, ⟨by decide, by decide, by decide⟩, ?_⟩ <;> (have fa := zT; first | exact zE0 | (refine zE ?_; try clear fa))
 simp [B]
def winsA (l : List Fm) : Bool := l.any fun f => decide (0 < (A f).length)
theorem v_IndexA (l : List Fm) (hl : l.length ≤ 1000000) (hA : ∀ f ∈ l, ASays Tryz.prog 88 [eSet s, eFm false f, eHd false h] (eLL false (A f))) : AEx Tryz.prog 150 [eFms false l, .clo 99 [.ref 0 0 0 0, .ref 1 0 0 0]] [(0, .arr 0 9 [eSet s]), (1, .arr 0 2 [eHd false h])] (fun k : Int => I k) (fun _ => [(0, .arr 0 9 [eSet s]), (1, .arr 0 2 [eHd false h])]) (fun k => decide (0 ≤ k) = winsA A l) := by
 unfold AEx
 refine acall_ofW (nx := 64) (ne := 2) tysGood (DD_ok tysGood mixed _) Tryz.func150 (by rfl) (by rfl) (by simp [Tryz.ntmps150]) (by simp) ?_; rw [Tryz.ntmps150]; let tb := ord_150; let lv := live_150
 (have fa := zT; (repeat' first | refine zQ ?_ | (refine zN ?_; intro K hC hK) | ((repeat clear hJo hJU hJC Jo JU JC); (repeat (fail_if_success (refine hK _ ?_)); clear hK hC K); refine hK _ ?_; clear hK hC K) | (refine zC ?_ ?_ <;> intro hb) | (refine zK ?_; intro Jo JU JC hJo hJU hJC)) <;> (try clear fa))
 refine AW_forC l.length (fun j σ => (∀ i, (hi : i < l.length) → i < j → (A l[i]).length = 0) ∧ σ = ⟨900, [(0, eFms false l), (1, .clo 99 [.ref 0 0 0 0, .ref 1 0 0 0]), (7, I l.length), (8, I j)], [(0, .arr 0 9 [eSet s]), (1, .arr 0 2 [eHd false h])]⟩) [(0, 0), (1, 1)] [(0, 0), (1, 1)] 0 [0, 1, 7, 8] 900 (⟨by decide, by decide, by decide⟩) (⟨by decide, by decide, by decide⟩) ⟨fun i _ hi => absurd hi (Nat.not_lt_zero i), by (have fa := zT; exact zV)⟩ ?_
 rintro j σ' hj ⟨hR, rfl⟩ J hcJ hJ
 by_cases hlt : j < l.length
 ·obtain ⟨f, hfj⟩ : ∃ f, l[j] = f := ⟨_, rfl⟩
  have C1 := v_Wins1 s h A f (hA f (by rw [← hfj]; exact List.getElem_mem hlt))
  by_cases hn : 0 < (A f).length
  ·rw [decide_eq_true hn] at C1
   (have fa := hfj; (repeat' first | refine zJ (tg [0, 1]) (C1) ?_ | refine zQ ?_ | (refine zN ?_; intro K hC hK) | ((repeat clear hJo hJU hJC Jo JU JC); (repeat (fail_if_success (refine hK _ ?_)); clear hK hC K); refine hK _ ?_; clear hK hC K) | (refine zC ?_ ?_ <;> intro hb) | (refine zK ?_; intro Jo JU JC hJo hJU hJC)) <;> (try clear fa))
   refine AW_ret ?_; refine zU ?_; refine ⟨_, .rfl', .inr rfl, ?_, [(0, 0), (1, 1)], 2, ⟨by decide, by decide, by decide⟩, ?_⟩ <;> (have fa := zT; first | exact zE0 | (refine zE ?_; try clear fa))
   refine ⟨(j : Int), ?_, rfl⟩
   rw [decide_eq_true (by omega)]
   unfold winsA
   exact (List.any_eq_true.2 ⟨f, by rw [← hfj]; exact List.getElem_mem hlt, by simpa using hn⟩).symm
  ·rw [decide_eq_false hn] at C1
   (have fa := hfj; (repeat' first | refine zJ (tg [0, 1]) (C1) ?_ | refine zQ ?_ | (refine zN ?_; intro K hC hK) | ((repeat clear hJo hJU hJC Jo JU JC); (repeat (fail_if_success (refine hK _ ?_)); clear hK hC K); refine hK _ ?_; clear hK hC K) | (refine zC ?_ ?_ <;> intro hb) | (refine zK ?_; intro Jo JU JC hJo hJU hJC)) <;> (try clear fa))
   refine hJ _ hlt ⟨fun i hi h2 => ?_, by (have fa := zT; exact zV)⟩
   by_cases e : i = j
   ·subst e; rw [hfj]; omega
   ·exact hR i hi (by omega)
 ·(have fa := zT; (repeat' first | refine zQ ?_ | (refine zN ?_; intro K hC hK) | ((repeat clear hJo hJU hJC Jo JU JC); (repeat (fail_if_success (refine hK _ ?_)); clear hK hC K); refine hK _ ?_; clear hK hC K) | (refine zC ?_ ?_ <;> intro hb) | (refine zK ?_; intro Jo JU JC hJo hJU hJC)) <;> (try clear fa))
  refine AW_ret ?_; refine zU ?_; refine ⟨_, .rfl', .inr rfl, ?_, [(0, 0), (1, 1)], 2, ⟨by decide, by decide, by decide⟩, ?_⟩ <;> (have fa := zT; first | exact zE0 | (refine zE ?_; try clear fa))
  refine ⟨-1, ?_, rfl⟩
  unfold winsA
  rw [decide_eq_false (by omega)]
  refine (List.any_eq_false.2 fun f hf => ?_).symm
  obtain ⟨i, hi, rfl⟩ := List.mem_iff_getElem.1 hf
  have := hR i hi (by omega)
  simp [this]
theorem v_ContA (l : List Fm) (hl : l.length ≤ 1000000) (hA : ∀ f ∈ l, ASays Tryz.prog 88 [eSet s, eFm false f, eHd false h] (eLL false (A f))) : AObj Tryz.prog 98 [eFms false l, .clo 99 [.ref 0 0 0 0, .ref 1 0 0 0]] [(0, .arr 0 9 [eSet s]), (1, .arr 0 2 [eHd false h])] (B (winsA A l)) [(0, .arr 0 9 [eSet s]), (1, .arr 0 2 [eHd false h])] := by
 have CI := v_IndexA s h A l hl hA
 unfold AObj
 refine acall_ofW (nx := 64) (ne := 2) tysGood (DD_ok tysGood mixed _) Tryz.func98 (by rfl) (by rfl) (by simp [Tryz.ntmps98]) (by simp) ?_; rw [Tryz.ntmps98]; let tb := ord_98; let lv := live_98
 (have fa := zT; (repeat' first | refine zQ ?_ | (refine zN ?_; intro K hC hK) | ((repeat clear hJo hJU hJC Jo JU JC); (repeat (fail_if_success (refine hK _ ?_)); clear hK hC K); refine hK _ ?_; clear hK hC K) | (refine zC ?_ ?_ <;> intro hb) | (refine zK ?_; intro Jo JU JC hJo hJU hJC)) <;> (try clear fa))
 (have fa := zT; refine zX (tg [0, 1]) (CI) ?_; clear hJo hJU hJC Jo JU JC; (try clear fa)); intro xr hxr
 (have fa := zT; (repeat' first | refine zQ ?_ | (refine zN ?_; intro K hC hK) | ((repeat clear hJo hJU hJC Jo JU JC); (repeat (fail_if_success (refine hK _ ?_)); clear hK hC K); refine hK _ ?_; clear hK hC K) | (refine zC ?_ ?_ <;> intro hb) | (refine zK ?_; intro Jo JU JC hJo hJU hJC)) <;> (try clear fa))
 refine AW_ret ?_; refine zU ?_; refine ⟨_, .rfl', .inr rfl, ?_, [(0, 0), (1, 1)], 2, ⟨by decide, by decide, by decide⟩, ?_⟩ <;> (have fa := zT; first | exact zE0 | (refine zE ?_; try clear fa))
 rw [← hxr]
def winsM (l : List Fm) : Bool := fairB s l h && fullB s h && winsA A l
theorem says_Wins (l : List Fm) (hf : ∀ f ∈ l, f.ks.length ≤ 1000000) (hl : l.length ≤ 1000000) (hs : s.su.length ≤ 1000000) (h1 : h.me.length ≤ 1000000) (h2 : h.bag.length ≤ 1000000) (hA : fairB s l h = true → fullB s h = true → ∀ f ∈ l, ASays Tryz.prog 88 [eSet s, eFm false f, eHd false h] (eLL false (A f))) : ASays Tryz.prog 33 [eSet s, eFms false l, eHd false h] (B (winsM s h A l)) := by
 have CF := says_fair s l h hf hl hs h1 h2
 have CU := says_Full s h h1 h2
 unfold winsM
 cases c : fairB s l h with
 | false =>
  rw [c] at CF
  refine acall_ofW (nx := 0) (ne := 0) tysGood (DD_ok tysGood mixed _) Tryz.func33 (by rfl) (by rfl) (by simp [Tryz.ntmps33]) (fun p hp => by cases hp) ?_; rw [Tryz.ntmps33]; let tb := ord_33; let lv := live_33
  (have fa := zT; (repeat' first | refine zS (CF) ?_ | refine zQ ?_ | (refine zN ?_; intro K hC hK) | ((repeat clear hJo hJU hJC Jo JU JC); (repeat (fail_if_success (refine hK _ ?_)); clear hK hC K); refine hK _ ?_; clear hK hC K) | (refine zC ?_ ?_ <;> intro hb) | (refine zK ?_; intro Jo JU JC hJo hJU hJC)) <;> (try clear fa))
  refine AW_ret ?_; refine zU ?_; refine ⟨_, .rfl', .inr rfl, ?_, [], 2, finOk_nil, ?_⟩ <;> (have fa := zT; first | exact zE0 | (refine zE ?_; try clear fa))
  rfl
 | true =>
  rw [c] at CF
  cases d : fullB s h with
  | false =>
   rw [d] at CU
   refine acall_ofW (nx := 0) (ne := 0) tysGood (DD_ok tysGood mixed _) Tryz.func33 (by rfl) (by rfl) (by simp [Tryz.ntmps33]) (fun p hp => by cases hp) ?_; rw [Tryz.ntmps33]; let tb := ord_33; let lv := live_33
   (have fa := zT; (repeat' first | refine zS (CF) ?_ | refine zS (CU) ?_ | refine zQ ?_ | (refine zN ?_; intro K hC hK) | ((repeat clear hJo hJU hJC Jo JU JC); (repeat (fail_if_success (refine hK _ ?_)); clear hK hC K); refine hK _ ?_; clear hK hC K) | (refine zC ?_ ?_ <;> intro hb) | (refine zK ?_; intro Jo JU JC hJo hJU hJC)) <;> (try clear fa))
   refine AW_ret ?_; refine zU ?_; refine ⟨_, .rfl', .inr rfl, ?_, [], 2, finOk_nil, ?_⟩ <;> (have fa := zT; first | exact zE0 | (refine zE ?_; try clear fa))
   rfl
  | true =>
   rw [d] at CU
   have CC := v_ContA s h A l hl (hA c d)
   refine acall_ofW (nx := 0) (ne := 0) tysGood (DD_ok tysGood mixed _) Tryz.func33 (by rfl) (by rfl) (by simp [Tryz.ntmps33]) (fun p hp => by cases hp) ?_; rw [Tryz.ntmps33]; let tb := ord_33; let lv := live_33
   (have fa := zT; (repeat' first | refine zS (CF) ?_ | refine zS (CU) ?_ | refine zJ (tg [0, 16]) (CC) ?_ | refine zQ ?_ | (refine zN ?_; intro K hC hK) | ((repeat clear hJo hJU hJC Jo JU JC); (repeat (fail_if_success (refine hK _ ?_)); clear hK hC K); refine hK _ ?_; clear hK hC K) | (refine zC ?_ ?_ <;> intro hb) | (refine zK ?_; intro Jo JU JC hJo hJU hJC)) <;> (try clear fa))
   refine AW_ret ?_; refine zU ?_; refine ⟨_, .rfl', .inr rfl, ?_, [], 2, finOk_nil, ?_⟩ <;> (have fa := zT; first | exact zE0 | (refine zE ?_; try clear fa))
   rfl
end
end Go.Proofs.YthblfhgofopcaaaGreat

namespace Go.Proofs.YthblfhgofopcaaaGreat
open Go.RowKit
set_option maxRecDepth 100000
set_option maxHeartbeats 2000000
def wtTo (W : Nat → Bool) : Nat → List Int
 | 0 => []
 | k + 1 => wtTo W k ++ if W k = true then [(k : Int)] else []
theorem wtTo_len (W : Nat → Bool) : ∀ k, (wtTo W k).length ≤ k
 | 0 => Nat.le_refl _
 | k + 1 => by
  have := wtTo_len W k
  rw [wtTo, List.length_append]; split <;> simp <;> omega
def waitsM (s : TSet) (h : Hd) (l : List Fm) (W : Nat → Bool) : List Int := if fairB s l h = true ∧ fullB s h = false then wtTo W h.bag.length else []
set_option maxHeartbeats 2000000 in
theorem says_Waits (s : TSet) (h : Hd) (l : List Fm) (W : Nat → Bool) (hf : ∀ f ∈ l, f.ks.length ≤ 1000000) (hl : l.length ≤ 1000000) (hs : s.su.length ≤ 1000000) (h1 : h.me.length ≤ 1000000) (h2 : h.bag.length ≤ 1000000)
  (hW : fairB s l h = true → ∀ k : Nat, k < h.bag.length → ASays Tryz.prog 33 [eSet s, eFms false l, eHd false ⟨inc1 h.bag k, h.me⟩] (B (W k))) : ASays Tryz.prog 36 [eSet s, eFms false l, eHd false h] (eInts true (waitsM s h l W)) := by
 have CF := says_fair s l h hf hl hs h1 h2
 have CU := says_Full s h h1 h2
 cases c : fairB s l h with
 | false =>
  have hU : waitsM s h l W = [] := by unfold waitsM; rw [if_neg (by simp [c])]
  rw [c] at CF
  rw [hU]
  refine asays_le ?_
  refine acall_ofW (nx := 0) (ne := 0) tysGood (DD_ok tysGood mixed _) Tryz.func36 (by rfl) (by rfl) (by simp [Tryz.ntmps36]) (fun p hp => by cases hp) ?_; rw [Tryz.ntmps36]; let tb := ord_36; let lv := live_36
  (have fa := zT; (repeat' first | refine zS (CF) ?_ | refine zQ ?_ | (refine zN ?_; intro K hC hK) | ((repeat clear hJo hJU hJC Jo JU JC); (repeat (fail_if_success (refine hK _ ?_)); clear hK hC K); refine hK _ ?_; clear hK hC K) | (refine zC ?_ ?_ <;> intro hb) | (refine zK ?_; intro Jo JU JC hJo hJU hJC)) <;> (try clear fa))
  refine AW_ret ?_; refine zU ?_; refine ⟨_, .rfl', .inr rfl, ?_, [], 2, finOk_nil, ?_⟩ <;> (have fa := zT; first | exact zE0 | (refine zE ?_; try clear fa))
  exact LeV.nil _ _
 | true =>
  rw [c] at CF
  cases d : fullB s h with
  | true =>
   have hU : waitsM s h l W = [] := by unfold waitsM; rw [if_neg (by simp [d])]
   rw [d] at CU
   rw [hU]
   refine asays_le ?_
   refine acall_ofW (nx := 0) (ne := 0) tysGood (DD_ok tysGood mixed _) Tryz.func36 (by rfl) (by rfl) (by simp [Tryz.ntmps36]) (fun p hp => by cases hp) ?_; rw [Tryz.ntmps36]; let tb := ord_36; let lv := live_36
   (have fa := zT; (repeat' first | refine zS (CF) ?_ | refine zS (CU) ?_ | refine zQ ?_ | (refine zN ?_; intro K hC hK) | ((repeat clear hJo hJU hJC Jo JU JC); (repeat (fail_if_success (refine hK _ ?_)); clear hK hC K); refine hK _ ?_; clear hK hC K) | (refine zC ?_ ?_ <;> intro hb) | (refine zK ?_; intro Jo JU JC hJo hJU hJC)) <;> (try clear fa))
   refine AW_ret ?_; refine zU ?_; refine ⟨_, .rfl', .inr rfl, ?_, [], 2, finOk_nil, ?_⟩ <;> (have fa := zT; first | exact zE0 | (refine zE ?_; try clear fa))
   exact LeV.nil _ _
  | false =>
   have hU : waitsM s h l W = wtTo W h.bag.length := by unfold waitsM; rw [if_pos ⟨c, d⟩]
   replace hW := hW c
   have hh : handErr s h = 0 := by unfold fairB at c; simp at c; exact c.2
   have ho := hand_ok hh
   have hK : kindsI s = (h.bag.length : Int) := by have := ho.ln; omega
   have CK := says_Kinds s
   rw [hK] at CK
   have CC := own_Copy h h2 h1
   rw [d] at CU
   rw [hU]
   have V := valid_of ho.va
   have hco := V.co
   have hrg := ho.rg
   have hpl := kinds_le ho.va
   clear c d hU hh ho V
   obtain ⟨bag, me⟩ := h
   dsimp only at *
   refine acall_ofW (nx := 0) (ne := 0) tysGood (DD_ok tysGood mixed _) Tryz.func36 (by rfl) (by rfl) (by simp [Tryz.ntmps36]) (fun p hp => by cases hp) ?_; rw [Tryz.ntmps36]; let tb := ord_36; let lv := live_36
   (have fa := zT; (repeat' first | refine zS (CF) ?_ | refine zS (CU) ?_ | refine zS (CK) ?_ | refine zQ ?_ | (refine zN ?_; intro K hC hK) | ((repeat clear hJo hJU hJC Jo JU JC); (repeat (fail_if_success (refine hK _ ?_)); clear hK hC K); refine hK _ ?_; clear hK hC K) | (refine zC ?_ ?_ <;> intro hb) | (refine zK ?_; intro Jo JU JC hJo hJU hJC)) <;> (try clear fa))
   refine AW_loopGV (wk_virtT 7 500 0 1 (by rfl) (by rfl)) (α := Nat × Nat) (fun a => [(1, eFms false l), (3, .ref 0 0 0 0), (5, .ref 1 0 0 0), (7, .rsl 2 a.2 0 (wtTo W a.1).length), (21, I bag.length), (22, I a.1)]) (fun a => [(0, .arr 0 9 [eSet s]), (1, .arr 0 2 [eHd false ⟨bag, me⟩]), (2, .arr a.2 1 ((wtTo W a.1).map I))])
    (fun a => bag.length - a.1) (fun a => a.1 ≤ bag.length) [(0, 0), (16, 1), (500, 2)] [(0, 0), (1, 1), (2, 2)] 0 [1, 3, 5, 7, 21, 22] 900 (finOk0 (by decide) (by decide)) (finOk0 (by decide) (by decide)) (0, 0) (Nat.zero_le _) (by (have fa := (And.intro @virtT.eq_1 (And.intro (And.intro @upd.eq_1 @upd.eq_2) (And.intro @wtTo.eq_1 @wtTo.eq_2))); exact zSF)) ?_
   rintro ⟨k, g⟩ hk J hcJ hJ
   dsimp only at hk hJ ⊢
   have hln := wtTo_len W k
   by_cases hlt : k < bag.length
   ·obtain ⟨z, hz⟩ : ∃ z, bag[k] = z := ⟨_, rfl⟩
    have hzb := hrg z (by rw [← hz]; exact List.getElem_mem hlt)
    have CW := hW k hlt
    have hinc : (bag.map I).set k (I (z + 1)) = (inc1 bag k).map I := by unfold inc1; rw [List.map_set]; simp [hlt, hz]
    have hil := inc1_len bag (k : Int)
    have hws : wtTo W (k + 1) = wtTo W k ++ if W k = true then [(k : Int)] else [] := rfl
    obtain ⟨Y, hY⟩ : ∃ Y, inc1 bag k = Y := ⟨_, rfl⟩
    rw [hY] at hinc hil CW
    have hTY : Y.take bag.length = Y := List.take_of_length_le (by omega)
    have hTY2 : bag.length ≤ Y.length := by omega
    have hTm : me.take me.length = me := List.take_length
    obtain ⟨L, hL⟩ : ∃ L, wtTo W k = L := ⟨_, rfl⟩
    rw [hL] at hln hws ⊢
    have hTL : L.take L.length = L := List.take_length
    cases w : W k with
    | true =>
     rw [w] at CW
     rw [w, if_pos rfl] at hws
     (have fa := (And.intro hz (And.intro hinc (And.intro hTY (And.intro hTY2 (And.intro hTm hTL))))); (repeat' first | refine zO (CC) ?_ | refine zS (CW) ?_ | refine zQ ?_ | (refine zN ?_; intro K hC hK) | ((repeat clear hJo hJU hJC Jo JU JC); (repeat (fail_if_success (refine hK _ ?_)); clear hK hC K); refine hK _ ?_; clear hK hC K) | (refine zC ?_ ?_ <;> intro hb) | (refine zK ?_; intro Jo JU JC hJo hJU hJC)) <;> (try clear fa))
     exact hJ _ (k + 1, g + 1) (by dsimp only; omega) (by dsimp only; omega) (by (have fa := (And.intro hws @List.length_append.{0}); exact zSF))
    | false =>
     rw [w] at CW
     rw [w, if_neg (by simp), List.append_nil] at hws
     (have fa := (And.intro hz (And.intro hinc (And.intro hTY (And.intro hTY2 (And.intro hTm hTL))))); (repeat' first | refine zO (CC) ?_ | refine zS (CW) ?_ | refine zQ ?_ | (refine zN ?_; intro K hC hK) | ((repeat clear hJo hJU hJC Jo JU JC); (repeat (fail_if_success (refine hK _ ?_)); clear hK hC K); refine hK _ ?_; clear hK hC K) | (refine zC ?_ ?_ <;> intro hb) | (refine zK ?_; intro Jo JU JC hJo hJU hJC)) <;> (try clear fa))
     exact hJ _ (k + 1, g) (by dsimp only; omega) (by dsimp only; omega) (by (have fa := hws; exact zSF))
   ·obtain rfl : k = bag.length := by omega
    (have fa := zT; (repeat' first | refine zQ ?_ | (refine zN ?_; intro K hC hK) | ((repeat clear hJo hJU hJC Jo JU JC); (repeat (fail_if_success (refine hK _ ?_)); clear hK hC K); refine hK _ ?_; clear hK hC K) | (refine zC ?_ ?_ <;> intro hb) | (refine zK ?_; intro Jo JU JC hJo hJU hJC)) <;> (try clear fa))
    refine AW_ret ?_; refine zU ?_; refine ⟨_, .rfl', .inr rfl, ?_, [], 2, finOk_nil, ?_⟩ <;> (have fa := zT; first | exact zE0 | (refine zE ?_; try clear fa))
end Go.Proofs.YthblfhgofopcaaaGreat
