/-
  Parts of the proof: KitW, KitH, FmL, KitS.
-/
import Derived.Test.YthblfhgofopcaaaGreatHA17
import Derived.Test.YthblfhgofopcaaaGreatHA44
import Derived.Test.YthblfhgofopcaaaGreatHA46
import Derived.Test.YthblfhgofopcaaaGreatHA48
import Derived.Test.YthblfhgofopcaaaGreatHA16
import Derived.Test.YthblfhgofopcaaaGreatHA43
set_option linter.all false
namespace Go.Proofs.YthblfhgofopcaaaGreat
open Go.RowKit
set_option maxRecDepth 100000
set_option maxHeartbeats 2000000
theorem v_Without (x : Int) (h : Hd) (hl : h.bag.length ≤ 1000) (hm : h.me.length ≤ 1000) (hz : ∀ z ∈ h.bag, 0 ≤ z ∧ z ≤ 1000) (hs : 1 ≤ h.bag.sum) : AEx Tryz.prog 32 [.ref 0 0 0 0, eHd false h] (srcH x) (fun _ : Nat × Int => .agg [.rsl 1 1 0 h.bag.length, eGps true h.me]) (fun a => [(0, .arr 0 1 [U a.2]), (1, .arr 1 1 ((h.bag.set a.1 (h.bag.getD a.1 0 - 1)).map I))]) (fun a => a.1 < h.bag.length ∧ 1 ≤ h.bag.getD a.1 0) := by
 have CC := own_rCopy h (by omega) (by omega)
 have CT := says_kTotal h.bag (by omega)
 have hw : sumW h.bag = h.bag.sum := sumW_eq (m := 1000) (fun z hz' => by have := hz z hz'; omega) (by omega) (by omega)
 rw [hw] at CT
 have hsb : h.bag.sum ≤ 1000000 := by
  have := sum_le_len (c := 1000) (fun z hz' => (hz z hz').2)
  have : (h.bag.length : Int) * 1000 ≤ 1000 * 1000 := by omega
  omega
 have hst := fun (i : Nat) => sum_take_le h.bag i (fun z hz' => (hz z hz').1)
 obtain ⟨S, hS⟩ : ∃ S, h.bag.sum = S := ⟨_, rfl⟩
 rw [hS] at CT hs hsb hst
 have b1 := belX_rg (x := x) (n := S) (by omega) (by omega)
 have CB := v_Below x S (by omega)
 unfold AEx srcH
 refine acall_le ?_
 refine acall_ofW (nx := 64) (ne := 1) tysGood (DD_ok tysGood mixed _) Tryz.func32 (by rfl) (by rfl) (by simp [Tryz.ntmps32]) (by simp) ?_; rw [Tryz.ntmps32]; let tb := ord_32; let lv := live_32
 (have fa := @srcH.eq_1; (repeat' first | refine zO (CC) ?_ | refine zS (CT) ?_ | refine zJ (tg [0]) (CB) ?_ | refine zQ ?_ | (refine zN ?_; intro K hC hK) | ((repeat clear hJo hJU hJC Jo JU JC); (repeat (fail_if_success (refine hK _ ?_)); clear hK hC K); refine hK _ ?_; clear hK hC K) | (refine zC ?_ ?_ <;> intro hb) | (refine zK ?_; intro Jo JU JC hJo hJU hJC)) <;> (try clear fa))
 obtain ⟨x1, hx1⟩ : ∃ x1, nextX x = x1 := ⟨_, rfl⟩
 obtain ⟨a0, ha0⟩ : ∃ a0, belX x S = a0 := ⟨_, rfl⟩
 rw [ha0] at b1
 rw [hx1, ha0]
 refine AW_loopG (α := Nat × Int) (fun a => [(4, .ref 1 0 0 0), (5, .ref 2 0 0 0), (6, I a.2), (7, I a.1)]) (fun a => [(0, .arr 0 1 [U x1]), (1, .arr 0 2 [.agg [nilA, nilA]]), (2, .arr 0 2 [.agg [.rsl 3 1 0 h.bag.length, .rsl 4 1 0 h.me.length]]), (3, .arr 1 1 (h.bag.map I)), (4, .arr 1 3 (h.me.map eGp))])
  (fun a => h.bag.length - a.1) (fun a => a.1 ≤ h.bag.length ∧ a.2 = a0 - (h.bag.take a.1).sum ∧ 0 ≤ a.2) [(0, 0), (80, 1), (128, 2), (112, 3), (113, 4)] [(0, 0), (1, 1), (2, 2), (3, 3), (4, 4)] 0 [4, 5, 6, 7] 900 (⟨by decide, by decide, by decide⟩) (⟨by decide, by decide, by decide⟩) (0, a0) ⟨by dsimp only; omega, by simp, by dsimp only; omega⟩ (by (have fa := zT; exact zSF)) ?_
 rintro ⟨k, a⟩ ⟨k1, k2, k3⟩ J hcJ hJ
 dsimp only at k1 k2 k3 hJ ⊢
 by_cases hk : k < h.bag.length
 ·obtain ⟨z, hzz⟩ : ∃ z, h.bag[k] = z := ⟨_, rfl⟩
  have hzb := hz z (by rw [← hzz]; exact List.getElem_mem hk)
  have hg : h.bag.getD k 0 = z := by simp [hk, hzz]
  have hts := sum_take_succ h.bag hk
  rw [hzz] at hts
  have hs0 : 0 ≤ (h.bag.take k).sum := sum_nonneg' fun y hy => (hz y (List.mem_of_mem_take hy)).1
  by_cases ha : a < z
  ·have hse : (h.bag.map I).set k (I (z - 1)) = (h.bag.set k (z - 1)).map I := (List.map_set ..).symm
   (have fa := (And.intro hzz hse); (repeat' first | refine zQ ?_ | (refine zN ?_; intro K hC hK) | ((repeat clear hJo hJU hJC Jo JU JC); (repeat (fail_if_success (refine hK _ ?_)); clear hK hC K); refine hK _ ?_; clear hK hC K) | (refine zC ?_ ?_ <;> intro hb) | (refine zK ?_; intro Jo JU JC hJo hJU hJC)) <;> (try clear fa))
   refine AW_ret ?_; refine zU ?_; refine ⟨_, .rfl', .inr rfl, ?_, [(0, 0), (3, 1)], 2, ⟨by decide, by decide, by decide⟩, ?_⟩ <;> (have fa := zT; first | exact zE0 | (refine zE ?_; try clear fa))
   refine ⟨.agg [.rsl 1 1 0 h.bag.length, eGps true h.me], ?_, (k, x1), ⟨hk, by dsimp only; omega⟩, rfl, ?_⟩
   ·refine LeV.agg ?_; (repeat first | exact LeL.nil | (refine LeL.cons ?_ ?_; (· (first | exact LeV.nil _ _ | exact LeV.rfl' | exact LeV.eq rfl | exact LeV.sl _ _ _ | (simpa only [AV.low, lowL, lowL_eGps, lowL_I, lowL_eGp, lowL_eGps] using LeV.low _)))))
   ·rw [hg]
  ·(have fa := hzz; (repeat' first | refine zQ ?_ | (refine zN ?_; intro K hC hK) | ((repeat clear hJo hJU hJC Jo JU JC); (repeat (fail_if_success (refine hK _ ?_)); clear hK hC K); refine hK _ ?_; clear hK hC K) | (refine zC ?_ ?_ <;> intro hb) | (refine zK ?_; intro Jo JU JC hJo hJU hJC)) <;> (try clear fa))
   refine hJ _ (k + 1, a - z) (by dsimp only; omega) ⟨by dsimp only; omega, by dsimp only; omega, by dsimp only; omega⟩ (by (have fa := zT; exact zSF))
 ·have hT : h.bag.take k = h.bag := List.take_of_length_le (by omega)
  rw [hT, hS] at k2
  omega
end Go.Proofs.YthblfhgofopcaaaGreat

namespace Go.Proofs.YthblfhgofopcaaaGreat
open Go.RowKit
set_option maxRecDepth 100000
set_option maxHeartbeats 2000000
structure HR where
 ms : List Gp
 X : List Int
 g : Nat
 x : Int
structure HRok (s : TSet) (P : Nat) (a : HR) : Prop where
 xl : a.X.length = P
 full : fullB s ⟨a.X, a.ms⟩ = true
set_option maxHeartbeats 8000000 in
theorem v_HandOf (x : Int) (s : TSet) (hM : MadeS s) (fs : List Fm) (hf : ∀ f ∈ fs, formErr s f = 0 ∧ f.ks.length ≤ 1000) (h1 : 1 ≤ fs.length) (h3 : fs.length ≤ 3) : AEx Tryz.prog 85 [.ref 0 0 0 0, eSet s, eFms false fs] (srcH x) (fun a : HR => .agg [.rsl 1 a.g 0 (plainI s).toNat, eGps false a.ms]) (fun a => [(0, .arr 0 1 [U a.x]), (1, .arr a.g 1 (a.X.map I))]) (HRok s (plainI s).toNat) := by
 have hv := hM.ok
 obtain ⟨p1, p2, p3, p4⟩ := plain_kinds hv
 have V := valid_of hv
 have hme := V.me
 have hco := V.co
 have CP := says_Plain s (by have := V.su3; omega)
 rw [p1] at CP
 have b0 := belX_rg (x := x) (n := fs.length) (by omega) (by omega)
 have CB := v_Below x fs.length (by omega)
 obtain ⟨k, hk⟩ : ∃ k, belX x fs.length = k := ⟨_, rfl⟩
 rw [hk] at b0
 have hkl : k.toNat < fs.length := by omega
 obtain ⟨f, hfk⟩ : ∃ f, fs[k.toNat] = f := ⟨_, rfl⟩
 have hff := hf f (by rw [← hfk]; exact List.getElem_mem hkl)
 have CW := v_won (nextX x) s hM f hff.1 hff.2
 have CBu := fun x' => v_Built x' s hM
 have CFi := fun x' h Mo hl hF => v_Filled x' s hM h Mo hl hF
 obtain ⟨P, hP⟩ : ∃ P : Nat, plainI s = (P : Int) := ⟨(plainI s).toNat, by omega⟩
 rw [hP] at CP p3 p4 CW CBu CFi ⊢
 simp only [Int.toNat_natCast] at CW CBu CFi ⊢
 clear V
 unfold AEx srcH
 refine acall_le ?_
 refine acall_ofW (nx := 64) (ne := 1) tysGood (DD_ok tysGood mixed _) Tryz.func85 (by rfl) (by rfl) (by simp [Tryz.ntmps85]) (by simp) ?_; rw [Tryz.ntmps85]; let tb := ord_85; let lv := live_85
 (have fa := (And.intro @srcH.eq_1 (And.intro hk (And.intro hfk @stepDE_cL))); (repeat' first | refine zJ (tg [0]) (CB) ?_ | refine zQ ?_ | (refine zN ?_; intro K hC hK) | ((repeat clear hJo hJU hJC Jo JU JC); (repeat (fail_if_success (refine hK _ ?_)); clear hK hC K); refine hK _ ?_; clear hK hC K) | (refine zC ?_ ?_ <;> intro hb) | (refine zK ?_; intro Jo JU JC hJo hJU hJC)) <;> (try clear fa))
 (have fa := @srcH.eq_1; refine zXD (tg [0]) (CW) ?_; clear hJo hJU hJC Jo JU JC; (try clear fa)); intro xr hxr
 have hXl := hxr.xl
 have hXy := hxr.yes
 obtain ⟨ms, X, ok, y⟩ := xr
 dsimp only at hXl hXy ⊢
 clear hxr
 have hTX : X.take P = X := List.take_of_length_le (by omega)
 have hTX2 : P ≤ X.length := by omega
 by_cases hg : ok = true ∧ ¬ belX y 6 = 0
 ·obtain ⟨rfl, h6⟩ := hg
  have hfu := hXy rfl
  have ho : HandOk s ⟨X, ms⟩ := hand_ok (by unfold fullB at hfu; simp at hfu; exact hfu.1)
  have hrg := ho.rg
  have hmm := ho.mm
  have hlo := ho.lo
  dsimp only at hrg hmm hlo
  have CWo := v_Without (nextX (nextX y)) ⟨X, ms⟩ (by dsimp only; omega) (by dsimp only; omega) (fun z hz => by have := hrg z hz; omega) (by dsimp only; omega)
  by_cases h3 : belX (nextX y) 3 = 0
  ·(have fa := (And.intro @srcH.eq_1 (And.intro hTX (And.intro hTX2 @stepDE_cL))); (repeat' first | refine zJ (tg [0]) (v_Odds y 6 (by omega)) ?_ | refine zJ (tg [0]) (v_Odds (nextX y) 3 (by omega)) ?_ | refine zQ ?_ | (refine zN ?_; intro K hC hK) | ((repeat clear hJo hJU hJC Jo JU JC); (repeat (fail_if_success (refine hK _ ?_)); clear hK hC K); refine hK _ ?_; clear hK hC K) | (refine zC ?_ ?_ <;> intro hb) | (refine zK ?_; intro Jo JU JC hJo hJU hJC)) <;> (try clear fa))
   (have fa := (And.intro @srcH.eq_1 (And.intro hTX hTX2)); refine zXT (tg [0]) (CWo) ?_; clear hJo hJU hJC Jo JU JC; (try clear fa)); intro xr hxr
   obtain ⟨q1, q2⟩ := hxr
   obtain ⟨i, y3⟩ := xr
   dsimp only at q1 q2 ⊢
   have hz4 := hrg (X.getD i 0) (by rw [List.getD_eq_getElem?_getD, List.getElem?_eq_getElem (by omega)]; exact List.getElem_mem _)
   obtain ⟨X1, hX1⟩ : ∃ X1, X.set i (X.getD i 0 - 1) = X1 := ⟨_, rfl⟩
   have hX1l : X1.length = P := by rw [← hX1, List.length_set]; omega
   have hX1b : ∀ j : Nat, -1000000000 ≤ X1.getD j 0 ∧ X1.getD j 0 ≤ 1000000000 := fun j => by
    by_cases hj : j < X1.length
    ·have hm : X1.getD j 0 ∈ X1 := by rw [List.getD_eq_getElem?_getD, List.getElem?_eq_getElem hj]; exact List.getElem_mem _
     rw [← hX1] at hm
     rcases List.mem_or_eq_of_mem_set hm with h | h
     ·have := hrg _ h; rw [← hX1]; omega
     ·rw [← hX1]; omega
    ·rw [List.getD_eq_getElem?_getD, List.getElem?_eq_none (by omega)]; simp
   rw [hX1]
   have bb := belX_rg (x := y3) (n := P) (by omega) (by omega)
   have CB2 := v_Below y3 P (by omega)
   obtain ⟨k2, hk2⟩ : ∃ k2, belX y3 P = k2 := ⟨_, rfl⟩
   rw [hk2] at bb
   have A := incAt (X := X1) (z := k2) bb.1 (by omega) hX1b
   have a1 := A.lt
   have a2 := A.up
   have a3 := A.st
   have hX2l := inc1_len X1 k2
   obtain ⟨X2, hX2⟩ : ∃ X2, inc1 X1 k2 = X2 := ⟨_, rfl⟩
   rw [hX2] at a3 hX2l
   have hT2 : X2.take X.length = X2 := List.take_of_length_le (by omega)
   have hT3 : X.length ≤ X2.length := by omega
   have CFu := says_rFull s ⟨X2, ms⟩ (by dsimp only; omega) (by dsimp only; omega)
   rw [hXl]
   rw [hXl] at hT2 hT3
   cases hfu2 : fullB s ⟨X2, ms⟩ with
   | true =>
    rw [hfu2] at CFu
    (have fa := (And.intro @srcH.eq_1 (And.intro hk2 (And.intro a2 (And.intro a3 (And.intro hT2 hT3))))); (repeat' first | refine zS (CP) ?_ | refine zJ (tg [0]) (CB2) ?_ | refine zS (CFu) ?_ | refine zQ ?_ | (refine zN ?_; intro K hC hK) | ((repeat clear hJo hJU hJC Jo JU JC); (repeat (fail_if_success (refine hK _ ?_)); clear hK hC K); refine hK _ ?_; clear hK hC K) | (refine zC ?_ ?_ <;> intro hb) | (refine zK ?_; intro Jo JU JC hJo hJU hJC)) <;> (try clear fa))
    refine AW_ret ?_; refine zU ?_; refine ⟨_, .rfl', .inr rfl, ?_, [(0, 0), (1281, 1)], 2, ⟨by decide, by decide, by decide⟩, ?_⟩ <;> (have fa := zT; first | exact zE0 | (refine zE ?_; try clear fa))
    exact ⟨_, LeV.agg (by (repeat first | exact LeL.nil | (refine LeL.cons ?_ ?_; (· (first | exact LeV.nil _ _ | exact LeV.rfl' | exact LeV.eq rfl | exact LeV.sl _ _ _ | (simpa only [AV.low, lowL, lowL_eGps, lowL_I, lowL_eGp, lowL_eGps] using LeV.low _)))))), ⟨ms, X2, 1, nextX y3⟩, ⟨by dsimp only; omega, hfu2⟩, rfl, rfl⟩
   | false =>
    rw [hfu2] at CFu
    (have fa := (And.intro @srcH.eq_1 (And.intro hk2 (And.intro a2 (And.intro a3 (And.intro hT2 hT3))))); (repeat' first | refine zS (CP) ?_ | refine zJ (tg [0]) (CB2) ?_ | refine zS (CFu) ?_ | refine zQ ?_ | (refine zN ?_; intro K hC hK) | ((repeat clear hJo hJU hJC Jo JU JC); (repeat (fail_if_success (refine hK _ ?_)); clear hK hC K); refine hK _ ?_; clear hK hC K) | (refine zC ?_ ?_ <;> intro hb) | (refine zK ?_; intro Jo JU JC hJo hJU hJC)) <;> (try clear fa))
    refine AW_ret ?_; refine zU ?_; refine ⟨_, .rfl', .inr rfl, ?_, [(0, 0), (241, 1)], 2, ⟨by decide, by decide, by decide⟩, ?_⟩ <;> (have fa := zT; first | exact zE0 | (refine zE ?_; try clear fa))
    exact ⟨_, LeV.agg (by (repeat first | exact LeL.nil | (refine LeL.cons ?_ ?_; (· (first | exact LeV.nil _ _ | exact LeV.rfl' | exact LeV.eq rfl | exact LeV.sl _ _ _ | (simpa only [AV.low, lowL, lowL_eGps, lowL_I, lowL_eGp, lowL_eGps] using LeV.low _)))))), ⟨ms, X, 0, nextX y3⟩, ⟨hXl, hfu⟩, rfl, rfl⟩
  ·(have fa := (And.intro @srcH.eq_1 @stepDE_cL); (repeat' first | refine zJ (tg [0]) (v_Odds y 6 (by omega)) ?_ | refine zJ (tg [0]) (v_Odds (nextX y) 3 (by omega)) ?_ | refine zQ ?_ | (refine zN ?_; intro K hC hK) | ((repeat clear hJo hJU hJC Jo JU JC); (repeat (fail_if_success (refine hK _ ?_)); clear hK hC K); refine hK _ ?_; clear hK hC K) | (refine zC ?_ ?_ <;> intro hb) | (refine zK ?_; intro Jo JU JC hJo hJU hJC)) <;> (try clear fa))
   refine AW_ret ?_; refine zU ?_; refine ⟨_, .rfl', .inr rfl, ?_, [(0, 0), (241, 1)], 2, ⟨by decide, by decide, by decide⟩, ?_⟩ <;> (have fa := zT; first | exact zE0 | (refine zE ?_; try clear fa))
   exact ⟨_, LeV.agg (by (repeat first | exact LeL.nil | (refine LeL.cons ?_ ?_; (· (first | exact LeV.nil _ _ | exact LeV.rfl' | exact LeV.eq rfl | exact LeV.sl _ _ _ | (simpa only [AV.low, lowL, lowL_eGps, lowL_I, lowL_eGp, lowL_eGps] using LeV.low _)))))), ⟨ms, X, 0, nextX (nextX y)⟩, ⟨hXl, hfu⟩, rfl, rfl⟩
 ·cases ok with
  | false =>
   (have fa := zT; (repeat' first | refine zQ ?_ | (refine zN ?_; intro K hC hK) | ((repeat clear hJo hJU hJC Jo JU JC); (repeat (fail_if_success (refine hK _ ?_)); clear hK hC K); refine hK _ ?_; clear hK hC K) | (refine zC ?_ ?_ <;> intro hb) | (refine zK ?_; intro Jo JU JC hJo hJU hJC)) <;> (try clear fa))
   (have fa := @srcH.eq_1; refine zX (tg [0]) (CBu y) ?_; clear hJo hJU hJC Jo JU JC; (try clear fa)); intro xr hxr
   obtain ⟨Mo, Y2, F2⟩ := hxr.fi
   have hX2 := F2.xl
   have CF2 := CFi xr.x ⟨xr.X, xr.ms⟩ Mo (by dsimp only; omega) ⟨P, xr.X, Y2, rfl, F2⟩
   have hTZ : xr.X.take P = xr.X := List.take_of_length_le (by omega)
   have hTZ2 : P ≤ xr.X.length := by omega
   clear hxr
   obtain ⟨ms2, gl2, X2, ok2, y2⟩ := xr
   dsimp only at Mo F2 hX2 CF2 hTZ hTZ2 ⊢
   (have fa := (And.intro hTZ hTZ2); (repeat' first | refine zQ ?_ | (refine zN ?_; intro K hC hK) | ((repeat clear hJo hJU hJC Jo JU JC); (repeat (fail_if_success (refine hK _ ?_)); clear hK hC K); refine hK _ ?_; clear hK hC K) | (refine zC ?_ ?_ <;> intro hb) | (refine zK ?_; intro Jo JU JC hJo hJU hJC)) <;> (try clear fa))
   (have fa := (And.intro @srcH.eq_1 (And.intro hTZ hTZ2)); refine zXT (tg [0]) (CF2) ?_; clear hJo hJU hJC Jo JU JC; (try clear fa)); intro xr hxr
   (have fa := zT; (repeat' first | refine zQ ?_ | (refine zN ?_; intro K hC hK) | ((repeat clear hJo hJU hJC Jo JU JC); (repeat (fail_if_success (refine hK _ ?_)); clear hK hC K); refine hK _ ?_; clear hK hC K) | (refine zC ?_ ?_ <;> intro hb) | (refine zK ?_; intro Jo JU JC hJo hJU hJC)) <;> (try clear fa))
   refine AW_ret ?_; refine zU ?_; refine ⟨_, .rfl', .inr rfl, ?_, [(0, 0), (1361, 1)], 2, ⟨by decide, by decide, by decide⟩, ?_⟩ <;> (have fa := zT; first | exact zE0 | (refine zE ?_; try clear fa))
   exact ⟨_, LeV.agg (by (repeat first | exact LeL.nil | (refine LeL.cons ?_ ?_; (· (first | exact LeV.nil _ _ | exact LeV.rfl' | exact LeV.eq rfl | exact LeV.sl _ _ _ | (simpa only [AV.low, lowL, lowL_eGps, lowL_I, lowL_eGp, lowL_eGps] using LeV.low _)))))), ⟨ms2, xr.1, 0, xr.2⟩, ⟨hxr.2, hxr.1⟩, rfl, rfl⟩
  | true =>
   have h6 : belX y 6 = 0 := by
    by_cases h6 : belX y 6 = 0
    ·exact h6
    ·exact absurd ⟨rfl, h6⟩ hg
   (have fa := (And.intro @srcH.eq_1 @stepDE_cL); (repeat' first | refine zJ (tg [0]) (v_Odds y 6 (by omega)) ?_ | refine zQ ?_ | (refine zN ?_; intro K hC hK) | ((repeat clear hJo hJU hJC Jo JU JC); (repeat (fail_if_success (refine hK _ ?_)); clear hK hC K); refine hK _ ?_; clear hK hC K) | (refine zC ?_ ?_ <;> intro hb) | (refine zK ?_; intro Jo JU JC hJo hJU hJC)) <;> (try clear fa))
   (have fa := @srcH.eq_1; refine zX (tg [0]) (CBu (nextX y)) ?_; clear hJo hJU hJC Jo JU JC; (try clear fa)); intro xr hxr
   obtain ⟨Mo, Y2, F2⟩ := hxr.fi
   have hX2 := F2.xl
   have CF2 := CFi xr.x ⟨xr.X, xr.ms⟩ Mo (by dsimp only; omega) ⟨P, xr.X, Y2, rfl, F2⟩
   have hTZ : xr.X.take P = xr.X := List.take_of_length_le (by omega)
   have hTZ2 : P ≤ xr.X.length := by omega
   clear hxr
   obtain ⟨ms2, gl2, X2, ok2, y2⟩ := xr
   dsimp only at Mo F2 hX2 CF2 hTZ hTZ2 ⊢
   (have fa := (And.intro hTZ hTZ2); (repeat' first | refine zQ ?_ | (refine zN ?_; intro K hC hK) | ((repeat clear hJo hJU hJC Jo JU JC); (repeat (fail_if_success (refine hK _ ?_)); clear hK hC K); refine hK _ ?_; clear hK hC K) | (refine zC ?_ ?_ <;> intro hb) | (refine zK ?_; intro Jo JU JC hJo hJU hJC)) <;> (try clear fa))
   (have fa := (And.intro @srcH.eq_1 (And.intro hTZ hTZ2)); refine zXT (tg [0]) (CF2) ?_; clear hJo hJU hJC Jo JU JC; (try clear fa)); intro xr hxr
   (have fa := zT; (repeat' first | refine zQ ?_ | (refine zN ?_; intro K hC hK) | ((repeat clear hJo hJU hJC Jo JU JC); (repeat (fail_if_success (refine hK _ ?_)); clear hK hC K); refine hK _ ?_; clear hK hC K) | (refine zC ?_ ?_ <;> intro hb) | (refine zK ?_; intro Jo JU JC hJo hJU hJC)) <;> (try clear fa))
   refine AW_ret ?_; refine zU ?_; refine ⟨_, .rfl', .inr rfl, ?_, [(0, 0), (1393, 1)], 2, ⟨by decide, by decide, by decide⟩, ?_⟩ <;> (have fa := zT; first | exact zE0 | (refine zE ?_; try clear fa))
   exact ⟨_, LeV.agg (by (repeat first | exact LeL.nil | (refine LeL.cons ?_ ?_; (· (first | exact LeV.nil _ _ | exact LeV.rfl' | exact LeV.eq rfl | exact LeV.sl _ _ _ | (simpa only [AV.low, lowL, lowL_eGps, lowL_I, lowL_eGp, lowL_eGps] using LeV.low _)))))), ⟨ms2, xr.1, 0, xr.2⟩, ⟨hxr.2, hxr.1⟩, rfl, rfl⟩
end Go.Proofs.YthblfhgofopcaaaGreat

namespace Go.Proofs.YthblfhgofopcaaaGreat
open Go.RowKit
set_option maxRecDepth 100000
set_option maxHeartbeats 2000000
theorem formErr_melds {s : TSet} (hv : chkErr s = 0) : formErr s ⟨1, [], false⟩ = 0 := by
 unfold formErr
 rw [if_neg (by simp [hv]), if_neg (by simp), if_neg (by unfold wrongF; simp)]
 rfl
@[go_sem] theorem one_Fm (f : Bool) (l : List Fm) : (∀ u ∈ l.map (eFm f), ∀ v ∈ u.cs, v.one = true) = True := one_map (fun x v hv => by simp [eFm, AV.cs] at hv; rcases hv with rfl | rfl | rfl <;> rfl) l
theorem fm_ins (l : List Fm) (m : Nat) (hm : m ≤ l.length) (i : Nat) (e e' : AV) (h : ((l.take m).map (eFm false) ++ [.agg [.v (.int .i64 1), .v (.slice none 0 0), .v (.bool false)]] ++ (l.drop m).map (eFm false))[i]? = some e) (h' : ((l.take m ++ ⟨1, [], false⟩ :: l.drop m).map (eFm false))[i]? = some e') : LeL e.cs e'.cs := by
 have refl : ∀ l : List AV, LeL l l := fun l => by
  induction l with
  | nil => exact .nil
  | cons x l ih => exact .cons .rfl' ih
 rw [List.append_assoc] at h
 rw [List.map_append, List.map_cons] at h'
 by_cases hi : i < m
 ·rw [List.getElem?_append_left (by simp; omega)] at h h'
  rw [h] at h'; injection h' with h'; subst h'; exact refl _
 ·rw [List.getElem?_append_right (by simp; omega)] at h h'
  generalize i - ((l.take m).map (eFm false)).length = j at h h'
  cases j with
  | zero =>
   simp at h h'; subst h h'
   exact .cons .rfl' (.cons (LeV.nil _ _) (.cons .rfl' .nil))
  | succ j =>
   simp at h h'
   obtain ⟨a, h1, h2⟩ := h
   obtain ⟨b, h3, h4⟩ := h'
   rw [h1] at h3; injection h3 with h3; subst h3; rw [h2] at h4; subst h4; exact refl _
set_option maxHeartbeats 2000000 in
theorem v_FormsOf (x : Int) (s : TSet) (hv : chkErr s = 0) : AEx Tryz.prog 43 [.ref 0 0 0 0, eSet s] (srcH x) (fun a : List Fm × Int => eFms false a.1) (fun a => srcH a.2) (fun a => (∀ f ∈ a.1, formErr s f = 0 ∧ f.ks.length ≤ 1000) ∧ 1 ≤ a.1.length ∧ a.1.length ≤ 3) := by
 have CF := fun x' => v_formOf x' s hv
 have hsl := (valid_of hv).su3
 unfold AEx srcH
 refine acall_le ?_
 have b1 := belX_rg (x := x) (n := 3) (by omega) (by omega)
 refine acall_ofW (nx := 64) (ne := 1) tysGood (DD_ok tysGood mixed _) Tryz.func43 (by rfl) (by rfl) (by simp [Tryz.ntmps43]) (by simp) ?_; rw [Tryz.ntmps43]; let tb := ord_43; let lv := live_43
 (have fa := @srcH.eq_1; (repeat' first | refine zJ (tg [0]) (v_Below _ 3 (by omega)) ?_ | refine zQ ?_ | (refine zN ?_; intro K hC hK) | ((repeat clear hJo hJU hJC Jo JU JC); (repeat (fail_if_success (refine hK _ ?_)); clear hK hC K); refine hK _ ?_; clear hK hC K) | (refine zC ?_ ?_ <;> intro hb) | (refine zK ?_; intro Jo JU JC hJo hJU hJC)) <;> (try clear fa))
 generalize belX x 3 = i0 at *
 refine AW_loopGV (wk_virtT 5 500 0 3 (by rfl) (by rfl)) (α := Int × List Fm × Nat × Int) (fun a => [(0, .ref 0 0 0 0), (3, .ref 2 0 0 0), (5, .rsl 1 a.2.2.1 0 a.2.1.length), (6, I a.1)]) (fun a => [(0, .arr 0 1 [U a.2.2.2]), (1, .arr a.2.2.1 3 (a.2.1.map (eFm false))), (2, .arr 0 9 [eSet s])])
  (fun a => a.1.toNat) (fun a => (0 ≤ a.1 ∧ a.1 ≤ 2) ∧ a.2.1.length + a.1 ≤ 2 ∧ ∀ f ∈ a.2.1, formErr s f = 0 ∧ f.ks.length ≤ 1000) [(0, 0), (500, 1), (64, 2)] [(0, 0), (1, 1), (2, 2)] 0 [0, 3, 5, 6] 900 (⟨by decide, by decide, by decide⟩) (⟨by decide, by decide, by decide⟩) (i0, [], 0, nextX x) ⟨by dsimp only; omega, by simp; omega, fun f hf => by cases hf⟩ (by (have fa := (And.intro @virtT.eq_1 (And.intro @upd.eq_1 @upd.eq_2)); exact zSF)) ?_
 rintro ⟨i, l, g, x'⟩ ⟨k1, k2, k3⟩ J hcJ hJ
 dsimp only at k1 k2 k3 hJ ⊢
 by_cases hi : 0 < i
 ·(have fa := zT; (repeat' first | refine zQ ?_ | (refine zN ?_; intro K hC hK) | ((repeat clear hJo hJU hJC Jo JU JC); (repeat (fail_if_success (refine hK _ ?_)); clear hK hC K); refine hK _ ?_; clear hK hC K) | (refine zC ?_ ?_ <;> intro hb) | (refine zK ?_; intro Jo JU JC hJo hJU hJC)) <;> (try clear fa))
  (have fa := @srcH.eq_1; refine zX (tg [0]) (CF _) ?_; clear hJo hJU hJC Jo JU JC; (try clear fa)); intro xr hxr
  have CC := says_rCheckForm s xr.1 (by omega) (by omega)
  by_cases he : formErr s xr.1 = 0
  ·(have fa := zT; (repeat' first | refine zS (CC) ?_ | refine zQ ?_ | (refine zN ?_; intro K hC hK) | ((repeat clear hJo hJU hJC Jo JU JC); (repeat (fail_if_success (refine hK _ ?_)); clear hK hC K); refine hK _ ?_; clear hK hC K) | (refine zC ?_ ?_ <;> intro hb) | (refine zK ?_; intro Jo JU JC hJo hJU hJC)) <;> (try clear fa))
   refine hJ _ (i - 1, l ++ [xr.1], g + 1, xr.2) (by dsimp only; omega) ⟨by dsimp only; omega, by simp; omega, fun f hf => ?_⟩ (by (have fa := @List.length_append.{0}; exact zSF))
   rcases List.mem_append.1 hf with hf | hf
   ·exact k3 f hf
   ·simp at hf; subst hf; exact ⟨he, hxr⟩
  ·(have fa := zT; (repeat' first | refine zS (CC) ?_ | refine zQ ?_ | (refine zN ?_; intro K hC hK) | ((repeat clear hJo hJU hJC Jo JU JC); (repeat (fail_if_success (refine hK _ ?_)); clear hK hC K); refine hK _ ?_; clear hK hC K) | (refine zC ?_ ?_ <;> intro hb) | (refine zK ?_; intro Jo JU JC hJo hJU hJC)) <;> (try clear fa))
   refine hJ _ (i - 1, l, g, xr.2) (by dsimp only; omega) ⟨by dsimp only; omega, by dsimp only; omega, k3⟩ (by (have fa := zT; exact zSF))
 ·by_cases h0 : l = []
  ·subst h0
   have b5 := belX_rg (x := x') (n := 1) (by omega) (by omega)
   have hm : belX x' 1 = ((0 : Nat) : Int) := by omega
   (have fa := (And.intro @srcH.eq_1 hm); (repeat' first | refine zJ (tg [0]) (v_Below x' 1 (by omega)) ?_ | refine zQ ?_ | (refine zN ?_; intro K hC hK) | ((repeat clear hJo hJU hJC Jo JU JC); (repeat (fail_if_success (refine hK _ ?_)); clear hK hC K); refine hK _ ?_; clear hK hC K) | (refine zC ?_ ?_ <;> intro hb) | (refine zK ?_; intro Jo JU JC hJo hJU hJC)) <;> (try clear fa))
   refine AW_ret ?_
   refine ⟨_, wk_obL (r := 1108) (es' := [eFm false ⟨1, [], false⟩]) (by rfl) (by rfl) (fm_ins [] 0 (Nat.le_refl _)), .inr rfl, ?_, [(0, 0)], 2, ⟨by decide, by decide, by decide⟩, ?_⟩ <;> (have fa := zT; first | exact zE0 | (refine zE ?_; try clear fa))
   refine ⟨_, LeV.sl _ _ _, ([⟨1, [], false⟩], _), ⟨fun f hf => ?_, by simp, by simp⟩, rfl, rfl⟩
   simp at hf; subst hf; exact ⟨formErr_melds hv, by simp⟩
  ·have hpos : 0 < l.length := List.length_pos_iff.2 h0
   have b4 := belX_rg (x := x') (n := 4) (by omega) (by omega)
   by_cases h4 : 0 < belX x' 4
   ·have CB := v_Below (nextX x') (l.length + 1) (by omega)
    have b5 := belX_rg (x := nextX x') (n := l.length + 1) (by omega) (by omega)
    obtain ⟨m, hm⟩ : ∃ m : Nat, belX (nextX x') (l.length + 1) = (m : Int) := ⟨(belX (nextX x') (l.length + 1)).toNat, by omega⟩
    have hml : m ≤ l.length := by omega
    have e13 : (((m : Nat) : Int) - 0).toNat = m := by omega
    have e14 : min m l.length = m := by omega
    have e16 : List.take m (List.take m l) = l.take m := by rw [List.take_take, Nat.min_self]
    have e18 : List.take (l.length - m) (List.drop m l) = l.drop m := List.take_of_length_le (by simp)
    have e19 : List.take (m + 1) ((l.take m).map (eFm false) ++ [AV.agg [.v (.int .i64 1), .v (.slice none 0 0), .v (.bool false)]]) = (l.take m).map (eFm false) ++ [AV.agg [.v (.int .i64 1), .v (.slice none 0 0), .v (.bool false)]] := List.take_of_length_le (by simp; omega)
    (have fa := (And.intro @srcH.eq_1 (And.intro hm (And.intro e13 (And.intro e14 (And.intro e16 (And.intro e18 (And.intro e19 Nat.min_self))))))); (repeat' first | refine zJ (tg [0]) (v_Below x' 4 (by omega)) ?_ | refine zJ (tg [0]) (CB) ?_ | refine zQ ?_ | (refine zN ?_; intro K hC hK) | ((repeat clear hJo hJU hJC Jo JU JC); (repeat (fail_if_success (refine hK _ ?_)); clear hK hC K); refine hK _ ?_; clear hK hC K) | (refine zC ?_ ?_ <;> intro hb) | (refine zK ?_; intro Jo JU JC hJo hJU hJC)) <;> (try clear fa))
    have hlen : (l.take m ++ (⟨1, [], false⟩ : Fm) :: l.drop m).length = m + 1 + (l.length - m) := by simp; omega
    have hal : ∀ f ∈ l.take m ++ (⟨1, [], false⟩ : Fm) :: l.drop m, formErr s f = 0 ∧ f.ks.length ≤ 1000 := fun f hf => by
     rcases List.mem_append.1 hf with hf | hf
     ·exact k3 f (List.mem_of_mem_take hf)
     ·rcases List.mem_cons.1 hf with rfl | hf
      ·exact ⟨formErr_melds hv, by simp⟩
      ·exact k3 f (List.mem_of_mem_drop hf)
    have fi := fm_ins l m hml
    obtain ⟨L, hL⟩ : ∃ L, l.take m ++ (⟨1, [], false⟩ : Fm) :: l.drop m = L := ⟨_, rfl⟩
    rw [hL] at hlen hal fi
    have hT : L.take (m + 1 + (l.length - m)) = L := List.take_of_length_le (by omega)
    have hT2 : m + 1 + (l.length - m) ≤ L.length := by omega
    refine AW_ret ?_
    refine ⟨_, wk_obL (r := 1156) (es' := L.map (eFm false)) (by rfl) (by simp; omega) fi, .inr rfl, ?_, [(0, 0)], 2, ⟨by decide, by decide, by decide⟩, ?_⟩ <;> (have fa := (And.intro hT hT2); first | exact zE0 | (refine zE ?_; try clear fa))
    exact ⟨_, LeV.sl _ _ _, (L, _), ⟨hal, by dsimp only; omega, by dsimp only; omega⟩, rfl, rfl⟩
   ·have hT : l.take l.length = l := List.take_length
    (have fa := @srcH.eq_1; (repeat' first | refine zJ (tg [0]) (v_Below x' 4 (by omega)) ?_ | refine zQ ?_ | (refine zN ?_; intro K hC hK) | ((repeat clear hJo hJU hJC Jo JU JC); (repeat (fail_if_success (refine hK _ ?_)); clear hK hC K); refine hK _ ?_; clear hK hC K) | (refine zC ?_ ?_ <;> intro hb) | (refine zK ?_; intro Jo JU JC hJo hJU hJC)) <;> (try clear fa))
    refine AW_ret ?_; refine zU ?_; refine ⟨_, .rfl', .inr rfl, ?_, [(0, 0)], 2, ⟨by decide, by decide, by decide⟩, ?_⟩ <;> (have fa := zT; first | exact zE0 | (refine zE ?_; try clear fa))
    exact ⟨_, LeV.sl _ _ _, (l, _), ⟨k3, hpos, by dsimp only; omega⟩, rfl, rfl⟩
end Go.Proofs.YthblfhgofopcaaaGreat

namespace Go.Proofs.YthblfhgofopcaaaGreat
open Go.RowKit
set_option maxRecDepth 100000
set_option maxHeartbeats 2000000
theorem v_NewSourceL (zs : List Int) (hz : zs.length ≤ 9223372036854775807) : ACall Tryz.prog 44 [eInts false zs] [] (fun v hl => ∃ x, v = .ref 0 0 0 0 ∧ hl = srcH x) := by
 refine acall_ofW (nx := 0) (ne := 0) tysGood (DD_ok tysGood mixed _) Tryz.func44 (by rfl) (by rfl) (by simp [Tryz.ntmps44]) (fun p hp => by cases hp) ?_; rw [Tryz.ntmps44]; let tb := ord_44; let lv := live_44
 (have fa := zT; (repeat' first | refine zQ ?_ | (refine zN ?_; intro K hC hK) | ((repeat clear hJo hJU hJC Jo JU JC); (repeat (fail_if_success (refine hK _ ?_)); clear hK hC K); refine hK _ ?_; clear hK hC K) | (refine zC ?_ ?_ <;> intro hb) | (refine zK ?_; intro Jo JU JC hJo hJU hJC)) <;> (try clear fa))
 refine AW_loopGV (wk_cs (r := 32) (es' := [U 2685821657736338717]) (by rfl) (by rfl)) (α := Nat × Int) (fun x => [(0, eInts false zs), (3, .ref 0 0 0 0), (4, I x.1)]) (fun x => [(0, .arr 0 1 [U x.2])]) (fun x => zs.length - x.1) (fun x => x.1 ≤ zs.length) [(32, 0)] [(0, 0)] 0 [0, 3, 4] 900 (finOk0 (by decide) (by decide)) (finOk0 (by decide) (by decide)) (0, 2685821657736338717) (Nat.zero_le _) (by (have fa := zT; exact zSF)) ?_
 rintro ⟨k, x⟩ hk J hcJ hJ
 dsimp only at hk hJ ⊢
 by_cases h : k < zs.length
 ·(have fa := zT; (repeat' first | refine zQ ?_ | (refine zN ?_; intro K hC hK) | ((repeat clear hJo hJU hJC Jo JU JC); (repeat (fail_if_success (refine hK _ ?_)); clear hK hC K); refine hK _ ?_; clear hK hC K) | (refine zC ?_ ?_ <;> intro hb) | (refine zK ?_; intro Jo JU JC hJo hJU hJC)) <;> (try clear fa))
  refine hJ _ (k + 1, _) (by dsimp only; omega) (by dsimp only; omega) (by (have fa := zT; exact zSF))
 ·(have fa := zT; (repeat' first | refine zQ ?_ | (refine zN ?_; intro K hC hK) | ((repeat clear hJo hJU hJC Jo JU JC); (repeat (fail_if_success (refine hK _ ?_)); clear hK hC K); refine hK _ ?_; clear hK hC K) | (refine zC ?_ ?_ <;> intro hb) | (refine zK ?_; intro Jo JU JC hJo hJU hJC)) <;> (try clear fa))
  refine AW_ret ?_; refine zU ?_; refine ⟨_, .rfl', .inr rfl, ?_, [(0, 0)], 2, finOk0 (by decide) (by decide), ?_⟩ <;> (have fa := zT; first | exact zE0 | (refine zE ?_; try clear fa))
  exact ⟨x, rfl⟩
structure SR where
 x : Int
 s : TSet
 fs : List Fm
 ms : List Gp
 X : List Int
 g : Nat
structure SRok (a : SR) : Prop where
 made : MadeS a.s
 fo : ∀ f ∈ a.fs, formErr a.s f = 0 ∧ f.ks.length ≤ 1000
 f1 : 1 ≤ a.fs.length
 f3 : a.fs.length ≤ 3
 xl : (a.X.length : Int) = plainI a.s
 full : fullB a.s ⟨a.X, a.ms⟩ = true
set_option maxHeartbeats 8000000 in
theorem v_Shape (zs : List Int) (hz : zs.length ≤ 9223372036854775807) : AEx Tryz.prog 25 [eInts false zs] [] (fun a : SR => .tup [.ref 0 0 0 0, eSet a.s, eFms false a.fs, .agg [.rsl 1 a.g 0 a.X.length, eGps false a.ms]]) (fun a => [(0, .arr 0 1 [U a.x]), (1, .arr a.g 1 (a.X.map I))]) SRok := by
 have CN : AEx Tryz.prog 44 [eInts false zs] [] (fun _ : Int => .ref 0 0 0 0) (fun x => srcH x) (fun _ => True) := acall_mono (v_NewSourceL zs hz) fun v hl => by
  rintro ⟨x, rfl, rfl⟩
  exact ⟨x, trivial, rfl, rfl⟩
 unfold AEx
 refine acall_le ?_
 refine acall_ofW (nx := 0) (ne := 0) tysGood (DD_ok tysGood mixed _) Tryz.func25 (by rfl) (by rfl) (by simp [Tryz.ntmps25]) (fun p hp => by cases hp) ?_; rw [Tryz.ntmps25]; let tb := ord_25; let lv := live_25
 (have fa := zT; (repeat' first | refine zQ ?_ | (refine zN ?_; intro K hC hK) | ((repeat clear hJo hJU hJC Jo JU JC); (repeat (fail_if_success (refine hK _ ?_)); clear hK hC K); refine hK _ ?_; clear hK hC K) | (refine zC ?_ ?_ <;> intro hb) | (refine zK ?_; intro Jo JU JC hJo hJU hJC)) <;> (try clear fa))
 (have fa := @srcH.eq_1; refine zX (tg []) (CN) ?_; clear hJo hJU hJC Jo JU JC; (try clear fa)); intro xr hxr
 (have fa := zT; (repeat' first | refine zQ ?_ | (refine zN ?_; intro K hC hK) | ((repeat clear hJo hJU hJC Jo JU JC); (repeat (fail_if_success (refine hK _ ?_)); clear hK hC K); refine hK _ ?_; clear hK hC K) | (refine zC ?_ ?_ <;> intro hb) | (refine zK ?_; intro Jo JU JC hJo hJU hJC)) <;> (try clear fa))
 (have fa := @srcH.eq_1; refine zX (tg [80]) (v_SetOf xr) ?_; clear hJo hJU hJC Jo JU JC; (try clear fa)); intro xr hxr
 obtain ⟨s, x1⟩ := xr
 dsimp only at hxr ⊢
 have hM := hxr
 clear hxr
 have b5 := belX_rg (x := x1) (n := 5) (by omega) (by omega)
 by_cases h5 : belX x1 5 = 0
 ·have b3 := belX_rg (x := nextX x1) (n := 3) (by omega) (by omega)
  have CL := v_Little (nextX (nextX x1)) (1 + belX (nextX x1) 3) (by omega)
  (have fa := @srcH.eq_1; (repeat' first | refine zJ (tg [80]) (v_Odds x1 5 (by omega)) ?_ | refine zJ (tg [80]) (v_Range (nextX x1) 1 3 (by omega) (by omega) (by omega)) ?_ | refine zQ ?_ | (refine zN ?_; intro K hC hK) | ((repeat clear hJo hJU hJC Jo JU JC); (repeat (fail_if_success (refine hK _ ?_)); clear hK hC K); refine hK _ ?_; clear hK hC K) | (refine zC ?_ ?_ <;> intro hb) | (refine zK ?_; intro Jo JU JC hJo hJU hJC)) <;> (try clear fa))
  (have fa := @srcH.eq_1; refine zX (tg [80]) (CL) ?_; clear hJo hJU hJC Jo JU JC; (try clear fa)); intro xr hxr
  obtain ⟨s2, x2⟩ := xr
  dsimp only at hxr ⊢
  have hM2 : MadeS s2 := ⟨hxr.2, hxr.1.fl.2⟩
  clear hxr
  (have fa := zT; (repeat' first | refine zQ ?_ | (refine zN ?_; intro K hC hK) | ((repeat clear hJo hJU hJC Jo JU JC); (repeat (fail_if_success (refine hK _ ?_)); clear hK hC K); refine hK _ ?_; clear hK hC K) | (refine zC ?_ ?_ <;> intro hb) | (refine zK ?_; intro Jo JU JC hJo hJU hJC)) <;> (try clear fa))
  (have fa := @srcH.eq_1; refine zX (tg [80]) (v_FormsOf x2 s2 hM2.ok) ?_; clear hJo hJU hJC Jo JU JC; (try clear fa)); intro xr hxr
  obtain ⟨fs, x3⟩ := xr
  obtain ⟨q1, q2, q3⟩ := hxr
  dsimp only at q1 q2 q3 ⊢
  (have fa := @stepDE_cL; (repeat' first | refine zQ ?_ | (refine zN ?_; intro K hC hK) | ((repeat clear hJo hJU hJC Jo JU JC); (repeat (fail_if_success (refine hK _ ?_)); clear hK hC K); refine hK _ ?_; clear hK hC K) | (refine zC ?_ ?_ <;> intro hb) | (refine zK ?_; intro Jo JU JC hJo hJU hJC)) <;> (try clear fa))
  (have fa := @srcH.eq_1; refine zXD (tg [80]) (v_HandOf x3 s2 hM2 fs q1 q2 q3) ?_; clear hJo hJU hJC Jo JU JC; (try clear fa)); intro xr hxr
  (have fa := zT; (repeat' first | refine zQ ?_ | (refine zN ?_; intro K hC hK) | ((repeat clear hJo hJU hJC Jo JU JC); (repeat (fail_if_success (refine hK _ ?_)); clear hK hC K); refine hK _ ?_; clear hK hC K) | (refine zC ?_ ?_ <;> intro hb) | (refine zK ?_; intro Jo JU JC hJo hJU hJC)) <;> (try clear fa))
  have hxl := hxr.xl
  have hpl := (plain_kinds (s := s2) hM2.ok).2.2.1
  refine AW_ret ?_; refine zU ?_; refine ⟨_, .rfl', .inr rfl, ?_, [(80, 0), (449, 1)], 2, ⟨by decide, by decide, by decide⟩, ?_⟩ <;> (have fa := zT; first | exact zE0 | (refine zE ?_; try clear fa))
  refine ⟨_, .rfl', ⟨xr.x, s2, fs, xr.ms, xr.X, xr.g⟩, ⟨hM2, q1, q2, q3, by dsimp only; omega, hxr.full⟩, ?_, rfl⟩
  rw [hxl]
 ·(have fa := @srcH.eq_1; (repeat' first | refine zJ (tg [80]) (v_Odds x1 5 (by omega)) ?_ | refine zQ ?_ | (refine zN ?_; intro K hC hK) | ((repeat clear hJo hJU hJC Jo JU JC); (repeat (fail_if_success (refine hK _ ?_)); clear hK hC K); refine hK _ ?_; clear hK hC K) | (refine zC ?_ ?_ <;> intro hb) | (refine zK ?_; intro Jo JU JC hJo hJU hJC)) <;> (try clear fa))
  (have fa := @srcH.eq_1; refine zX (tg [80]) (v_FormsOf (nextX x1) s hM.ok) ?_; clear hJo hJU hJC Jo JU JC; (try clear fa)); intro xr hxr
  obtain ⟨fs, x3⟩ := xr
  obtain ⟨q1, q2, q3⟩ := hxr
  dsimp only at q1 q2 q3 ⊢
  (have fa := @stepDE_cL; (repeat' first | refine zQ ?_ | (refine zN ?_; intro K hC hK) | ((repeat clear hJo hJU hJC Jo JU JC); (repeat (fail_if_success (refine hK _ ?_)); clear hK hC K); refine hK _ ?_; clear hK hC K) | (refine zC ?_ ?_ <;> intro hb) | (refine zK ?_; intro Jo JU JC hJo hJU hJC)) <;> (try clear fa))
  (have fa := @srcH.eq_1; refine zXD (tg [80]) (v_HandOf x3 s hM fs q1 q2 q3) ?_; clear hJo hJU hJC Jo JU JC; (try clear fa)); intro xr hxr
  (have fa := zT; (repeat' first | refine zQ ?_ | (refine zN ?_; intro K hC hK) | ((repeat clear hJo hJU hJC Jo JU JC); (repeat (fail_if_success (refine hK _ ?_)); clear hK hC K); refine hK _ ?_; clear hK hC K) | (refine zC ?_ ?_ <;> intro hb) | (refine zK ?_; intro Jo JU JC hJo hJU hJC)) <;> (try clear fa))
  have hxl := hxr.xl
  have hpl := (plain_kinds (s := s) hM.ok).2.2.1
  refine AW_ret ?_; refine zU ?_; refine ⟨_, .rfl', .inr rfl, ?_, [(80, 0), (369, 1)], 2, ⟨by decide, by decide, by decide⟩, ?_⟩ <;> (have fa := zT; first | exact zE0 | (refine zE ?_; try clear fa))
  refine ⟨_, .rfl', ⟨xr.x, s, fs, xr.ms, xr.X, xr.g⟩, ⟨hM, q1, q2, q3, by dsimp only; omega, hxr.full⟩, ?_, rfl⟩
  rw [hxl]
end Go.Proofs.YthblfhgofopcaaaGreat
