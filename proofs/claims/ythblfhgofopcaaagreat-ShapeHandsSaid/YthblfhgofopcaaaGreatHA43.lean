/-
  Parts of the proof: FmK, KitB.
-/
import Derived.Test.YthblfhgofopcaaaGreatHA17
import Derived.Test.YthblfhgofopcaaaGreatHA41
import Derived.Test.YthblfhgofopcaaaGreatHA35
import Derived.Test.YthblfhgofopcaaaGreatHA33
import Derived.Test.YthblfhgofopcaaaGreatHA31
import Derived.Test.YthblfhgofopcaaaGreatHA39
set_option linter.all false
namespace Go.Proofs.YthblfhgofopcaaaGreat
open Go.RowKit
set_option maxRecDepth 100000
set_option maxHeartbeats 2000000
theorem plain_kinds {s : TSet} (hv : chkErr s = 0) : plainW s = plainI s ∧ kindsI s = plainI s ∧ 1 ≤ plainI s ∧ plainI s ≤ 34 := by
 have V := valid_of hv
 refine ⟨plainW_eq (fun z hz => by have := V.su z hz; omega) (by have := V.su3; omega) (by have := V.wi; omega) (by have := V.dr; omega), ?_, V.plain.1, V.plain.2⟩
 unfold kindsI; rw [if_pos hv]
structure Dif (P : Int) (l : List Int) : Prop where
 ri : Rise l
 rg : ∀ z ∈ l, 0 ≤ z ∧ z < P
theorem Dif.len {P : Int} {l : List Int} (h : Dif P l) (hP : P ≤ 1000) : l.length ≤ 1000 := by
 have h1 := rise_eq (n := P.toNat) h.ri (fun z hz => by have := h.rg z hz; omega)
 rw [h1]
 refine Nat.le_trans (List.length_filter_le _ _) ?_
 have : ∀ n, (upTo n).length = n := fun n => by induction n with
  | zero => rfl
  | succ n ih => simp [upTo, ih]
 rw [this]; omega
theorem dif_snoc {P : Int} {l : List Int} {k : Nat} (h : Dif (k : Int) l) : Dif ((k + 1 : Nat) : Int) (l ++ [(k : Int)]) := by
 refine ⟨?_, fun z hz => ?_⟩
 ·unfold Rise; rw [List.pairwise_append]
  exact ⟨h.ri, by simp, fun a ha b hb => by simp at hb; have := h.rg a ha; omega⟩
 ·rcases List.mem_append.1 hz with hz | hz
  ·have := h.rg z hz; omega
  ·simp at hz; omega
theorem v_different (x : Int) (s : TSet) (hv : chkErr s = 0) (n0 : Int) (hn0 : n0 ≤ 1000) (hn1 : -1000 ≤ n0) : AEx Tryz.prog 152 [.ref 0 0 0 0, eSet s, I n0] (srcH x) (fun a : List Int × Nat × Int => .rsl 1 a.2.1 0 a.1.length) (fun a => [(0, .arr 0 1 [U a.2.2]), (1, .arr a.2.1 1 (a.1.map I))]) (fun a => Dif (plainI s) a.1) := by
 obtain ⟨p1, p2, p3, p4⟩ := plain_kinds hv
 have hsl := (valid_of hv).su3
 have CP := says_Plain s (by omega)
 rw [p1] at CP
 obtain ⟨P, hP⟩ : ∃ P, plainI s = P := ⟨_, rfl⟩
 rw [hP] at CP p3 p4 ⊢
 unfold AEx srcH
 refine acall_ofW (nx := 64) (ne := 1) tysGood (DD_ok tysGood mixed _) Tryz.func152 (by rfl) (by rfl) (by simp [Tryz.ntmps152]) (by simp) ?_; rw [Tryz.ntmps152]; let tb := ord_152; let lv := live_152
 (have fa := zT; (repeat' first | refine zQ ?_ | (refine zN ?_; intro K hC hK) | ((repeat clear hJo hJU hJC Jo JU JC); (repeat (fail_if_success (refine hK _ ?_)); clear hK hC K); refine hK _ ?_; clear hK hC K) | (refine zC ?_ ?_ <;> intro hb) | (refine zK ?_; intro Jo JU JC hJo hJU hJC)) <;> (try clear fa))
 refine AW_loopGV (wk_virtT 7 500 0 1 (by rfl) (by rfl)) (α := Nat × Int × List Int × Nat × Int) (fun a => [(0, .ref 0 0 0 0), (2, I a.2.1), (4, .ref 2 0 0 0), (7, .rsl 1 a.2.2.2.1 0 a.2.2.1.length), (8, I a.1)]) (fun a => [(0, .arr 0 1 [U a.2.2.2.2]), (1, .arr a.2.2.2.1 1 (a.2.2.1.map I)), (2, .arr 0 9 [eSet s])])
  (fun a => (P - a.1).toNat) (fun a => (a.1 : Int) ≤ P ∧ Dif (a.1 : Int) a.2.2.1 ∧ a.2.1 ≤ 1000 ∧ -1000 ≤ a.2.1 ∧ a.2.2.1.length ≤ a.1) [(0, 0), (500, 1), (64, 2)] [(0, 0), (1, 1), (2, 2)] 0 [0, 2, 4, 7, 8] 900 (⟨by decide, by decide, by decide⟩) (⟨by decide, by decide, by decide⟩) (0, n0, [], 0, x) ⟨by dsimp only; omega, ⟨List.Pairwise.nil, fun z hz => by cases hz⟩, hn0, hn1, Nat.le_refl _⟩ (by (have fa := (And.intro @virtT.eq_1 (And.intro @upd.eq_1 @upd.eq_2)); exact zSF)) ?_
 rintro ⟨k, n, l, g, x'⟩ ⟨k1, k2, k3, k4, k5⟩ J hcJ hJ
 dsimp only at k1 k2 k3 k4 k5 hJ ⊢
 by_cases hk : (k : Int) < P
 ·have hb := belX_rg (x := x') (n := P - k) (by omega) (by omega)
  have hnx : Dif ((k + 1 : Nat) : Int) l := ⟨k2.ri, fun z hz => by have := k2.rg z hz; omega⟩
  have CB := v_Below x' (P - k) (by omega)
  by_cases h0 : 0 < n
  ·by_cases h1 : belX x' (P - k) < n
   ·(have fa := @srcH.eq_1; (repeat' first | refine zS (CP) ?_ | refine zJ (tg [0]) (CB) ?_ | refine zQ ?_ | (refine zN ?_; intro K hC hK) | ((repeat clear hJo hJU hJC Jo JU JC); (repeat (fail_if_success (refine hK _ ?_)); clear hK hC K); refine hK _ ?_; clear hK hC K) | (refine zC ?_ ?_ <;> intro hb) | (refine zK ?_; intro Jo JU JC hJo hJU hJC)) <;> (try clear fa))
    refine hJ _ (k + 1, n - 1, l ++ [(k : Int)], g + 1, nextX x') (by dsimp only; omega) ⟨by dsimp only; omega, dif_snoc (P := P) k2, by dsimp only; omega, by dsimp only; omega, by simp; omega⟩ (by (have fa := @List.length_append.{0}; exact zSF))
   ·(have fa := @srcH.eq_1; (repeat' first | refine zS (CP) ?_ | refine zJ (tg [0]) (CB) ?_ | refine zQ ?_ | (refine zN ?_; intro K hC hK) | ((repeat clear hJo hJU hJC Jo JU JC); (repeat (fail_if_success (refine hK _ ?_)); clear hK hC K); refine hK _ ?_; clear hK hC K) | (refine zC ?_ ?_ <;> intro hb) | (refine zK ?_; intro Jo JU JC hJo hJU hJC)) <;> (try clear fa))
    refine hJ _ (k + 1, n, l, g, nextX x') (by dsimp only; omega) ⟨by dsimp only; omega, hnx, by dsimp only; omega, by dsimp only; omega, by dsimp only; omega⟩ (by (have fa := zT; exact zSF))
  ·(have fa := zT; (repeat' first | refine zS (CP) ?_ | refine zQ ?_ | (refine zN ?_; intro K hC hK) | ((repeat clear hJo hJU hJC Jo JU JC); (repeat (fail_if_success (refine hK _ ?_)); clear hK hC K); refine hK _ ?_; clear hK hC K) | (refine zC ?_ ?_ <;> intro hb) | (refine zK ?_; intro Jo JU JC hJo hJU hJC)) <;> (try clear fa))
   refine hJ _ (k + 1, n, l, g, x') (by dsimp only; omega) ⟨by dsimp only; omega, hnx, by dsimp only; omega, by dsimp only; omega, by dsimp only; omega⟩ (by (have fa := zT; exact zSF))
 ·(have fa := zT; (repeat' first | refine zS (CP) ?_ | refine zQ ?_ | (refine zN ?_; intro K hC hK) | ((repeat clear hJo hJU hJC Jo JU JC); (repeat (fail_if_success (refine hK _ ?_)); clear hK hC K); refine hK _ ?_; clear hK hC K) | (refine zC ?_ ?_ <;> intro hb) | (refine zK ?_; intro Jo JU JC hJo hJU hJC)) <;> (try clear fa))
  refine AW_ret ?_; refine zU ?_; refine ⟨_, .rfl', .inr rfl, ?_, [(0, 0), (1, 1)], 2, ⟨by decide, by decide, by decide⟩, ?_⟩ <;> (have fa := zT; first | exact zE0 | (refine zE ?_; try clear fa))
  have : (k : Int) = P := by omega
  rw [this] at k2
  exact ⟨(l, g, x'), k2, rfl, rfl⟩
set_option maxHeartbeats 2000000 in
theorem v_formOf (x : Int) (s : TSet) (hv : chkErr s = 0) : AEx Tryz.prog 107 [.ref 0 0 0 0, eSet s] (srcH x) (fun a : Fm × Int => eFm false a.1) (fun a => srcH a.2) (fun a => a.1.ks.length ≤ 1000) := by
 obtain ⟨p1, p2, p3, p4⟩ := plain_kinds hv
 have V := valid_of hv
 have hme := V.me
 have hco := V.co
 have CP := says_Plain s (by have := V.su3; omega)
 rw [p1] at CP
 obtain ⟨P, hP⟩ : ∃ P, plainI s = P := ⟨_, rfl⟩
 have CD := fun x' => v_different x' s hv (3 * s.me + 1) (by omega) (by omega)
 rw [hP] at CP p3 p4
 clear V
 unfold AEx srcH
 refine acall_le ?_
 have b1 := belX_rg (x := x) (n := 6) (by omega) (by omega)
 by_cases c2 : 1 + belX x 6 = 2
 ·refine acall_ofW (nx := 64) (ne := 1) tysGood (DD_ok tysGood mixed _) Tryz.func107 (by rfl) (by rfl) (by simp [Tryz.ntmps107]) (by simp) ?_; rw [Tryz.ntmps107]; let tb := ord_107; let lv := live_107
  (have fa := @srcH.eq_1; (repeat' first | refine zJ (tg [0]) (v_Range _ 1 6 (by omega) (by omega) (by omega)) ?_ | refine zJ (tg [0]) (v_Odds _ 2 (by omega)) ?_ | refine zQ ?_ | (refine zN ?_; intro K hC hK) | ((repeat clear hJo hJU hJC Jo JU JC); (repeat (fail_if_success (refine hK _ ?_)); clear hK hC K); refine hK _ ?_; clear hK hC K) | (refine zC ?_ ?_ <;> intro hb) | (refine zK ?_; intro Jo JU JC hJo hJU hJC)) <;> (try clear fa))
  refine AW_ret ?_; refine zU ?_; refine ⟨_, .rfl', .inr rfl, ?_, [(0, 0)], 2, ⟨by decide, by decide, by decide⟩, ?_⟩ <;> (have fa := zT; first | exact zE0 | (refine zE ?_; try clear fa))
  refine ⟨eFm false ⟨1 + belX x 6, [], belX (nextX x) 2 == 0⟩, ?_, (⟨1 + belX x 6, [], belX (nextX x) 2 == 0⟩, _), by simp, rfl, rfl⟩
  unfold eFm; refine LeV.agg ?_; (repeat first | exact LeL.nil | (refine LeL.cons ?_ ?_; (· (first | exact LeV.nil _ _ | exact LeV.rfl' | exact LeV.eq rfl | exact LeV.sl _ _ _ | (simpa only [AV.low, lowL, lowL_eGps, lowL_I, lowL_eGp, lowL_eGps] using LeV.low _)))))
 ·by_cases c3 : 1 + belX x 6 = 3
  ·refine acall_ofW (nx := 64) (ne := 1) tysGood (DD_ok tysGood mixed _) Tryz.func107 (by rfl) (by rfl) (by simp [Tryz.ntmps107]) (by simp) ?_; rw [Tryz.ntmps107]; let tb := ord_107; let lv := live_107
   (have fa := @srcH.eq_1; (repeat' first | refine zJ (tg [0]) (v_Range _ 1 6 (by omega) (by omega) (by omega)) ?_ | refine zQ ?_ | (refine zN ?_; intro K hC hK) | ((repeat clear hJo hJU hJC Jo JU JC); (repeat (fail_if_success (refine hK _ ?_)); clear hK hC K); refine hK _ ?_; clear hK hC K) | (refine zC ?_ ?_ <;> intro hb) | (refine zK ?_; intro Jo JU JC hJo hJU hJC)) <;> (try clear fa))
   (have fa := @srcH.eq_1; refine zX (tg [0]) (CD _) ?_; clear hJo hJU hJC Jo JU JC; (try clear fa)); intro xr hxr
   (have fa := zT; (repeat' first | refine zQ ?_ | (refine zN ?_; intro K hC hK) | ((repeat clear hJo hJU hJC Jo JU JC); (repeat (fail_if_success (refine hK _ ?_)); clear hK hC K); refine hK _ ?_; clear hK hC K) | (refine zC ?_ ?_ <;> intro hb) | (refine zK ?_; intro Jo JU JC hJo hJU hJC)) <;> (try clear fa))
   refine AW_ret ?_; refine zU ?_; refine ⟨_, .rfl', .inr rfl, ?_, [(0, 0)], 2, ⟨by decide, by decide, by decide⟩, ?_⟩ <;> (have fa := zT; first | exact zE0 | (refine zE ?_; try clear fa))
   refine ⟨eFm false ⟨1 + belX x 6, xr.1, false⟩, ?_, (⟨1 + belX x 6, xr.1, false⟩, xr.2.2), hxr.len (by omega), rfl, rfl⟩
   unfold eFm; refine LeV.agg ?_; (repeat first | exact LeL.nil | (refine LeL.cons ?_ ?_; (· (first | exact LeV.nil _ _ | exact LeV.rfl' | exact LeV.eq rfl | exact LeV.sl _ _ _ | (simpa only [AV.low, lowL, lowL_eGps, lowL_I, lowL_eGp, lowL_eGps] using LeV.low _)))))
  ·by_cases c6 : 1 + belX x 6 = 6
   ·refine acall_ofW (nx := 64) (ne := 1) tysGood (DD_ok tysGood mixed _) Tryz.func107 (by rfl) (by rfl) (by simp [Tryz.ntmps107]) (by simp) ?_; rw [Tryz.ntmps107]; let tb := ord_107; let lv := live_107
    (have fa := @srcH.eq_1; (repeat' first | refine zJ (tg [0]) (v_Range _ 1 6 (by omega) (by omega) (by omega)) ?_ | refine zQ ?_ | (refine zN ?_; intro K hC hK) | ((repeat clear hJo hJU hJC Jo JU JC); (repeat (fail_if_success (refine hK _ ?_)); clear hK hC K); refine hK _ ?_; clear hK hC K) | (refine zC ?_ ?_ <;> intro hb) | (refine zK ?_; intro Jo JU JC hJo hJU hJC)) <;> (try clear fa))
    refine AW_loopGV (wk_virtA 144 0 3 500 0 1 1 (by rfl) (by rfl) (by rfl)) (α := Nat × Int × List Int × Nat × Int) (fun a => [(0, .ref 0 0 0 0), (3, .ref 2 0 0 0), (4, .ref 3 0 0 0), (5, .ref 4 0 0 0), (6, I a.1), (7, I a.2.1)])
     (fun a => [(0, .arr 0 1 [U a.2.2.2.2]), (1, .arr a.2.2.2.1 1 (a.2.2.1.map I)), (2, .arr 0 9 [eSet s]), (3, .arr 0 3 [.agg [I 0, nilA, B false]]), (4, .arr 0 3 [.agg [I (1 + belX x 6), .rsl 1 a.2.2.2.1 0 a.2.2.1.length, B false]])])
     (fun a => (P - a.1).toNat) (fun a => (a.1 : Int) ≤ P ∧ 0 ≤ a.2.1 ∧ a.2.2.1.length + a.2.1 ≤ 14) [(0, 0), (500, 1), (64, 2), (80, 3), (144, 4)] [(0, 0), (1, 1), (2, 2), (3, 3), (4, 4)] 0 [0, 3, 4, 5, 6, 7] 900 (⟨by decide, by decide, by decide⟩) (⟨by decide, by decide, by decide⟩) (0, 3 * s.me + 2, [], 0, nextX x) ⟨by dsimp only; omega, by dsimp only; omega, by simp; omega⟩ (by (have fa := (And.intro @virtE.eq_1 @nilA.eq_1); exact zSF)) ?_
    rintro ⟨k, n, l, g, x'⟩ ⟨k1, k2, k3⟩ J hcJ hJ
    dsimp only at k1 k2 k3 hJ ⊢
    have bb := belX_rg (x := x') (n := s.co + 1) (by omega) (by omega)
    have CB := v_Below x' (s.co + 1) (by omega)
    by_cases hk : (k : Int) < P
    ·by_cases h0 : 0 < n
     ·(have fa := @srcH.eq_1; (repeat' first | refine zS (CP) ?_ | refine zJ (tg [0]) (CB) ?_ | refine zQ ?_ | (refine zN ?_; intro K hC hK) | ((repeat clear hJo hJU hJC Jo JU JC); (repeat (fail_if_success (refine hK _ ?_)); clear hK hC K); refine hK _ ?_; clear hK hC K) | (refine zC ?_ ?_ <;> intro hb) | (refine zK ?_; intro Jo JU JC hJo hJU hJC)) <;> (try clear fa))
      generalize belX x' (s.co + 1) = i0 at *
      refine AW_loopG (α := Int × Int × List Int × Nat) (fun a => [(0, .ref 0 0 0 0), (3, .ref 2 0 0 0), (4, .ref 3 0 0 0), (5, .ref 4 0 0 0), (6, I k), (7, I a.2.1), (8, I a.1)])
       (fun a => [(0, .arr 0 1 [U (nextX x')]), (1, .arr a.2.2.2 1 (a.2.2.1.map I)), (2, .arr 0 9 [eSet s]), (3, .arr 0 3 [.agg [I 0, nilA, B false]]), (4, .arr 0 3 [.agg [I (1 + belX x 6), .rsl 1 a.2.2.2 0 a.2.2.1.length, B false]])])
       (fun a => a.1.toNat) (fun a => (0 ≤ a.1 ∧ a.1 ≤ 10) ∧ 0 ≤ a.2.1 ∧ a.2.2.1.length + a.2.1 ≤ 14) [(0, 0), (1, 1), (2, 2), (3, 3), (4, 4)] [(0, 0), (1, 1), (2, 2), (3, 3), (4, 4)] 0 [0, 3, 4, 5, 6, 7, 8] 1900 (⟨by decide, by decide, by decide⟩) (⟨by decide, by decide, by decide⟩) (i0, n, l, g) ⟨by dsimp only; omega, k2, k3⟩ (by (have fa := zT; exact zSF)) ?_
      rintro ⟨i, n, l, g⟩ ⟨k4, k2, k3⟩ J2 hcJ2 hJ2
      dsimp only at k4 k2 k3 hJ2 ⊢
      by_cases h1 : 0 < i
      ·by_cases h2 : 0 < n
       ·(have fa := zT; (repeat' first | refine zQ ?_ | (refine zN ?_; intro K hC hK) | ((repeat clear hJo hJU hJC Jo JU JC); (repeat (fail_if_success (refine hK _ ?_)); clear hK hC K); refine hK _ ?_; clear hK hC K) | (refine zC ?_ ?_ <;> intro hb) | (refine zK ?_; intro Jo JU JC hJo hJU hJC)) <;> (try clear fa))
        refine hJ2 _ (i - 1, n - 1, l ++ [(k : Int)], g + 1) (by dsimp only; omega) ⟨by dsimp only; omega, by dsimp only; omega, by simp; omega⟩ (by (have fa := @List.length_append.{0}; exact zSF))
       ·(have fa := zT; (repeat' first | refine zQ ?_ | (refine zN ?_; intro K hC hK) | ((repeat clear hJo hJU hJC Jo JU JC); (repeat (fail_if_success (refine hK _ ?_)); clear hK hC K); refine hK _ ?_; clear hK hC K) | (refine zC ?_ ?_ <;> intro hb) | (refine zK ?_; intro Jo JU JC hJo hJU hJC)) <;> (try clear fa))
        refine hJ _ (k + 1, n, l, g, nextX x') (by dsimp only; omega) ⟨by dsimp only; omega, k2, k3⟩ (by (have fa := zT; exact zSF))
      ·(have fa := zT; (repeat' first | refine zQ ?_ | (refine zN ?_; intro K hC hK) | ((repeat clear hJo hJU hJC Jo JU JC); (repeat (fail_if_success (refine hK _ ?_)); clear hK hC K); refine hK _ ?_; clear hK hC K) | (refine zC ?_ ?_ <;> intro hb) | (refine zK ?_; intro Jo JU JC hJo hJU hJC)) <;> (try clear fa))
       refine hJ _ (k + 1, n, l, g, nextX x') (by dsimp only; omega) ⟨by dsimp only; omega, k2, k3⟩ (by (have fa := zT; exact zSF))
     ·(have fa := zT; (repeat' first | refine zS (CP) ?_ | refine zQ ?_ | (refine zN ?_; intro K hC hK) | ((repeat clear hJo hJU hJC Jo JU JC); (repeat (fail_if_success (refine hK _ ?_)); clear hK hC K); refine hK _ ?_; clear hK hC K) | (refine zC ?_ ?_ <;> intro hb) | (refine zK ?_; intro Jo JU JC hJo hJU hJC)) <;> (try clear fa))
      refine AW_ret ?_; refine zU ?_; refine ⟨_, .rfl', .inr rfl, ?_, [(0, 0)], 2, ⟨by decide, by decide, by decide⟩, ?_⟩ <;> (have fa := zT; first | exact zE0 | (refine zE ?_; try clear fa))
      refine ⟨eFm false ⟨1 + belX x 6, l, false⟩, ?_, (⟨1 + belX x 6, l, false⟩, _), by dsimp only; omega, rfl, rfl⟩
      unfold eFm; refine LeV.agg ?_; (repeat first | exact LeL.nil | (refine LeL.cons ?_ ?_; (· (first | exact LeV.nil _ _ | exact LeV.rfl' | exact LeV.eq rfl | exact LeV.sl _ _ _ | (simpa only [AV.low, lowL, lowL_eGps, lowL_I, lowL_eGp, lowL_eGps] using LeV.low _)))))
    ·(have fa := zT; (repeat' first | refine zS (CP) ?_ | refine zQ ?_ | (refine zN ?_; intro K hC hK) | ((repeat clear hJo hJU hJC Jo JU JC); (repeat (fail_if_success (refine hK _ ?_)); clear hK hC K); refine hK _ ?_; clear hK hC K) | (refine zC ?_ ?_ <;> intro hb) | (refine zK ?_; intro Jo JU JC hJo hJU hJC)) <;> (try clear fa))
     refine AW_ret ?_; refine zU ?_; refine ⟨_, .rfl', .inr rfl, ?_, [(0, 0)], 2, ⟨by decide, by decide, by decide⟩, ?_⟩ <;> (have fa := zT; first | exact zE0 | (refine zE ?_; try clear fa))
     refine ⟨eFm false ⟨1 + belX x 6, l, false⟩, ?_, (⟨1 + belX x 6, l, false⟩, _), by dsimp only; omega, rfl, rfl⟩
     unfold eFm; refine LeV.agg ?_; (repeat first | exact LeL.nil | (refine LeL.cons ?_ ?_; (· (first | exact LeV.nil _ _ | exact LeV.rfl' | exact LeV.eq rfl | exact LeV.sl _ _ _ | (simpa only [AV.low, lowL, lowL_eGps, lowL_I, lowL_eGp, lowL_eGps] using LeV.low _)))))
   ·refine acall_ofW (nx := 64) (ne := 1) tysGood (DD_ok tysGood mixed _) Tryz.func107 (by rfl) (by rfl) (by simp [Tryz.ntmps107]) (by simp) ?_; rw [Tryz.ntmps107]; let tb := ord_107; let lv := live_107
    (have fa := @srcH.eq_1; (repeat' first | refine zJ (tg [0]) (v_Range _ 1 6 (by omega) (by omega) (by omega)) ?_ | refine zQ ?_ | (refine zN ?_; intro K hC hK) | ((repeat clear hJo hJU hJC Jo JU JC); (repeat (fail_if_success (refine hK _ ?_)); clear hK hC K); refine hK _ ?_; clear hK hC K) | (refine zC ?_ ?_ <;> intro hb) | (refine zK ?_; intro Jo JU JC hJo hJU hJC)) <;> (try clear fa))
    refine AW_ret ?_; refine zU ?_; refine ⟨_, .rfl', .inr rfl, ?_, [(0, 0)], 2, ⟨by decide, by decide, by decide⟩, ?_⟩ <;> (have fa := zT; first | exact zE0 | (refine zE ?_; try clear fa))
    refine ⟨eFm false ⟨1 + belX x 6, [], false⟩, ?_, (⟨1 + belX x 6, [], false⟩, _), by simp, rfl, rfl⟩
    unfold eFm; refine LeV.agg ?_; (repeat first | exact LeL.nil | (refine LeL.cons ?_ ?_; (· (first | exact LeV.nil _ _ | exact LeV.rfl' | exact LeV.eq rfl | exact LeV.sl _ _ _ | (simpa only [AV.low, lowL, lowL_eGps, lowL_I, lowL_eGp, lowL_eGps] using LeV.low _)))))
end Go.Proofs.YthblfhgofopcaaaGreat

namespace Go.Proofs.YthblfhgofopcaaaGreat
open Go.RowKit
set_option maxRecDepth 100000
set_option maxHeartbeats 2000000
theorem bgd {X ks : List Int} (hk : InB X.length ks) (hl : ks.length ≤ 1000) (hX : ∀ i, -1000000 ≤ X.getD i 0 ∧ X.getD i 0 ≤ 1000000) (j : Nat) (i : Nat) : -1000000000 ≤ (incL X (ks.take j)).getD i 0 ∧ (incL X (ks.take j)).getD i 0 ≤ 1000000000 := by
 rw [incL_get _ _ (fun y hy => hk y (List.mem_of_mem_take hy))]
 have h1 := cntI_le (ks.take j) i
 have h2 := cntI_nonneg (ks.take j) i
 have h3 := hX i
 simp at h1; omega
theorem v_put (g : Nat) (X ks : List Int) (hk : InB X.length ks) (hl : ks.length ≤ 1000) (hX : ∀ i, -1000000 ≤ X.getD i 0 ∧ X.getD i 0 ≤ 1000000) (hXl : X.length ≤ 1000000) : AObj Tryz.prog 111 [.rsl 0 g 0 X.length, eInts false ks] [(0, .arr g 1 (X.map I))] (.tup []) [(0, .arr g 1 ((incL X ks).map I))] := by
 unfold AObj
 refine acall_ofW (nx := 64) (ne := 1) tysGood (DD_ok tysGood mixed _) Tryz.func111 (by rfl) (by rfl) (by simp [Tryz.ntmps111]) (by simp) ?_; rw [Tryz.ntmps111]; let tb := ord_111; let lv := live_111
 (have fa := zT; (repeat' first | refine zQ ?_ | (refine zN ?_; intro K hC hK) | ((repeat clear hJo hJU hJC Jo JU JC); (repeat (fail_if_success (refine hK _ ?_)); clear hK hC K); refine hK _ ?_; clear hK hC K) | (refine zC ?_ ?_ <;> intro hb) | (refine zK ?_; intro Jo JU JC hJo hJU hJC)) <;> (try clear fa))
 refine AW_forC ks.length (fun j σ => σ = ⟨900, [(0, .rsl 0 g 0 X.length), (1, eInts false ks), (4, I j)], [(0, .arr g 1 ((incL X (ks.take j)).map I))]⟩) [(0, 0)] [(0, 0)] 0 [0, 1, 4] 900 (⟨by decide, by decide, by decide⟩) (⟨by decide, by decide, by decide⟩) (by (have fa := (And.intro @incL.eq_1 (And.intro @List.take_zero.{0} @List.foldl_nil.{0, 0})); exact zV)) ?_
 rintro j σ' hj rfl J hcJ hJ
 by_cases hlt : j < ks.length
 ·obtain ⟨z, hz⟩ : ∃ z, ks[j] = z := ⟨_, rfl⟩
  have hin := hk z (by rw [← hz]; exact List.getElem_mem hlt)
  have ht := incL_take X ks hlt
  have hYl := incL_len (ks.take j) X
  have hYb := bgd hk hl hX j
  obtain ⟨Y, hYe⟩ : ∃ Y, incL X (ks.take j) = Y := ⟨_, rfl⟩
  rw [hYe, hz] at ht
  rw [hYe] at hYl hYb
  have A := incAt (X := Y) (z := z) hin.1 (by omega) hYb
  have a1 := A.lt
  have a2 := A.up
  have a3 := A.st
  rw [hYe]
  (have fa := (And.intro hz (And.intro a2 a3)); (repeat' first | refine zQ ?_ | (refine zN ?_; intro K hC hK) | ((repeat clear hJo hJU hJC Jo JU JC); (repeat (fail_if_success (refine hK _ ?_)); clear hK hC K); refine hK _ ?_; clear hK hC K) | (refine zC ?_ ?_ <;> intro hb) | (refine zK ?_; intro Jo JU JC hJo hJU hJC)) <;> (try clear fa))
  exact hJ _ hlt (by (have fa := ht; exact zV))
 ·obtain rfl : j = ks.length := by omega
  rw [List.take_length]
  (have fa := zT; (repeat' first | refine zQ ?_ | (refine zN ?_; intro K hC hK) | ((repeat clear hJo hJU hJC Jo JU JC); (repeat (fail_if_success (refine hK _ ?_)); clear hK hC K); refine hK _ ?_; clear hK hC K) | (refine zC ?_ ?_ <;> intro hb) | (refine zK ?_; intro Jo JU JC hJo hJU hJC)) <;> (try clear fa))
  (repeat first | (with_reducible refine then_normal ?_) | (with_reducible refine block_normal ?_) | (with_reducible refine scope_normal ?_)); refine ⟨_, .rfl', .inl rfl, ?_, [(0, 0)], 2, ⟨by decide, by decide, by decide⟩, ?_⟩ <;> (have fa := zT; first | exact zE0 | (refine zE ?_; try clear fa))
def fitB (co : Int) : List Int → List Int → Bool
 | _, [] => true
 | X, k :: ks => if co < (inc1 X k).getD k.toNat 0 then false else fitB co (inc1 X k) ks
theorem fitB_drop (co : Int) (X ks : List Int) {j : Nat} (h : j < ks.length) : fitB co X (ks.drop j) = if co < (inc1 X ks[j]).getD ks[j].toNat 0 then false else fitB co (inc1 X ks[j]) (ks.drop (j + 1)) := by
 rw [List.drop_eq_getElem_cons h, fitB]
theorem fitB_le {co : Int} : ∀ {ks X : List Int}, InB X.length ks → (∀ i, X.getD i 0 ≤ co) → fitB co X ks = true → ∀ i, (incL X ks).getD i 0 ≤ co
 | [], X, _, hX, _, i => hX i
 | k :: ks, X, hk, hX, h, i => by
  have hk1 := hk k (by simp)
  rw [fitB] at h
  split at h
  ·cases h
  ·rename_i hc
   show (incL (inc1 X k) ks).getD i 0 ≤ co
   refine fitB_le (fun z hz => by rw [inc1_len]; exact hk z (by simp [hz])) (fun i => ?_) h i
   have := inc1_get hk1.1 hk1.2 i
   by_cases hi : k = (i : Int)
   ·have : i = k.toNat := by omega
    rw [this]; omega
   ·rw [if_neg hi] at this; have := hX i; omega
theorem says_fits (s : TSet) (X ks : List Int) (hk : InB X.length ks) (hl : ks.length ≤ 1000) (hX : ∀ i, -1000000 ≤ X.getD i 0 ∧ X.getD i 0 ≤ 1000000) (hXl : X.length ≤ 1000000) : ASays Tryz.prog 110 [eSet s, eInts false X, eInts false ks] (B (fitB s.co X ks)) := by
 have hT : X.take X.length = X := List.take_length
 refine acall_ofW (nx := 0) (ne := 0) tysGood (DD_ok tysGood mixed _) Tryz.func110 (by rfl) (by rfl) (by simp [Tryz.ntmps110]) (fun p hp => by cases hp) ?_; rw [Tryz.ntmps110]; let tb := ord_110; let lv := live_110
 (have fa := zT; (repeat' first | refine zQ ?_ | (refine zN ?_; intro K hC hK) | ((repeat clear hJo hJU hJC Jo JU JC); (repeat (fail_if_success (refine hK _ ?_)); clear hK hC K); refine hK _ ?_; clear hK hC K) | (refine zC ?_ ?_ <;> intro hb) | (refine zK ?_; intro Jo JU JC hJo hJU hJC)) <;> (try clear fa))
 refine AW_forC ks.length (fun j σ => fitB s.co X ks = fitB s.co (incL X (ks.take j)) (ks.drop j) ∧ σ = ⟨900, [(2, eInts false ks), (3, .ref 0 0 0 0), (7, .rsl 1 1 0 X.length), (8, I j)], [(0, .arr 0 9 [eSet s]), (1, .arr 1 1 ((incL X (ks.take j)).map I))]⟩) [(0, 0), (32, 1)] [(0, 0), (1, 1)] 0 [2, 3, 7, 8] 900 (finOk0 (by decide) (by decide)) (finOk0 (by decide) (by decide)) ⟨rfl, by (have fa := (And.intro @incL.eq_1 (And.intro @List.take_zero.{0} @List.foldl_nil.{0, 0})); exact zV)⟩ ?_
 rintro j σ' hj ⟨hR, rfl⟩ J hcJ hJ
 by_cases hlt : j < ks.length
 ·obtain ⟨z, hz⟩ : ∃ z, ks[j] = z := ⟨_, rfl⟩
  have hin := hk z (by rw [← hz]; exact List.getElem_mem hlt)
  have ht := incL_take X ks hlt
  have hYl := incL_len (ks.take j) X
  have hYb := bgd hk hl hX j
  have hD := fitB_drop s.co (incL X (ks.take j)) ks hlt
  obtain ⟨Y, hYe⟩ : ∃ Y, incL X (ks.take j) = Y := ⟨_, rfl⟩
  rw [hYe, hz] at ht
  rw [hYe, hz] at hD
  rw [hYe] at hYl hYb hR
  have A := incAt (X := Y) (z := z) hin.1 (by omega) hYb
  have a1 := A.lt
  have a2 := A.up
  have a3 := A.st
  have hnl := inc1_len Y z
  have hg1 := inc1_get (bag := Y) hin.1 (by omega) z.toNat
  rw [if_pos (by omega)] at hg1
  obtain ⟨Z, hZ⟩ : ∃ Z, inc1 Y z = Z := ⟨_, rfl⟩
  rw [hZ] at ht a3 hnl hg1 hD
  have d4 : z.toNat < Z.length := by omega
  have d5 : Z[z.toNat] = Z.getD z.toNat 0 := by simp [d4]
  rw [hYe]
  by_cases hc : s.co < Z.getD z.toNat 0
  ·rw [if_pos hc] at hD
   (have fa := (And.intro hz (And.intro a2 (And.intro a3 d5))); (repeat' first | refine zQ ?_ | (refine zN ?_; intro K hC hK) | ((repeat clear hJo hJU hJC Jo JU JC); (repeat (fail_if_success (refine hK _ ?_)); clear hK hC K); refine hK _ ?_; clear hK hC K) | (refine zC ?_ ?_ <;> intro hb) | (refine zK ?_; intro Jo JU JC hJo hJU hJC)) <;> (try clear fa))
   refine AW_ret ?_; refine zU ?_; refine ⟨_, .rfl', .inr rfl, ?_, [], 2, finOk_nil, ?_⟩ <;> (have fa := zT; first | exact zE0 | (refine zE ?_; try clear fa))
   rw [hR, hD]
  ·rw [if_neg hc] at hD
   (have fa := (And.intro hz (And.intro a2 (And.intro a3 d5))); (repeat' first | refine zQ ?_ | (refine zN ?_; intro K hC hK) | ((repeat clear hJo hJU hJC Jo JU JC); (repeat (fail_if_success (refine hK _ ?_)); clear hK hC K); refine hK _ ?_; clear hK hC K) | (refine zC ?_ ?_ <;> intro hb) | (refine zK ?_; intro Jo JU JC hJo hJU hJC)) <;> (try clear fa))
   refine hJ _ hlt ⟨?_, by (have fa := ht; exact zV)⟩
   rw [hR, hD, ht]
 ·(have fa := zT; (repeat' first | refine zQ ?_ | (refine zN ?_; intro K hC hK) | ((repeat clear hJo hJU hJC Jo JU JC); (repeat (fail_if_success (refine hK _ ?_)); clear hK hC K); refine hK _ ?_; clear hK hC K) | (refine zC ?_ ?_ <;> intro hb) | (refine zK ?_; intro Jo JU JC hJo hJU hJC)) <;> (try clear fa))
  refine AW_ret ?_; refine zU ?_; refine ⟨_, .rfl', .inr rfl, ?_, [], 2, finOk_nil, ?_⟩ <;> (have fa := zT; first | exact zE0 | (refine zE ?_; try clear fa))
  rw [hR, List.drop_eq_nil_of_le (by omega)]; rfl
@[go_sem] theorem nobL_rep (f : Nat → Option Nat) (x : Int) : ∀ n : Nat, nobL f (List.replicate n (I x)) = true
 | 0 => rfl
 | n + 1 => by rw [List.replicate_succ]; simp only [nobL, AV.nob, nobL_rep f x n]; rfl
theorem own_bagOf (s : TSet) (hv : chkErr s = 0) (ks : List Int) (hk : ∀ z ∈ ks, 0 ≤ z ∧ z < plainI s) (hl : ks.length ≤ 1000) : AOwn Tryz.prog 169 [eSet s, eInts false ks] (.rsl 0 0 0 (plainI s).toNat) [(0, .arr 0 1 ((cntL ks (plainI s).toNat).map I))] := by
 obtain ⟨p1, p2, p3, p4⟩ := plain_kinds hv
 have CP := says_Plain s (by have := (valid_of hv).su3; omega)
 rw [p1] at CP
 obtain ⟨P, hP⟩ : ∃ P : Nat, plainI s = (P : Int) := ⟨(plainI s).toNat, by omega⟩
 rw [hP] at CP p3 p4 hk ⊢
 rw [Int.toNat_natCast]
 have CT := v_put 0 (List.replicate P 0) ks (fun z hz => by rw [List.length_replicate]; exact hk z hz) hl (fun i => by rw [List.getD_eq_getElem?_getD, List.getElem?_replicate]; split <;> simp) (by rw [List.length_replicate]; omega)
 have e0 : incL (List.replicate P 0) ks = cntL ks P := rfl
 rw [e0] at CT
 simp only [List.length_replicate] at CT
 have hr : List.replicate P (AV.v (.int .i64 0)) = (List.replicate P 0).map I := by rw [List.map_replicate]
 refine acall_ofW (nx := 0) (ne := 0) tysGood (DD_ok tysGood mixed _) Tryz.func169 (by rfl) (by rfl) (by simp [Tryz.ntmps169]) (fun p hp => by cases hp) ?_; rw [Tryz.ntmps169]; let tb := ord_169; let lv := live_169
 (have fa := hr; (repeat' first | refine zS (CP) ?_ | refine zJ (tg [64]) (CT) ?_ | refine zQ ?_ | (refine zN ?_; intro K hC hK) | ((repeat clear hJo hJU hJC Jo JU JC); (repeat (fail_if_success (refine hK _ ?_)); clear hK hC K); refine hK _ ?_; clear hK hC K) | (refine zC ?_ ?_ <;> intro hb) | (refine zK ?_; intro Jo JU JC hJo hJU hJC)) <;> (try clear fa))
 refine AW_ret ?_; refine zU ?_; refine ⟨_, .rfl', .inr rfl, ?_, [(64, 0)], 2, finOk0 (by decide) (by decide), ?_⟩ <;> (have fa := zT; first | exact zE0 | (refine zE ?_; try clear fa))
theorem v_meld (x : Int) (s : TSet) (hv : chkErr s = 0) (d : Bool) : AEx Tryz.prog 109 [.ref 0 0 0 0, eSet s, B d] (srcH x) (fun a : Gp × Int => eGp a.1) (fun a => srcH a.2) (fun a => (1 ≤ a.1.wh ∧ a.1.wh ≤ 3) ∧ (0 ≤ a.1.kd ∧ a.1.kd < plainI s) ∧ (d = false → a.1.wh ≤ 2 ∧ a.1.op = false) ∧ (d = true → a.1.wh ≠ 3 → a.1.op = true)) := by
 obtain ⟨p1, p2, p3, p4⟩ := plain_kinds hv
 have CP := says_Plain s (by have := (valid_of hv).su3; omega)
 rw [p1] at CP
 obtain ⟨P, hP⟩ : ∃ P, plainI s = P := ⟨_, rfl⟩
 rw [hP] at CP p3 p4 ⊢
 have b1 := belX_rg (x := x) (n := 2) (by omega) (by omega)
 have b2 := belX_rg (x := nextX x) (n := P) (by omega) (by omega)
 have CB := v_Below (nextX x) P (by omega)
 unfold AEx srcH
 by_cases hd : d = true ∧ belX (nextX (nextX x)) 4 = 0
 ·obtain ⟨rfl, h4⟩ := hd
  refine acall_ofW (nx := 64) (ne := 1) tysGood (DD_ok tysGood mixed _) Tryz.func109 (by rfl) (by rfl) (by simp [Tryz.ntmps109]) (by simp) ?_; rw [Tryz.ntmps109]; let tb := ord_109; let lv := live_109
  (have fa := @srcH.eq_1; (repeat' first | refine zS (CP) ?_ | refine zJ (tg [0]) (v_Range _ 1 2 (by omega) (by omega) (by omega)) ?_ | refine zJ (tg [0]) (CB) ?_ | refine zJ (tg [0]) (v_Odds _ 4 (by omega)) ?_ | refine zJ (tg [0]) (v_Odds _ 2 (by omega)) ?_ | refine zQ ?_ | (refine zN ?_; intro K hC hK) | ((repeat clear hJo hJU hJC Jo JU JC); (repeat (fail_if_success (refine hK _ ?_)); clear hK hC K); refine hK _ ?_; clear hK hC K) | (refine zC ?_ ?_ <;> intro hb) | (refine zK ?_; intro Jo JU JC hJo hJU hJC)) <;> (try clear fa))
  refine AW_ret ?_; refine zU ?_; refine ⟨_, .rfl', .inr rfl, ?_, [(0, 0)], 2, ⟨by decide, by decide, by decide⟩, ?_⟩ <;> (have fa := zT; first | exact zE0 | (refine zE ?_; try clear fa))
  exact ⟨(⟨3, belX (nextX x) P, belX (nextX (nextX (nextX x))) 2 == 0⟩, _), ⟨⟨by simp, by simp⟩, b2, by simp, by simp⟩, rfl, rfl⟩
 ·cases d with
  | true =>
   have h4 : ¬ belX (nextX (nextX x)) 4 = 0 := fun h => hd ⟨rfl, h⟩
   refine acall_ofW (nx := 64) (ne := 1) tysGood (DD_ok tysGood mixed _) Tryz.func109 (by rfl) (by rfl) (by simp [Tryz.ntmps109]) (by simp) ?_; rw [Tryz.ntmps109]; let tb := ord_109; let lv := live_109
   (have fa := @srcH.eq_1; (repeat' first | refine zS (CP) ?_ | refine zJ (tg [0]) (v_Range _ 1 2 (by omega) (by omega) (by omega)) ?_ | refine zJ (tg [0]) (CB) ?_ | refine zJ (tg [0]) (v_Odds _ 4 (by omega)) ?_ | refine zQ ?_ | (refine zN ?_; intro K hC hK) | ((repeat clear hJo hJU hJC Jo JU JC); (repeat (fail_if_success (refine hK _ ?_)); clear hK hC K); refine hK _ ?_; clear hK hC K) | (refine zC ?_ ?_ <;> intro hb) | (refine zK ?_; intro Jo JU JC hJo hJU hJC)) <;> (try clear fa))
   refine AW_ret ?_; refine zU ?_; refine ⟨_, .rfl', .inr rfl, ?_, [(0, 0)], 2, ⟨by decide, by decide, by decide⟩, ?_⟩ <;> (have fa := zT; first | exact zE0 | (refine zE ?_; try clear fa))
   exact ⟨(⟨1 + belX x 2, belX (nextX x) P, true⟩, _), ⟨⟨by dsimp only; omega, by dsimp only; omega⟩, b2, by simp, by simp⟩, rfl, rfl⟩
  | false =>
   refine acall_ofW (nx := 64) (ne := 1) tysGood (DD_ok tysGood mixed _) Tryz.func109 (by rfl) (by rfl) (by simp [Tryz.ntmps109]) (by simp) ?_; rw [Tryz.ntmps109]; let tb := ord_109; let lv := live_109
   (have fa := @srcH.eq_1; (repeat' first | refine zS (CP) ?_ | refine zJ (tg [0]) (v_Range _ 1 2 (by omega) (by omega) (by omega)) ?_ | refine zJ (tg [0]) (CB) ?_ | refine zQ ?_ | (refine zN ?_; intro K hC hK) | ((repeat clear hJo hJU hJC Jo JU JC); (repeat (fail_if_success (refine hK _ ?_)); clear hK hC K); refine hK _ ?_; clear hK hC K) | (refine zC ?_ ?_ <;> intro hb) | (refine zK ?_; intro Jo JU JC hJo hJU hJC)) <;> (try clear fa))
   refine AW_ret ?_; refine zU ?_; refine ⟨_, .rfl', .inr rfl, ?_, [(0, 0)], 2, ⟨by decide, by decide, by decide⟩, ?_⟩ <;> (have fa := zT; first | exact zE0 | (refine zE ?_; try clear fa))
   exact ⟨(⟨1 + belX x 2, belX (nextX x) P, false⟩, _), ⟨⟨by dsimp only; omega, by dsimp only; omega⟩, b2, fun _ => ⟨by dsimp only; omega, rfl⟩, by simp⟩, rfl, rfl⟩
end Go.Proofs.YthblfhgofopcaaaGreat
