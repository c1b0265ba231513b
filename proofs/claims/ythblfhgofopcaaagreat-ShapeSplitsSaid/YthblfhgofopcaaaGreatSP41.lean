/-
  Parts of the proof: LitV.
-/
import Derived.Test.YthblfhgofopcaaaGreatSP16
import Derived.Test.YthblfhgofopcaaaGreatSP40
import Derived.Test.YthblfhgofopcaaaGreatSP24
import Derived.Test.YthblfhgofopcaaaGreatSP26
set_option linter.all false
namespace Go.Proofs.YthblfhgofopcaaaGreat
open Go.RowKit
set_option maxRecDepth 100000
set_option maxHeartbeats 2000000
theorem says_kTotal (zs : List Int) (hz : zs.length ≤ 1000000) : ASays Tryz.prog 97 [eInts false zs] (I (sumW zs)) := by
 refine acall_ofW (nx := 0) (ne := 0) tysGood (DD_ok tysGood mixed _) Tryz.func97 (by rfl) (by rfl) (by simp [Tryz.ntmps97]) (fun p hp => by cases hp) ?_; rw [Tryz.ntmps97]; let tb := ord_97; let lv := live_97
 (have fa := zT; (repeat' first | refine zQ ?_ | (refine zN ?_; intro K hC hK) | ((repeat clear hJo hJU hJC Jo JU JC); (repeat (fail_if_success (refine hK _ ?_)); clear hK hC K); refine hK _ ?_; clear hK hC K) | (refine zC ?_ ?_ <;> intro hb) | (refine zK ?_; intro Jo JU JC hJo hJU hJC)) <;> (try clear fa))
 refine AW_forC zs.length (fun k σ => σ = ⟨900, [(0, eInts false zs), (3, I (sumW (zs.take k))), (4, I k)], []⟩) [] [] 0 [0, 3, 4] 900 (finOk0 (by decide) (by decide)) (finOk0 (by decide) (by decide)) (by (have fa := zT; exact zV)) ?_
 rintro k σ' hk rfl J hcJ hJ
 by_cases h : k < zs.length
 ·have hs := sumW_take zs h
  (have fa := hs; (repeat' first | refine zQ ?_ | (refine zN ?_; intro K hC hK) | ((repeat clear hJo hJU hJC Jo JU JC); (repeat (fail_if_success (refine hK _ ?_)); clear hK hC K); refine hK _ ?_; clear hK hC K) | (refine zC ?_ ?_ <;> intro hb) | (refine zK ?_; intro Jo JU JC hJo hJU hJC)) <;> (try clear fa))
  exact hJ _ h (by (have fa := zT; exact zV))
 ·(have fa := zT; (repeat' first | refine zQ ?_ | (refine zN ?_; intro K hC hK) | ((repeat clear hJo hJU hJC Jo JU JC); (repeat (fail_if_success (refine hK _ ?_)); clear hK hC K); refine hK _ ?_; clear hK hC K) | (refine zC ?_ ?_ <;> intro hb) | (refine zK ?_; intro Jo JU JC hJo hJU hJC)) <;> (try clear fa))
  refine AW_ret ?_; refine zU ?_; refine ⟨_, .rfl', .inr rfl, ?_, [], 2, finOk_nil, ?_⟩ <;> (have fa := zT; first | exact zE0 | (refine zE ?_; try clear fa))
  obtain rfl : k = zs.length := by omega
  rw [List.take_length]
def plainW (s : TSet) : Int := IntKind.i64.wrap (IntKind.i64.wrap (sumW s.su + s.wi) + s.dr)
theorem says_Plain (s : TSet) (hz : s.su.length ≤ 1000000) : ASays Tryz.prog 108 [eSet s] (I (plainW s)) := by
 have CT := says_kTotal s.su hz
 refine acall_ofW (nx := 0) (ne := 0) tysGood (DD_ok tysGood mixed _) Tryz.func108 (by rfl) (by rfl) (by simp [Tryz.ntmps108]) (fun p hp => by cases hp) ?_; rw [Tryz.ntmps108]; let tb := ord_108; let lv := live_108
 (have fa := zT; (repeat' first | refine zS (CT) ?_ | refine zQ ?_ | (refine zN ?_; intro K hC hK) | ((repeat clear hJo hJU hJC Jo JU JC); (repeat (fail_if_success (refine hK _ ?_)); clear hK hC K); refine hK _ ?_; clear hK hC K) | (refine zC ?_ ?_ <;> intro hb) | (refine zK ?_; intro Jo JU JC hJo hJU hJC)) <;> (try clear fa))
 refine AW_ret ?_; refine zU ?_; refine ⟨_, .rfl', .inr rfl, ?_, [], 2, finOk_nil, ?_⟩ <;> (have fa := zT; first | exact zE0 | (refine zE ?_; try clear fa))
 rfl
theorem plainW_eq {s : TSet} (hz : ∀ z ∈ s.su, 0 ≤ z ∧ z ≤ 9) (hl : s.su.length ≤ 20) (hw : 0 ≤ s.wi ∧ s.wi ≤ 9) (hd : 0 ≤ s.dr ∧ s.dr ≤ 9) : plainW s = plainI s := by
 have h1 := sumW_eq (m := 9) hz (by omega) (by omega)
 have h2 := sum_bound (m := 9) hz
 have h3 := sumI_sum s.su
 unfold plainW plainI
 rw [h1, h3, vwrap_in (n := s.su.sum + s.wi) (by omega) (by omega), vwrap_in (by omega) (by omega)]; omega
set_option maxHeartbeats 4000000 in
theorem v_Little (x m : Int) (hm : 1 ≤ m ∧ m ≤ 3) : AEx Tryz.prog 83 [.ref 0 0 0 0, I m] (srcH x) (fun a : TSet × Int => eSet a.1) (fun a => srcH a.2) (fun a => LitNum a.1 m ∧ chkErr a.1 = 0) := by
 unfold AEx srcH
 refine acall_le ?_
 refine acall_ofW (nx := 64) (ne := 1) tysGood (DD_ok tysGood mixed _) Tryz.func83 (by rfl) (by rfl) (by simp [Tryz.ntmps83]) (by simp) ?_; rw [Tryz.ntmps83]; let tb := ord_83; let lv := live_83
 (have fa := @srcH.eq_1; (repeat' first | refine zJ (tg [0]) (v_Range _ 2 4 (by omega) (by omega) (by omega)) ?_ | refine zJ (tg [0]) (v_Below _ 3 (by omega)) ?_ | refine zJ (tg [0]) (v_Below _ 2 (by omega)) ?_ | refine zJ (tg [0]) (v_Range _ 1 2 (by omega) (by omega) (by omega)) ?_ | refine zQ ?_ | (refine zN ?_; intro K hC hK) | ((repeat clear hJo hJU hJC Jo JU JC); (repeat (fail_if_success (refine hK _ ?_)); clear hK hC K); refine hK _ ?_; clear hK hC K) | (refine zC ?_ ?_ <;> intro hb) | (refine zK ?_; intro Jo JU JC hJo hJU hJC)) <;> (try clear fa))
 have b1 := belX_rg (x := x) (n := 3) (by omega) (by omega)
 have b2 := belX_rg (x := nextX x) (n := 3) (by omega) (by omega)
 have b3 := belX_rg (x := nextX (nextX x)) (n := 3) (by omega) (by omega)
 have b4 := belX_rg (x := nextX (nextX (nextX x))) (n := 2) (by omega) (by omega)
 have b5 := belX_rg (x := nextX (nextX (nextX (nextX x)))) (n := 3) (by omega) (by omega)
 have b6 := belX_rg (x := nextX (nextX (nextX (nextX (nextX x))))) (n := 2) (by omega) (by omega)
 generalize belX x 3 = co at *
 generalize belX (nextX x) 3 = wi at *
 generalize belX (nextX (nextX x)) 3 = dr at *
 generalize belX (nextX (nextX (nextX x))) 2 = fl at *
 generalize belX (nextX (nextX (nextX (nextX x)))) 3 = de at *
 generalize belX (nextX (nextX (nextX (nextX (nextX x))))) 2 = n0 at *
 generalize nextX (nextX (nextX (nextX (nextX (nextX x))))) = x1 at *
 refine AW_loopGV (wk_virtA 272 0 9 500 0 1 1 (by rfl) (by rfl) (by rfl)) (α := Int × Nat × List Int × Int) (fun a => [(0, .ref 0 0 0 0), (1, I m), (4, .ref 1 0 0 0), (5, .ref 2 0 0 0), (6, I a.1)])
  (fun a => [(0, .arr 0 1 [U a.2.2.2]), (1, .arr 0 9 [.agg [I 0, nilA, I 0, I 0, I 0, I 0, I 0, I 0, nilA]]), (2, .arr 0 9 [.agg [I 3, .rsl 3 a.2.1 0 a.2.2.1.length, I wi, I dr, I fl, I (2 + co), I m, I de, nilA]]), (3, .arr a.2.1 1 (a.2.2.1.map I))])
  (fun a => a.1.toNat) (fun a => 0 ≤ a.1 ∧ a.1 + a.2.2.1.length ≤ 2 ∧ 1 ≤ a.1 + a.2.2.1.length ∧ ∀ z ∈ a.2.2.1, 3 ≤ z ∧ z ≤ 5) [(0, 0), (64, 1), (272, 2), (500, 3)] [(0, 0), (1, 1), (2, 2), (3, 3)] 0 [0, 1, 4, 5, 6] 900 (⟨by decide, by decide, by decide⟩) (⟨by decide, by decide, by decide⟩) (1 + n0, 0, [], x1) ⟨by dsimp only; omega, by simp; omega, by simp; omega, by simp⟩ (by (have fa := (And.intro @virtE.eq_1 @nilA.eq_1); exact zSF)) ?_
 rintro ⟨i, g, su, x2⟩ ⟨i0, i1, i2, hsu⟩ J hcJ hJ
 dsimp only at i0 i1 i2 hsu hJ ⊢
 by_cases h : 0 < i
 ·(have fa := @srcH.eq_1; (repeat' first | refine zJ (tg [0]) (v_Range _ 3 5 (by omega) (by omega) (by omega)) ?_ | refine zQ ?_ | (refine zN ?_; intro K hC hK) | ((repeat clear hJo hJU hJC Jo JU JC); (repeat (fail_if_success (refine hK _ ?_)); clear hK hC K); refine hK _ ?_; clear hK hC K) | (refine zC ?_ ?_ <;> intro hb) | (refine zK ?_; intro Jo JU JC hJo hJU hJC)) <;> (try clear fa))
  have b7 := belX_rg (x := x2) (n := 3) (by omega) (by omega)
  refine hJ _ (i - 1, g + 1, su ++ [3 + belX x2 3], nextX x2) (by dsimp only; omega) ⟨by dsimp only; omega, by simp; omega, by simp; omega, fun z hz => ?_⟩ (by (have fa := @List.length_append.{0}; exact zSF))
  rcases List.mem_append.1 hz with hz | hz
  ·exact hsu z hz
  ·simp at hz; omega
 ·(have fa := zT; (repeat' first | refine zQ ?_ | (refine zN ?_; intro K hC hK) | ((repeat clear hJo hJU hJC Jo JU JC); (repeat (fail_if_success (refine hK _ ?_)); clear hK hC K); refine hK _ ?_; clear hK hC K) | (refine zC ?_ ?_ <;> intro hb) | (refine zK ?_; intro Jo JU JC hJo hJU hJC)) <;> (try clear fa))
  have hsl : 1 ≤ su.length ∧ su.length ≤ 2 := by omega
  clear h i0 i1 i2
  have hs1 := sum_bound (zs := su) (m := 5) fun z hz => by have := hsu z hz; omega
  have hs3 : 3 ≤ su.sum := by
   cases su with
   | nil => simp at hsl
   | cons a l =>
    have h1 := hsu a (by simp)
    have h2 := sum_bound (zs := l) (m := 5) fun z hz => by have := hsu z (by simp [hz]); omega
    simp; omega
  have hP : ∀ co wi dr re, 0 ≤ wi ∧ wi ≤ 4 → 0 ≤ dr ∧ dr ≤ 3 → plainW ⟨3, su, wi, dr, fl, co, m, de, re⟩ = wi + dr + su.sum := fun co wi dr re h1 h2 => by
   rw [plainW_eq (fun z hz => by have := hsu z hz; omega) (by dsimp only; omega) (by dsimp only; omega) (by dsimp only; omega)]
   unfold plainI; rw [sumI_sum]
  refine AW_loopGV (wk_virtA 2 0 9 500 0 1 8 (by rfl) (by rfl) (by rfl)) (α := Int × Int × Int) (fun a => [(0, .ref 0 0 0 0), (4, .ref 1 0 0 0), (5, .ref 2 0 0 0), (7, I (3 * (3 * m + 1) + 1 + de))])
   (fun a => [(0, .arr 0 1 [U x2]), (1, .arr 0 9 [.agg [I 0, nilA, I 0, I 0, I 0, I 0, I 0, I 0, nilA]]), (2, .arr 0 9 [.agg [I 3, .rsl 3 g 0 su.length, I a.2.1, I a.2.2, I fl, I a.1, I m, I de, .rsl 4 0 0 0]]), (3, .arr g 1 (su.map I)), (4, .arr 0 1 [])])
   (fun a => (4 - a.1).toNat + (4 - a.2.1).toNat + (3 - a.2.2).toNat) (fun a => (2 ≤ a.1 ∧ a.1 ≤ 4) ∧ (0 ≤ a.2.1 ∧ a.2.1 ≤ 4) ∧ (0 ≤ a.2.2 ∧ a.2.2 ≤ 3)) [(0, 0), (1, 1), (2, 2), (3, 3), (500, 4)] [(0, 0), (1, 1), (2, 2), (3, 3), (4, 4)] 0 [0, 4, 5, 7] 900 (⟨by decide, by decide, by decide⟩) (⟨by decide, by decide, by decide⟩) (2 + co, wi, dr) ⟨by dsimp only; omega, by dsimp only; omega, by dsimp only; omega⟩ (by (have fa := (And.intro @virtE.eq_1 @nilA.eq_1); exact zSF)) ?_
  clear hJ hcJ J b1 b2 b3 co wi dr
  rintro ⟨co, wi, dr⟩ ⟨b1, b2, b3⟩ J hcJ hJ
  dsimp only at b1 b2 b3 hJ ⊢
  have CP := says_Plain ⟨3, su, wi, dr, fl, co, m, de, []⟩ (by dsimp only; omega)
  rw [hP co wi dr [] b2 b3] at CP
  obtain ⟨P, hPe⟩ : ∃ P, wi + dr + su.sum = P := ⟨_, rfl⟩
  rw [hPe] at CP
  have hPc : 0 ≤ P * co ∧ P * co ≤ 100 := by
   rcases (show co = 2 ∨ co = 3 ∨ co = 4 by omega) with h | h | h <;> rw [h] <;> omega
  have hP4 : co = 4 → P * co = 4 * P := fun h => by rw [h]; omega
  by_cases h : P * co + fl < 3 * (3 * m + 1) + 1 + de
  ·by_cases h1 : co < 4
   ·(have fa := @eSet.eq_1; (repeat' first | refine zS (CP) ?_ | refine zQ ?_ | (refine zN ?_; intro K hC hK) | ((repeat clear hJo hJU hJC Jo JU JC); (repeat (fail_if_success (refine hK _ ?_)); clear hK hC K); refine hK _ ?_; clear hK hC K) | (refine zC ?_ ?_ <;> intro hb) | (refine zK ?_; intro Jo JU JC hJo hJU hJC)) <;> (try clear fa))
    refine hJ _ (co + 1, wi, dr) (by dsimp only; omega) ⟨by dsimp only; omega, b2, b3⟩ (by (have fa := zT; exact zSF))
   ·by_cases h2 : wi < 4
    ·(have fa := @eSet.eq_1; (repeat' first | refine zS (CP) ?_ | refine zQ ?_ | (refine zN ?_; intro K hC hK) | ((repeat clear hJo hJU hJC Jo JU JC); (repeat (fail_if_success (refine hK _ ?_)); clear hK hC K); refine hK _ ?_; clear hK hC K) | (refine zC ?_ ?_ <;> intro hb) | (refine zK ?_; intro Jo JU JC hJo hJU hJC)) <;> (try clear fa))
     refine hJ _ (co, wi + 1, dr) (by dsimp only; omega) ⟨b1, by dsimp only; omega, b3⟩ (by (have fa := zT; exact zSF))
    ·by_cases h3 : dr < 3
     ·(have fa := @eSet.eq_1; (repeat' first | refine zS (CP) ?_ | refine zQ ?_ | (refine zN ?_; intro K hC hK) | ((repeat clear hJo hJU hJC Jo JU JC); (repeat (fail_if_success (refine hK _ ?_)); clear hK hC K); refine hK _ ?_; clear hK hC K) | (refine zC ?_ ?_ <;> intro hb) | (refine zK ?_; intro Jo JU JC hJo hJU hJC)) <;> (try clear fa))
      refine hJ _ (co, wi, dr + 1) (by dsimp only; omega) ⟨b1, b2, by dsimp only; omega⟩ (by (have fa := zT; exact zSF))
     ·exfalso
      have := hP4 (by omega)
      omega
  ·(have fa := @eSet.eq_1; (repeat' first | refine zS (CP) ?_ | refine zQ ?_ | (refine zN ?_; intro K hC hK) | ((repeat clear hJo hJU hJC Jo JU JC); (repeat (fail_if_success (refine hK _ ?_)); clear hK hC K); refine hK _ ?_; clear hK hC K) | (refine zC ?_ ?_ <;> intro hb) | (refine zK ?_; intro Jo JU JC hJo hJU hJC)) <;> (try clear fa))
   clear hJ hcJ J hP4
   have hPe' : ∀ re, plainW ⟨3, su, wi, dr, fl, co, m, de, re⟩ = P := fun re => by rw [hP co wi dr re b2 b3, hPe]
   refine AW_loopG (α := Nat × Nat × List Int × Int) (fun a => [(0, .ref 0 0 0 0), (4, .ref 1 0 0 0), (5, .ref 2 0 0 0), (8, I a.1)])
    (fun a => [(0, .arr 0 1 [U a.2.2.2]), (1, .arr 0 9 [.agg [I 0, nilA, I 0, I 0, I 0, I 0, I 0, I 0, nilA]]), (2, .arr 0 9 [.agg [I 3, .rsl 3 g 0 su.length, I wi, I dr, I fl, I co, I m, I de, .rsl 4 a.2.1 0 a.2.2.1.length]]), (3, .arr g 1 (su.map I)), (4, .arr a.2.1 1 (a.2.2.1.map I))])
    (fun a => (P - a.1).toNat) (fun a => (a.1 : Int) ≤ P ∧ a.2.2.1.length ≤ a.1 ∧ risErr P (-1) a.2.2.1 = 0 ∧ ∀ z ∈ a.2.2.1, z < (a.1 : Int)) [(0, 0), (1, 1), (2, 2), (3, 3), (4, 4)] [(0, 0), (1, 1), (2, 2), (3, 3), (4, 4)] 0 [0, 4, 5, 8] 900 (⟨by decide, by decide, by decide⟩) (⟨by decide, by decide, by decide⟩) (0, 0, [], x2) ⟨by dsimp only; omega, by simp, rfl, by simp⟩ (by (have fa := zT; exact zSF)) ?_
   clear x2
   rintro ⟨k, g4, re, x2⟩ ⟨k0, k1, k2, k3⟩ J hcJ hJ
   dsimp only at k0 k1 k2 k3 hJ ⊢
   have CP := says_Plain ⟨3, su, wi, dr, fl, co, m, de, re⟩ (by dsimp only; omega)
   rw [hPe' re] at CP
   by_cases hk : (k : Int) < P
   ·by_cases ho : belX x2 6 = 0
    ·(have fa := (And.intro @eSet.eq_1 @srcH.eq_1); (repeat' first | refine zS (CP) ?_ | refine zJ (tg [0]) (v_Odds _ 6 (by omega)) ?_ | refine zQ ?_ | (refine zN ?_; intro K hC hK) | ((repeat clear hJo hJU hJC Jo JU JC); (repeat (fail_if_success (refine hK _ ?_)); clear hK hC K); refine hK _ ?_; clear hK hC K) | (refine zC ?_ ?_ <;> intro hb) | (refine zK ?_; intro Jo JU JC hJo hJU hJC)) <;> (try clear fa))
     refine hJ _ (k + 1, g4 + 1, re ++ [(k : Int)], nextX x2) (by dsimp only; omega) ⟨by dsimp only; omega, by simp; omega, risErr_snoc k2 k3 (by omega) (by omega) hk, fun z hz => ?_⟩ (by (have fa := @List.length_append.{0}; exact zSF))
     rcases List.mem_append.1 hz with hz | hz
     ·have := k3 z hz; dsimp only; omega
     ·simp at hz; dsimp only; omega
    ·(have fa := (And.intro @eSet.eq_1 @srcH.eq_1); (repeat' first | refine zS (CP) ?_ | refine zJ (tg [0]) (v_Odds _ 6 (by omega)) ?_ | refine zQ ?_ | (refine zN ?_; intro K hC hK) | ((repeat clear hJo hJU hJC Jo JU JC); (repeat (fail_if_success (refine hK _ ?_)); clear hK hC K); refine hK _ ?_; clear hK hC K) | (refine zC ?_ ?_ <;> intro hb) | (refine zK ?_; intro Jo JU JC hJo hJU hJC)) <;> (try clear fa))
     refine hJ _ (k + 1, g4, re, nextX x2) (by dsimp only; omega) ⟨by dsimp only; omega, by dsimp only; omega, k2, fun z hz => ?_⟩ (by (have fa := zT; exact zSF))
     have := k3 z hz; dsimp only; omega
   ·(have fa := @eSet.eq_1; (repeat' first | refine zS (CP) ?_ | refine zQ ?_ | (refine zN ?_; intro K hC hK) | ((repeat clear hJo hJU hJC Jo JU JC); (repeat (fail_if_success (refine hK _ ?_)); clear hK hC K); refine hK _ ?_; clear hK hC K) | (refine zC ?_ ?_ <;> intro hb) | (refine zK ?_; intro Jo JU JC hJo hJU hJC)) <;> (try clear fa))
    refine AW_ret ?_; refine zU ?_; refine ⟨_, .rfl', .inr rfl, ?_, [(0, 0)], 2, ⟨by decide, by decide, by decide⟩, ?_⟩ <;> (have fa := zT; first | exact zE0 | (refine zE ?_; try clear fa))
    have HN : LitNum ⟨3, su, wi, dr, fl, co, m, de, re⟩ m := ⟨rfl, hsu, hsl.2, b2, b3, by dsimp only; omega, b1, rfl, by dsimp only; omega⟩
    have hPI : plainI ⟨3, su, wi, dr, fl, co, m, de, re⟩ = P := by unfold plainI; rw [sumI_sum]; exact hPe
    refine ⟨eSet ⟨3, su, wi, dr, fl, co, m, de, re⟩, ?_, (⟨3, su, wi, dr, fl, co, m, de, re⟩, x2), ⟨HN, HN.ok hm hsl.1 (by rw [hPI]; exact k2) (by rw [hPI]; exact h)⟩, rfl, rfl⟩
    unfold eSet
    refine LeV.agg ?_
    (repeat first | exact LeL.nil | (refine LeL.cons ?_ ?_; (· (first | exact LeV.nil _ _ | exact LeV.rfl' | exact LeV.eq rfl | exact LeV.sl _ _ _ | (simpa only [AV.low, lowL, lowL_eGps, lowL_I, lowL_eGp, lowL_eGps] using LeV.low _)))))
theorem says_Big : ASays Tryz.prog 66 [] (eSet bigT) := by
 refine asays_lo ?_
 refine acall_ofW (nx := 0) (ne := 0) tysGood (DD_ok tysGood mixed _) Tryz.func66 (by rfl) (by rfl) (by simp [Tryz.ntmps66]) (fun p hp => by cases hp) ?_; rw [Tryz.ntmps66]; let tb := ord_66; let lv := live_66
 (have fa := zT; (repeat' first | refine zQ ?_ | (refine zN ?_; intro K hC hK) | ((repeat clear hJo hJU hJC Jo JU JC); (repeat (fail_if_success (refine hK _ ?_)); clear hK hC K); refine hK _ ?_; clear hK hC K) | (refine zC ?_ ?_ <;> intro hb) | (refine zK ?_; intro Jo JU JC hJo hJU hJC)) <;> (try clear fa))
 refine AW_ret ?_; refine zU ?_; refine ⟨_, .rfl', .inr rfl, ?_, [], 2, finOk_nil, ?_⟩ <;> (have fa := zT; first | exact zE0 | (refine zE ?_; try clear fa))
 rfl
theorem says_Tiny : ASays Tryz.prog 67 [] (eSet tinyT) := by
 refine asays_lo ?_
 refine acall_ofW (nx := 0) (ne := 0) tysGood (DD_ok tysGood mixed _) Tryz.func67 (by rfl) (by rfl) (by simp [Tryz.ntmps67]) (fun p hp => by cases hp) ?_; rw [Tryz.ntmps67]; let tb := ord_67; let lv := live_67
 (have fa := zT; (repeat' first | refine zQ ?_ | (refine zN ?_; intro K hC hK) | ((repeat clear hJo hJU hJC Jo JU JC); (repeat (fail_if_success (refine hK _ ?_)); clear hK hC K); refine hK _ ?_; clear hK hC K) | (refine zC ?_ ?_ <;> intro hb) | (refine zK ?_; intro Jo JU JC hJo hJU hJC)) <;> (try clear fa))
 refine AW_ret ?_; refine zU ?_; refine ⟨_, .rfl', .inr rfl, ?_, [], 2, finOk_nil, ?_⟩ <;> (have fa := zT; first | exact zE0 | (refine zE ?_; try clear fa))
 rfl
theorem big_made : MadeS bigT := ⟨by decide +kernel, by decide⟩
theorem v_SetOf (x : Int) : AEx Tryz.prog 45 [.ref 0 0 0 0] (srcH x) (fun a : TSet × Int => eSet a.1) (fun a => srcH a.2) (fun a => MadeS a.1) := by
 have CL := fun x' => v_Little x' (1 + belX (nextX x) 2) (by have := belX_rg (x := nextX x) (n := 2) (by omega) (by omega); omega)
 unfold AEx srcH
 by_cases ho : belX x 6 = 0
 ·refine acall_ofW (nx := 64) (ne := 1) tysGood (DD_ok tysGood mixed _) Tryz.func45 (by rfl) (by rfl) (by simp [Tryz.ntmps45]) (by simp) ?_; rw [Tryz.ntmps45]; let tb := ord_45; let lv := live_45
  (have fa := @srcH.eq_1; (repeat' first | refine zJ (tg [0]) (v_Odds _ 6 (by omega)) ?_ | refine zS (says_Big) ?_ | refine zQ ?_ | (refine zN ?_; intro K hC hK) | ((repeat clear hJo hJU hJC Jo JU JC); (repeat (fail_if_success (refine hK _ ?_)); clear hK hC K); refine hK _ ?_; clear hK hC K) | (refine zC ?_ ?_ <;> intro hb) | (refine zK ?_; intro Jo JU JC hJo hJU hJC)) <;> (try clear fa))
  refine AW_ret ?_; refine zU ?_; refine ⟨_, .rfl', .inr rfl, ?_, [(0, 0)], 2, ⟨by decide, by decide, by decide⟩, ?_⟩ <;> (have fa := zT; first | exact zE0 | (refine zE ?_; try clear fa))
  exact ⟨(bigT, _), big_made, rfl, rfl⟩
 ·refine acall_ofW (nx := 64) (ne := 1) tysGood (DD_ok tysGood mixed _) Tryz.func45 (by rfl) (by rfl) (by simp [Tryz.ntmps45]) (by simp) ?_; rw [Tryz.ntmps45]; let tb := ord_45; let lv := live_45
  (have fa := @srcH.eq_1; (repeat' first | refine zJ (tg [0]) (v_Odds _ 6 (by omega)) ?_ | refine zJ (tg [0]) (v_Range _ 1 2 (by omega) (by omega) (by omega)) ?_ | refine zQ ?_ | (refine zN ?_; intro K hC hK) | ((repeat clear hJo hJU hJC Jo JU JC); (repeat (fail_if_success (refine hK _ ?_)); clear hK hC K); refine hK _ ?_; clear hK hC K) | (refine zC ?_ ?_ <;> intro hb) | (refine zK ?_; intro Jo JU JC hJo hJU hJC)) <;> (try clear fa))
  (have fa := @srcH.eq_1; refine zX (tg [0]) (CL _) ?_; clear hJo hJU hJC Jo JU JC; (try clear fa)); intro xr hxr
  (have fa := zT; (repeat' first | refine zQ ?_ | (refine zN ?_; intro K hC hK) | ((repeat clear hJo hJU hJC Jo JU JC); (repeat (fail_if_success (refine hK _ ?_)); clear hK hC K); refine hK _ ?_; clear hK hC K) | (refine zC ?_ ?_ <;> intro hb) | (refine zK ?_; intro Jo JU JC hJo hJU hJC)) <;> (try clear fa))
  refine AW_ret ?_; refine zU ?_; refine ⟨_, .rfl', .inr rfl, ?_, [(0, 0)], 2, ⟨by decide, by decide, by decide⟩, ?_⟩ <;> (have fa := zT; first | exact zE0 | (refine zE ?_; try clear fa))
  exact ⟨xr, ⟨hxr.2, hxr.1.fl.2⟩, rfl, rfl⟩
end Go.Proofs.YthblfhgofopcaaaGreat
