/-
  Parts of the proof: KitF.
-/
import Derived.Test.YthblfhgofopcaaaGreatHA17
import Derived.Test.YthblfhgofopcaaaGreatHA45
set_option linter.all false
namespace Go.Proofs.YthblfhgofopcaaaGreat
open Go.RowKit
set_option maxRecDepth 100000
set_option maxHeartbeats 2000000
structure FilI (s : TSet) (P : Nat) (ms : List Gp) (n : Int) (X Y : List Int) : Prop where
 f : Fil s P ms X Y
 s : X.sum ≤ n
theorem Fil.sw {s : TSet} {P : Nat} {ms : List Gp} {X Y : List Int} (F : Fil s P ms X Y) (hP : P ≤ 34) (hco : s.co ≤ 4) : sumW X = X.sum := sumW_eq (m := 4) (fun z hz => by
  obtain ⟨i, hi, rfl⟩ := List.mem_iff_getElem.1 hz
  have := F.rg i
  have e : X.getD i 0 = X[i] := by simp [hi]
  rw [e] at this; omega) (by omega) (by have := F.xl; omega)
theorem FilI.one {s : TSet} {P : Nat} {ms : List Gp} {n : Int} {X Y : List Int} (F : FilI s P ms n X Y) {k : Int} (h0 : 0 ≤ k) (h1 : k < (P : Int)) (hf : Y.getD k.toNat 0 < s.co) (hs : X.sum < n) : FilI s P ms n (inc1 X k) (inc1 Y k) ∧ (inc1 X k).sum = X.sum + 1 := by
 have := inc1_sum (X := X) h0 (by have := F.f.xl; omega)
 exact ⟨⟨F.f.one h0 h1 hf, by omega⟩, this⟩
set_option maxHeartbeats 20000000 in
theorem v_Filled (x : Int) (s : TSet) (hM : MadeS s) (h : Hd) (Mo : MsOk s h.me) (hl : h.bag.length ≤ 1000) (hF : ∃ P X Y, plainI s = ((P : Nat) : Int) ∧ Fil s P h.me X Y) : AEx Tryz.prog 132 [.ref 0 0 0 0, eSet s, eHd false h, B true] (srcH x) (fun _ : List Int × Int => .agg [.rsl 1 0 0 (plainI s).toNat, eGps true h.me]) (fun a => [(0, .arr 0 1 [U a.2]), (1, .arr 0 1 (a.1.map I))]) (fun a => fullB s ⟨a.1, h.me⟩ = true ∧ a.1.length = (plainI s).toNat) := by
 have hv := hM.ok
 obtain ⟨p1, p2, p3, p4⟩ := plain_kinds hv
 have V := valid_of hv
 have hme := V.me
 have hco := V.co
 have CP := says_Plain s (by have := V.su3; omega)
 rw [p1] at CP
 obtain ⟨P, X0, Y0, hP, F0⟩ := hF
 have FZ := F0.zero Mo hv hP
 clear F0
 have hml := Mo.ln
 rw [hP] at CP p3 p4 ⊢
 rw [Int.toNat_natCast]
 clear V
 obtain ⟨bag, ms⟩ := h
 dsimp only at Mo hl FZ hml ⊢
 unfold AEx srcH
 refine acall_le ?_
 have hr := rep_I P
 refine acall_ofW (nx := 64) (ne := 1) tysGood (DD_ok tysGood mixed _) Tryz.func132 (by rfl) (by rfl) (by simp [Tryz.ntmps132]) (by simp) ?_; rw [Tryz.ntmps132]; let tb := ord_132; let lv := live_132
 (have fa := (And.intro @srcH.eq_1 hr); (repeat' first | refine zS (CP) ?_ | refine zQ ?_ | (refine zN ?_; intro K hC hK) | ((repeat clear hJo hJU hJC Jo JU JC); (repeat (fail_if_success (refine hK _ ?_)); clear hK hC K); refine hK _ ?_; clear hK hC K) | (refine zC ?_ ?_ <;> intro hb) | (refine zK ?_; intro Jo JU JC hJo hJU hJC)) <;> (try clear fa))
 refine AW_forC ms.length (fun j σ => σ = ⟨900, [(0, .ref 0 0 0 0), (3, B true), (5, .ref 1 0 0 0), (6, .ref 2 0 0 0), (8, .ref 3 0 0 0), (9, .ref 4 0 0 0), (10, .rsl 7 0 0 P), (11, I j)], [(0, .arr 0 1 [U x]), (1, .arr 0 9 [eSet s]), (2, .arr 0 2 [eHd false ⟨bag, ms⟩]), (3, .arr 0 2 [.agg [nilA, nilA]]), (4, .arr 0 2 [.agg [.rsl 5 0 0 P, .rsl 6 1 0 ms.length]]), (5, .arr 0 1 ((List.replicate P 0).map I)), (6, .arr 1 3 (ms.map eGp)), (7, .arr 0 1 ((totL (List.replicate P 0) (ms.take j)).map I))]⟩) [(0, 0), (64, 1), (80, 2), (96, 3), (240, 4), (144, 5), (160, 6), (1168, 7)] [(0, 0), (1, 1), (2, 2), (3, 3), (4, 4), (5, 5), (6, 6), (7, 7)] 0 [0, 3, 5, 6, 8, 9, 10, 11] 900 (⟨by decide, by decide, by decide⟩) (⟨by decide, by decide, by decide⟩) (by (have fa := (And.intro @totL.eq_1 (And.intro @List.take_zero.{0} @List.foldl_nil.{0, 0})); exact zV)) ?_
 rintro j σ' hj rfl J hcJ hJ
 by_cases hlt : j < ms.length
 ·obtain ⟨g, hg⟩ : ∃ g, ms[j] = g := ⟨_, rfl⟩
  have hgm : g ∈ ms := by rw [← hg]; exact List.getElem_mem hlt
  have hge := meld_grp (Mo.ml g hgm)
  have CT := says_rTiles s g
  have hte : tilesI s g.wh g.kd = tilesL g.wh g.kd := by unfold tilesI; rw [if_pos ⟨hv, hge⟩]
  rw [hte] at CT
  have hin := tiles_inb hv hP hge
  have hlen := tilesL_len g.wh g.kd
  have ht := totL_take (List.replicate P 0) ms hlt
  rw [hg] at ht
  have hzl : (totL (List.replicate P 0) (ms.take j)).length = P := by rw [totL_len]; simp
  have hzb : ∀ i, -1000000 ≤ (totL (List.replicate P 0) (ms.take j)).getD i 0 ∧ (totL (List.replicate P 0) (ms.take j)).getD i 0 ≤ 1000000 := fun i => by
   rw [totL_get _ _ (fun g hg => by simpa using Mo.inb hv hP (List.mem_of_mem_take hg)), zero_get]
   have h1 := cntT_le (ms.take j) i
   have h2 := cntT_nonneg (ms.take j) i
   simp at h1; omega
  obtain ⟨Z, hZ⟩ : ∃ Z, totL (List.replicate P 0) (ms.take j) = Z := ⟨_, rfl⟩
  rw [hZ] at hzl hzb ht ⊢
  obtain ⟨L, hL⟩ : ∃ L, tilesL g.wh g.kd = L := ⟨_, rfl⟩
  rw [hL] at CT hin hlen ht
  have CPu := v_put 0 Z L (by rw [hzl]; exact hin) (by omega) hzb (by omega)
  rw [hzl] at CPu
  (have fa := hg; (repeat' first | refine zS (CT) ?_ | refine zJx (tg [7]) (CPu) ?_ | refine zQ ?_ | (refine zN ?_; intro K hC hK) | ((repeat clear hJo hJU hJC Jo JU JC); (repeat (fail_if_success (refine hK _ ?_)); clear hK hC K); refine hK _ ?_; clear hK hC K) | (refine zC ?_ ?_ <;> intro hb) | (refine zK ?_; intro Jo JU JC hJo hJU hJC)) <;> (try clear fa))
  exact hJ _ hlt (by (have fa := ht; exact zV))
 ·obtain rfl : j = ms.length := by omega
  rw [List.take_length]
  have b1 := belX_rg (x := x) (n := P) (by omega) (by omega)
  have CB := v_Below x P (by omega)
  (have fa := @srcH.eq_1; (repeat' first | refine zS (CP) ?_ | refine zJx (tg [0]) (CB) ?_ | refine zQ ?_ | (refine zN ?_; intro K hC hK) | ((repeat clear hJo hJU hJC Jo JU JC); (repeat (fail_if_success (refine hK _ ?_)); clear hK hC K); refine hK _ ?_; clear hK hC K) | (refine zC ?_ ?_ <;> intro hb) | (refine zK ?_; intro Jo JU JC hJo hJU hJC)) <;> (try clear fa))
  obtain ⟨sp, hsp, sp1, sp2⟩ : ∃ sp, 1 + belX x P = sp ∧ 1 ≤ sp ∧ sp ≤ (P : Int) := ⟨_, rfl, by omega, by omega⟩
  obtain ⟨n, hn⟩ : ∃ n, 3 * (s.me - (ms.length : Int)) + 2 = n := ⟨_, rfl⟩
  have hn1 : 3 * (s.me - (ms.length : Int)) + 1 + 1 = n := by omega
  have hn2 : 2 ≤ n ∧ n ≤ 14 := by omega
  obtain ⟨x1, hx1⟩ : ∃ x1, nextX x = x1 := ⟨_, rfl⟩
  rw [hsp, hn1, hx1]
  have key : ∀ (X Y : List Int) (x' : Int), FilI s P ms n X Y → K ⟨900, [(5, .ref 1 0 0 0), (8, .ref 3 0 0 0), (9, .ref 4 0 0 0), (10, .rsl 7 0 0 P), (12, I n)], [(0, .arr 0 1 [U x']), (1, .arr 0 9 [eSet s]), (2, .arr 0 2 [eHd false ⟨bag, ms⟩]), (3, .arr 0 2 [.agg [nilA, nilA]]), (4, .arr 0 2 [.agg [.rsl 5 0 0 P, .rsl 6 1 0 ms.length]]), (5, .arr 0 1 (X.map I)), (6, .arr 1 3 (ms.map eGp)), (7, .arr 0 1 (Y.map I))]⟩ := by
   intro X Y x' F
   refine hK _ ?_
   clear hC hK K
   (have fa := zT; (repeat' first | refine zQ ?_ | (refine zN ?_; intro K hC hK) | ((repeat clear hJo hJU hJC Jo JU JC); (repeat (fail_if_success (refine hK _ ?_)); clear hK hC K); refine hK _ ?_; clear hK hC K) | (refine zC ?_ ?_ <;> intro hb) | (refine zK ?_; intro Jo JU JC hJo hJU hJC)) <;> (try clear fa))
   refine AW_loopG (α := Nat × List Int × List Int) (fun a => [(5, .ref 1 0 0 0), (8, .ref 3 0 0 0), (9, .ref 4 0 0 0), (10, .rsl 7 0 0 P), (12, I n), (16, I a.1)])
    (fun a => [(0, .arr 0 1 [U x']), (1, .arr 0 9 [eSet s]), (2, .arr 0 2 [eHd false ⟨bag, ms⟩]), (3, .arr 0 2 [.agg [nilA, nilA]]), (4, .arr 0 2 [.agg [.rsl 5 0 0 P, .rsl 6 1 0 ms.length]]), (5, .arr 0 1 (a.2.1.map I)), (6, .arr 1 3 (ms.map eGp)), (7, .arr 0 1 (a.2.2.map I))])
    (fun a => P - a.1) (fun a => a.1 ≤ P ∧ FilI s P ms n a.2.1 a.2.2 ∧ (a.2.1.sum < n → ∀ i, i < a.1 → s.co ≤ a.2.2.getD i 0)) [(0, 0), (1, 1), (2, 2), (3, 3), (4, 4), (5, 5), (6, 6), (7, 7)] [(0, 0), (1, 1), (2, 2), (3, 3), (4, 4), (5, 5), (6, 6), (7, 7)] 0 [5, 8, 9, 10, 12, 16] 2900 (⟨by decide, by decide, by decide⟩) (⟨by decide, by decide, by decide⟩) (0, X, Y) ⟨by dsimp only; omega, F, fun _ i hi => absurd hi (Nat.not_lt_zero i)⟩ (by (have fa := zT; exact zSE)) ?_
   clear F
   rintro ⟨k, X, Y⟩ ⟨k2, F, k3⟩ J2 hcJ2 hJ2
   dsimp only at k2 F k3 hJ2 ⊢
   have hxl := F.f.xl
   have hyl := F.f.yl
   have hsw := F.f.sw (by omega) hco.2
   have hsn := F.s
   have CTo := says_kTotal X (by omega)
   rw [hsw] at CTo
   have hTX : X.take P = X := List.take_of_length_le (by omega)
   have hTX2 : P ≤ X.length := by omega
   by_cases hgo : k < P ∧ X.sum < n
   ·obtain ⟨hkP, hs⟩ := hgo
    (have fa := (And.intro hTX hTX2); (repeat' first | refine zS (CP) ?_ | refine zS (CTo) ?_ | refine zQ ?_ | (refine zN ?_; intro K hC hK) | ((repeat clear hJo hJU hJC Jo JU JC); (repeat (fail_if_success (refine hK _ ?_)); clear hK hC K); refine hK _ ?_; clear hK hC K) | (refine zC ?_ ?_ <;> intro hb) | (refine zK ?_; intro Jo JU JC hJo hJU hJC)) <;> (try clear fa))
    refine AW_loopG (α := List Int × List Int) (fun a => [(5, .ref 1 0 0 0), (8, .ref 3 0 0 0), (9, .ref 4 0 0 0), (10, .rsl 7 0 0 P), (12, I n), (16, I k)])
     (fun a => [(0, .arr 0 1 [U x']), (1, .arr 0 9 [eSet s]), (2, .arr 0 2 [eHd false ⟨bag, ms⟩]), (3, .arr 0 2 [.agg [nilA, nilA]]), (4, .arr 0 2 [.agg [.rsl 5 0 0 P, .rsl 6 1 0 ms.length]]), (5, .arr 0 1 (a.1.map I)), (6, .arr 1 3 (ms.map eGp)), (7, .arr 0 1 (a.2.map I))])
     (fun a => (n - a.1.sum).toNat) (fun a => FilI s P ms n a.1 a.2 ∧ ∀ i, i < k → s.co ≤ a.2.getD i 0) [(0, 0), (1, 1), (2, 2), (3, 3), (4, 4), (5, 5), (6, 6), (7, 7)] [(0, 0), (1, 1), (2, 2), (3, 3), (4, 4), (5, 5), (6, 6), (7, 7)] 0 [5, 8, 9, 10, 12, 16] 3900 (⟨by decide, by decide, by decide⟩) (⟨by decide, by decide, by decide⟩) (X, Y) ⟨F, k3 hs⟩ (by (have fa := zT; exact zSE)) ?_
    clear F k3 hxl hyl hsw hsn CTo hTX hTX2 hs
    rintro ⟨X, Y⟩ ⟨F, k3⟩ J3 hcJ3 hJ3
    dsimp only at F k3 hJ3 ⊢
    have hxl := F.f.xl
    have hyl := F.f.yl
    have hsw := F.f.sw (by omega) hco.2
    have hsn := F.s
    have CTo := says_kTotal X (by omega)
    rw [hsw] at CTo
    have hTX : X.take P = X := List.take_of_length_le (by omega)
    have hTX2 : P ≤ X.length := by omega
    have hkl : k < Y.length := by omega
    have d5 : Y[k] = Y.getD k 0 := by simp [hkl]
    by_cases hc : Y.getD k 0 < s.co
    ·by_cases hs : X.sum < n
     ·obtain ⟨F2, F3⟩ := F.one (k := (k : Int)) (by omega) (by omega) (by simpa using hc) hs
      have F4 : ∀ i, i < k → s.co ≤ (inc1 Y k).getD i 0 := fun i hi => by
       have h1 := inc1_get (bag := Y) (z := (k : Int)) (by omega) (by omega) i
       rw [if_neg (by omega)] at h1
       have := k3 i hi
       omega
      have hpY : AObj Tryz.prog 111 [.rsl 0 0 0 Y.length, .sl false 1 [I (k : Int)]] [(0, .arr 0 1 (Y.map I))] (.tup []) [(0, .arr 0 1 ((inc1 Y (k : Int)).map I))] := v_put 0 Y [(k : Int)] (fun z hz => by simp at hz; omega) (by simp) (fun i => by have := F.f.rg i; omega) (by omega)
      have hpX : AObj Tryz.prog 111 [.rsl 0 0 0 X.length, .sl false 1 [I (k : Int)]] [(0, .arr 0 1 (X.map I))] (.tup []) [(0, .arr 0 1 ((inc1 X (k : Int)).map I))] := v_put 0 X [(k : Int)] (fun z hz => by simp at hz; omega) (by simp) (fun i => by have := F.f.rg i; omega) (by omega)
      rw [hyl] at hpY
      rw [hxl] at hpX
      (have fa := (And.intro hTX (And.intro hTX2 d5)); (repeat' first | refine zS (CTo) ?_ | refine zB (tg [7]) (hpY) ?_ | refine zB (tg [5]) (hpX) ?_ | refine zQ ?_ | (refine zN ?_; intro K hC hK) | ((repeat clear hJo hJU hJC Jo JU JC); (repeat (fail_if_success (refine hK _ ?_)); clear hK hC K); refine hK _ ?_; clear hK hC K) | (refine zC ?_ ?_ <;> intro hb) | (refine zK ?_; intro Jo JU JC hJo hJU hJC)) <;> (try clear fa))
      refine hJ3 _ (inc1 X k, inc1 Y k) (by dsimp only; omega) ⟨F2, F4⟩ (by (have fa := zT; exact zSE))
     ·(have fa := (And.intro hTX (And.intro hTX2 d5)); (repeat' first | refine zS (CTo) ?_ | refine zQ ?_ | (refine zN ?_; intro K hC hK) | ((repeat clear hJo hJU hJC Jo JU JC); (repeat (fail_if_success (refine hK _ ?_)); clear hK hC K); refine hK _ ?_; clear hK hC K) | (refine zC ?_ ?_ <;> intro hb) | (refine zK ?_; intro Jo JU JC hJo hJU hJC)) <;> (try clear fa))
      refine hJ2 _ (k + 1, X, Y) (by dsimp only; omega) ⟨by dsimp only; omega, F, fun h => absurd h hs⟩ (by (have fa := zT; exact zSE))
    ·(have fa := (And.intro hTX (And.intro hTX2 d5)); (repeat' first | refine zS (CTo) ?_ | refine zQ ?_ | (refine zN ?_; intro K hC hK) | ((repeat clear hJo hJU hJC Jo JU JC); (repeat (fail_if_success (refine hK _ ?_)); clear hK hC K); refine hK _ ?_; clear hK hC K) | (refine zC ?_ ?_ <;> intro hb) | (refine zK ?_; intro Jo JU JC hJo hJU hJC)) <;> (try clear fa))
     refine hJ2 _ (k + 1, X, Y) (by dsimp only; omega) ⟨by dsimp only; omega, F, fun _ i hi => ?_⟩ (by (have fa := zT; exact zSE))
     dsimp only at hi ⊢
     by_cases e : i = k
     ·subst e; omega
     ·exact k3 i (by omega)
   ·have hdone : X.sum = n := by
     by_cases hs : X.sum < n
     ·have hkP : k = P := by omega
      subst hkP
      have := F.f.room Mo hM hP (k3 hs)
      omega
     ·omega
    have hfull := F.f.full Mo hv hP (by omega)
    (have fa := (And.intro hTX hTX2); (repeat' first | refine zS (CP) ?_ | refine zS (CTo) ?_ | refine zQ ?_ | (refine zN ?_; intro K hC hK) | ((repeat clear hJo hJU hJC Jo JU JC); (repeat (fail_if_success (refine hK _ ?_)); clear hK hC K); refine hK _ ?_; clear hK hC K) | (refine zC ?_ ?_ <;> intro hb) | (refine zK ?_; intro Jo JU JC hJo hJU hJC)) <;> (try clear fa))
    all_goals first
     | (exfalso; omega)
     | skip
    all_goals
     refine AW_ret ?_; refine zU ?_; refine ⟨_, .rfl', .inr rfl, ?_, [(0, 0), (5, 1)], 2, ⟨by decide, by decide, by decide⟩, ?_⟩ <;> (have fa := zT; first | exact zE0 | (refine zE ?_; try clear fa))
     exact ⟨_, LeV.agg (by (repeat first | exact LeL.nil | (refine LeL.cons ?_ ?_; (· (first | exact LeV.nil _ _ | exact LeV.rfl' | exact LeV.eq rfl | exact LeV.sl _ _ _ | (simpa only [AV.low, lowL, lowL_eGps, lowL_I, lowL_eGp, lowL_eGps] using LeV.low _)))))), (X, x'), ⟨hfull, hxl⟩, rfl, rfl⟩
  clear hK
  have hC0 := hC
  refine AW_loopG (α := Nat × List Int × List Int × Int) (fun a => [(0, .ref 0 0 0 0), (5, .ref 1 0 0 0), (8, .ref 3 0 0 0), (9, .ref 4 0 0 0), (10, .rsl 7 0 0 P), (12, I n), (13, I sp), (14, I a.1)])
   (fun a => [(0, .arr 0 1 [U a.2.2.2]), (1, .arr 0 9 [eSet s]), (2, .arr 0 2 [eHd false ⟨bag, ms⟩]), (3, .arr 0 2 [.agg [nilA, nilA]]), (4, .arr 0 2 [.agg [.rsl 5 0 0 P, .rsl 6 1 0 ms.length]]), (5, .arr 0 1 (a.2.1.map I)), (6, .arr 1 3 (ms.map eGp)), (7, .arr 0 1 (a.2.2.1.map I))])
   (fun a => 400 - a.1) (fun a => a.1 ≤ 400 ∧ FilI s P ms n a.2.1 a.2.2.1) [(0, 0), (1, 1), (2, 2), (3, 3), (4, 4), (5, 5), (6, 6), (7, 7)] [(0, 0), (1, 1), (2, 2), (3, 3), (4, 4), (5, 5), (6, 6), (7, 7)] 0 [0, 5, 8, 9, 10, 12, 13, 14] 1900 (⟨by decide, by decide, by decide⟩) (⟨by decide, by decide, by decide⟩) (0, List.replicate P 0, totL (List.replicate P 0) ms, x1) ⟨by dsimp only; omega, FZ, by simp; omega⟩ (by (have fa := zT; exact zSE)) ?_
  rintro ⟨t, X, Y, x'⟩ ⟨k1, F⟩ J2 hcJ2 hJ2
  dsimp only at k1 F hJ2 ⊢
  have hxl := F.f.xl
  have hyl := F.f.yl
  have hsw := F.f.sw (by omega) hco.2
  have hsn := F.s
  have CTo := says_kTotal X (by omega)
  rw [hsw] at CTo
  have hTX : X.take P = X := List.take_of_length_le (by omega)
  have hTX2 : P ≤ X.length := by omega
  have bb := belX_rg (x := x') (n := P) (by omega) (by omega)
  have CB1 := v_Below x' P (by omega)
  have bs := belX_rg (x := nextX x') (n := sp) (by omega) (by omega)
  have CB2 := v_Below (nextX x') sp (by omega)
  by_cases hgo : t < 400 ∧ X.sum < n
  ·obtain ⟨ht, hs⟩ := hgo
   by_cases h60 : t < 60
   ·obtain ⟨k, hk⟩ : ∃ k, belX (nextX x') sp = k := ⟨_, rfl⟩
    rw [hk] at bs
    obtain ⟨k0, hk0⟩ : ∃ k0, belX x' P = k0 := ⟨_, rfl⟩
    have hkP : k < (P : Int) := by omega
    have hkl : k.toNat < Y.length := by omega
    have d5 : Y[k.toNat] = Y.getD k.toNat 0 := by simp [hkl]
    by_cases hc : Y.getD k.toNat 0 < s.co
    ·obtain ⟨F2, _⟩ := F.one bs.1 hkP hc hs
     have hpY : AObj Tryz.prog 111 [.rsl 0 0 0 Y.length, .sl false 1 [I k]] [(0, .arr 0 1 (Y.map I))] (.tup []) [(0, .arr 0 1 ((inc1 Y k).map I))] := v_put 0 Y [k] (fun z hz => by simp at hz; omega) (by simp) (fun i => by have := F.f.rg i; omega) (by omega)
     have hpX : AObj Tryz.prog 111 [.rsl 0 0 0 X.length, .sl false 1 [I k]] [(0, .arr 0 1 (X.map I))] (.tup []) [(0, .arr 0 1 ((inc1 X k).map I))] := v_put 0 X [k] (fun z hz => by simp at hz; omega) (by simp) (fun i => by have := F.f.rg i; omega) (by omega)
     rw [hyl] at hpY
     rw [hxl] at hpX
     (have fa := (And.intro @srcH.eq_1 (And.intro hk (And.intro hk0 (And.intro hTX (And.intro hTX2 d5))))); (repeat' first | refine zS (CTo) ?_ | refine zS (CP) ?_ | refine zJx (tg [0]) (CB1) ?_ | refine zJx (tg [0]) (CB2) ?_ | refine zB (tg [7]) (hpY) ?_ | refine zB (tg [5]) (hpX) ?_ | refine zQ ?_ | (refine zN ?_; intro K hC hK) | ((repeat clear hJo hJU hJC Jo JU JC); (repeat (fail_if_success (refine hK _ ?_)); clear hK hC K); refine hK _ ?_; clear hK hC K) | (refine zC ?_ ?_ <;> intro hb) | (refine zK ?_; intro Jo JU JC hJo hJU hJC)) <;> (try clear fa))
     refine hJ2 _ (t + 1, inc1 X k, inc1 Y k, nextX (nextX x')) (by dsimp only; omega) ⟨by dsimp only; omega, F2⟩ (by (have fa := zT; exact zSE))
    ·(have fa := (And.intro @srcH.eq_1 (And.intro hk (And.intro hk0 (And.intro hTX (And.intro hTX2 d5))))); (repeat' first | refine zS (CTo) ?_ | refine zS (CP) ?_ | refine zJx (tg [0]) (CB1) ?_ | refine zJx (tg [0]) (CB2) ?_ | refine zQ ?_ | (refine zN ?_; intro K hC hK) | ((repeat clear hJo hJU hJC Jo JU JC); (repeat (fail_if_success (refine hK _ ?_)); clear hK hC K); refine hK _ ?_; clear hK hC K) | (refine zC ?_ ?_ <;> intro hb) | (refine zK ?_; intro Jo JU JC hJo hJU hJC)) <;> (try clear fa))
     refine hJ2 _ (t + 1, X, Y, nextX (nextX x')) (by dsimp only; omega) ⟨by dsimp only; omega, F⟩ (by (have fa := zT; exact zSE))
   ·obtain ⟨k, hk⟩ : ∃ k, belX x' P = k := ⟨_, rfl⟩
    rw [hk] at bb
    have hkl : k.toNat < Y.length := by omega
    have d5 : Y[k.toNat] = Y.getD k.toNat 0 := by simp [hkl]
    by_cases hc : Y.getD k.toNat 0 < s.co
    ·obtain ⟨F2, _⟩ := F.one bb.1 bb.2 hc hs
     have hpY : AObj Tryz.prog 111 [.rsl 0 0 0 Y.length, .sl false 1 [I k]] [(0, .arr 0 1 (Y.map I))] (.tup []) [(0, .arr 0 1 ((inc1 Y k).map I))] := v_put 0 Y [k] (fun z hz => by simp at hz; omega) (by simp) (fun i => by have := F.f.rg i; omega) (by omega)
     have hpX : AObj Tryz.prog 111 [.rsl 0 0 0 X.length, .sl false 1 [I k]] [(0, .arr 0 1 (X.map I))] (.tup []) [(0, .arr 0 1 ((inc1 X k).map I))] := v_put 0 X [k] (fun z hz => by simp at hz; omega) (by simp) (fun i => by have := F.f.rg i; omega) (by omega)
     rw [hyl] at hpY
     rw [hxl] at hpX
     (have fa := (And.intro @srcH.eq_1 (And.intro hk (And.intro hTX (And.intro hTX2 d5)))); (repeat' first | refine zS (CTo) ?_ | refine zS (CP) ?_ | refine zJx (tg [0]) (CB1) ?_ | refine zB (tg [7]) (hpY) ?_ | refine zB (tg [5]) (hpX) ?_ | refine zQ ?_ | (refine zN ?_; intro K hC hK) | ((repeat clear hJo hJU hJC Jo JU JC); (repeat (fail_if_success (refine hK _ ?_)); clear hK hC K); refine hK _ ?_; clear hK hC K) | (refine zC ?_ ?_ <;> intro hb) | (refine zK ?_; intro Jo JU JC hJo hJU hJC)) <;> (try clear fa))
     refine hJ2 _ (t + 1, inc1 X k, inc1 Y k, nextX x') (by dsimp only; omega) ⟨by dsimp only; omega, F2⟩ (by (have fa := zT; exact zSE))
    ·(have fa := (And.intro @srcH.eq_1 (And.intro hk (And.intro hTX (And.intro hTX2 d5)))); (repeat' first | refine zS (CTo) ?_ | refine zS (CP) ?_ | refine zJx (tg [0]) (CB1) ?_ | refine zQ ?_ | (refine zN ?_; intro K hC hK) | ((repeat clear hJo hJU hJC Jo JU JC); (repeat (fail_if_success (refine hK _ ?_)); clear hK hC K); refine hK _ ?_; clear hK hC K) | (refine zC ?_ ?_ <;> intro hb) | (refine zK ?_; intro Jo JU JC hJo hJU hJC)) <;> (try clear fa))
     refine hJ2 _ (t + 1, X, Y, nextX x') (by dsimp only; omega) ⟨by dsimp only; omega, F⟩ (by (have fa := zT; exact zSE))
  ·(have fa := (And.intro hTX hTX2); (repeat' first | refine zS (CTo) ?_ | refine zQ ?_ | (refine zN ?_; intro K hC hK) | ((repeat clear hJo hJU hJC Jo JU JC); (repeat (fail_if_success (refine hK _ ?_)); clear hK hC K); refine hK _ ?_; clear hK hC K) | (refine zC ?_ ?_ <;> intro hb) | (refine zK ?_; intro Jo JU JC hJo hJU hJC)) <;> (try clear fa))
   all_goals first
    | (exfalso; omega)
    | exact hC0.go [(0, 0), (1, 1), (2, 2), (3, 3), (4, 4), (5, 5), (6, 6), (7, 7)] 0 [5, 8, 9, 10, 12] 900 _ _ (by exact ⟨by decide, by decide, by decide⟩) (key X Y x' F) (by (have fa := zT; exact zSE))
end Go.Proofs.YthblfhgofopcaaaGreat
