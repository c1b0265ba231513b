/-
  Parts of the proof: WHands.
-/
import Derived.Test.YthblfhgofopcaaaGreatHA17
import Derived.Test.YthblfhgofopcaaaGreatHA42
import Derived.Test.YthblfhgofopcaaaGreatHA49
import Derived.Test.YthblfhgofopcaaaGreatHA50
set_option linter.all false
namespace Go.Proofs.YthblfhgofopcaaaGreat
open Go.RowKit
set_option maxRecDepth 100000
set_option maxHeartbeats 2000000
theorem totalI_len (s : TSet) (x : Hd) : (totalI s x).length ≤ x.bag.length := by
 unfold totalI
 split
 ·rw [totL_len]; omega
 ·simp
theorem says_eqI (a : List Int) (ha : a.length ≤ 1000000) : ASays Tryz.prog 35 [eInts false a, eInts false a] (B true) := by
 have := says_kEqual a a ha
 rw [decide_eq_true rfl] at this; exact this
theorem says_SameT (a : Hd) (h1 : a.bag.length ≤ 1000000) (h2 : a.me.length ≤ 1000000) : ASays Tryz.prog 58 [eHd false a, eHd false a] (B true) := by
 have := says_Same a a h1 h2
 rw [decide_eq_true rfl, decide_eq_true rfl] at this; exact this
theorem says_rSameT (a : Hd) (h1 : a.bag.length ≤ 1000000) (h2 : a.me.length ≤ 1000000) : ASays Tryz.prog 31 [eHd false a, eHd false a] (B true) := by
 have := says_rSame a a h1 h2
 rw [decide_eq_true rfl, decide_eq_true rfl] at this; exact this
set_option maxHeartbeats 8000000 in
theorem says_WHands (s : TSet) (h o : Hd) (nums : List Int) (at_ by_ : Int) (hn : nums.length ≤ 9223372036854775807) : ASays Tryz.prog 12 [eSet s, eHd false h, eHd false o, eInts false nums, I at_, I by_] (B true) := by
 have CB : ∀ h : Hd, ASays Tryz.prog 17 [eSet s, nilA, eHd false h] (B (bigB s [] h)) := fun h => asays_arg (.cons .rfl' (.cons (LeV.nil false 3) (.cons .rfl' .nil))) (says_big s [] h)
 have CB1 := CB h
 have CB2 := CB o
 clear CB
 by_cases c : bigB s [] h = true ∨ bigB s [] o = true
 ·cases c1 : bigB s [] h with
  | true =>
   rw [c1] at CB1
   refine acall_ofW (nx := 0) (ne := 0) tysGood (DD_ok tysGood mixed _) Tryz.func12 (by rfl) (by rfl) (by simp [Tryz.ntmps12]) (fun p hp => by cases hp) ?_; rw [Tryz.ntmps12]; let tb := ord_12; let lv := live_12
   (have fa := zT; (repeat' first | refine zS (CB1) ?_ | refine zS (says_awake) ?_ | refine zQ ?_ | (refine zN ?_; intro K hC hK) | ((repeat clear hJo hJU hJC Jo JU JC); (repeat (fail_if_success (refine hK _ ?_)); clear hK hC K); refine hK _ ?_; clear hK hC K) | (refine zC ?_ ?_ <;> intro hb) | (refine zK ?_; intro Jo JU JC hJo hJU hJC)) <;> (try clear fa))
   refine AW_ret ?_; refine zU ?_; refine ⟨_, .rfl', .inr rfl, ?_, [], 2, finOk_nil, ?_⟩ <;> (have fa := zT; first | exact zE0 | (refine zE ?_; try clear fa))
  | false =>
   have c2 : bigB s [] o = true := by simpa [c1] using c
   rw [c1] at CB1
   rw [c2] at CB2
   refine acall_ofW (nx := 0) (ne := 0) tysGood (DD_ok tysGood mixed _) Tryz.func12 (by rfl) (by rfl) (by simp [Tryz.ntmps12]) (fun p hp => by cases hp) ?_; rw [Tryz.ntmps12]; let tb := ord_12; let lv := live_12
   (have fa := zT; (repeat' first | refine zS (CB1) ?_ | refine zS (CB2) ?_ | refine zS (says_awake) ?_ | refine zQ ?_ | (refine zN ?_; intro K hC hK) | ((repeat clear hJo hJU hJC Jo JU JC); (repeat (fail_if_success (refine hK _ ?_)); clear hK hC K); refine hK _ ?_; clear hK hC K) | (refine zC ?_ ?_ <;> intro hb) | (refine zK ?_; intro Jo JU JC hJo hJU hJC)) <;> (try clear fa))
   refine AW_ret ?_; refine zU ?_; refine ⟨_, .rfl', .inr rfl, ?_, [], 2, finOk_nil, ?_⟩ <;> (have fa := zT; first | exact zE0 | (refine zE ?_; try clear fa))
 ·have c1 : bigB s [] h = false := by simpa using fun e => c (.inl e)
  have c2 : bigB s [] o = false := by simpa using fun e => c (.inr e)
  rw [c1] at CB1
  rw [c2] at CB2
  have hbl : h.bag.length ≤ 60 ∧ h.me.length ≤ 10 := by
   unfold bigB at c1; simp at c1; omega
  have obl : o.bag.length ≤ 60 ∧ o.me.length ≤ 10 := by
   unfold bigB at c2; simp at c2; omega
  clear c c1 c2
  obtain ⟨hb1, hb2⟩ := hbl
  obtain ⟨hbag, hmel⟩ := h
  dsimp only at hb1 hb2
  obtain ⟨ob1, ob2⟩ := obl
  refine acall_ofW (nx := 0) (ne := 0) tysGood (DD_ok tysGood mixed _) Tryz.func12 (by rfl) (by rfl) (by simp [Tryz.ntmps12]) (fun p hp => by cases hp) ?_; rw [Tryz.ntmps12]; let tb := ord_12; let lv := live_12
  (have fa := zT; (repeat' first | refine zS (CB1) ?_ | refine zS (CB2) ?_ | refine zQ ?_ | (refine zN ?_; intro K hC hK) | ((repeat clear hJo hJU hJC Jo JU JC); (repeat (fail_if_success (refine hK _ ?_)); clear hK hC K); refine hK _ ?_; clear hK hC K) | (refine zC ?_ ?_ <;> intro hb) | (refine zK ?_; intro Jo JU JC hJo hJU hJC)) <;> (try clear fa))
  (have fa := zT; refine zX (tg []) (v_Shape nums hn) ?_; clear hJo hJU hJC Jo JU JC; (try clear fa)); intro xr hxr
  have V := hxr.made.ok
  have hxl := hxr.xl
  have hpl := (plain_kinds V).2.2.2
  have hpl3 := (plain_kinds V).2.2.1
  have hfull := hxr.full
  obtain ⟨y, t, fs, ms, X, g0⟩ := xr
  dsimp only at V hxl hpl hpl3 hfull ⊢
  have ho : HandOk t ⟨X, ms⟩ := hand_ok (by unfold fullB at hfull; simp at hfull; exact hfull.1)
  have hrg := ho.rg
  have hmm := ho.mm
  have hme := (valid_of V).me
  have hco := (valid_of V).co
  dsimp only at hrg hmm
  clear hxr hfull
  have hTX : List.take X.length X = X := List.take_length
  have hi0 := Int.emod_nonneg at_ (show (X.length : Int) ≠ 0 by omega)
  have hi1 := Int.emod_lt_of_pos at_ (show (0 : Int) < (X.length : Int) by omega)
  have CI := says_Into at_ X.length (by omega) (by omega)
  obtain ⟨i, hi⟩ : ∃ i : Nat, at_ % (X.length : Int) = (i : Int) := ⟨(at_ % (X.length : Int)).toNat, by omega⟩
  rw [hi] at CI hi1
  have hil : i < X.length := by omega
  obtain ⟨z, hz⟩ : ∃ z, X[i] = z := ⟨_, rfl⟩
  have hzb := hrg z (by rw [← hz]; exact List.getElem_mem hil)
  have hr3 : -2 ≤ by_.tmod 3 ∧ by_.tmod 3 ≤ 2 := by
   have h1 := Int.tmod_lt_of_pos by_ (show (0 : Int) < 3 by omega)
   have h2 := Int.lt_tmod_of_pos by_ (show (0 : Int) < 3 by omega)
   omega
  obtain ⟨d, hd⟩ : ∃ d, by_.tmod 3 = d := ⟨_, rfl⟩
  rw [hd] at hr3
  have hXs : (X.map I).set i (I (z + d)) = (X.set i (z + d)).map I := by rw [List.map_set]
  have hYl : (X.set i (z + d)).length = X.length := List.length_set ..
  obtain ⟨Y, hY⟩ : ∃ Y, X.set i (z + d) = Y := ⟨_, rfl⟩
  rw [hY] at hXs hYl
  have hTY : List.take X.length Y = Y := List.take_of_length_le (by omega)
  have hTY2 : X.length ≤ Y.length := by omega
  (have fa := (And.intro hz (And.intro hd (And.intro hXs @stepDE_cL))); (repeat' first | refine zS (CI) ?_ | refine zQ ?_ | (refine zN ?_; intro K hC hK) | ((repeat clear hJo hJU hJC Jo JU JC); (repeat (fail_if_success (refine hK _ ?_)); clear hK hC K); refine hK _ ?_; clear hK hC K) | (refine zC ?_ ?_ <;> intro hb) | (refine zK ?_; intro Jo JU JC hJo hJU hJC)) <;> (try clear fa))
  refine AW_forC 3 (fun j σ => σ = ⟨900, [(8, .ref 0 0 0 0), (17, .rsl 1 0 0 3), (18, .rsl 2 0 0 3), (19, I j)], [(0, .arr 0 2 [eHd false o]), (1, .arr 0 9 [eSet s, eSet t, eSet t]), (2, .arr 0 2 [eHd false ⟨hbag, hmel⟩, .agg [eInts true Y, eGps false ms], eHd false ⟨hbag, hmel⟩])]⟩) [(32, 0), (1472, 1), (1536, 2)] [(0, 0), (1, 1), (2, 2)] 1 [8, 17, 18, 19] 900 (finOk0 (by decide) (by decide)) (finOk0 (by decide) (by decide)) (by (have fa := (And.intro hTY hTY2); exact zV)) ?_
  rintro j σ' hj rfl J hcJ hJ
  have hj3 : j = 0 ∨ j = 1 ∨ j = 2 ∨ j = 3 := by omega
  rcases hj3 with rfl | rfl | rfl | rfl
  ·
   have CC := own_rCopy ⟨hbag, hmel⟩ (by dsimp only; omega) (by dsimp only; omega)
   have CC2 := own_Copy ⟨hbag, hmel⟩ (by dsimp only; omega) (by dsimp only; omega)
   have CH := says_CheckHand s ⟨hbag, hmel⟩ (by dsimp only; omega) (by dsimp only; omega)
   have CRH := says_rCheckHand s ⟨hbag, hmel⟩ (by dsimp only; omega)
   have CF := says_Full s ⟨hbag, hmel⟩ (by dsimp only; omega) (by dsimp only; omega)
   have CRF := says_rFull s ⟨hbag, hmel⟩ (by dsimp only; omega) (by dsimp only; omega)
   have CT := says_Total s ⟨hbag, hmel⟩ (by dsimp only; omega) (by dsimp only; omega)
   have CRT := says_rTotal s ⟨hbag, hmel⟩ (by dsimp only; omega) (by dsimp only; omega)
   have CE := says_eqI (totalI s ⟨hbag, hmel⟩) (by have := totalI_len s ⟨hbag, hmel⟩; dsimp only at this; omega)
   have CS1 := says_SameT ⟨hbag, hmel⟩ (by dsimp only; omega) (by dsimp only; omega)
   have CR1 := says_rSameT ⟨hbag, hmel⟩ (by dsimp only; omega) (by dsimp only; omega)
   have CS2 := says_Same ⟨hbag, hmel⟩ o (by dsimp only; omega) (by dsimp only; omega)
   have CR2 := says_rSame ⟨hbag, hmel⟩ o (by dsimp only; omega) (by dsimp only; omega)
   obtain ⟨q, hq⟩ : ∃ q, (decide (hbag = o.bag) && decide (hmel = o.me)) = q := ⟨_, rfl⟩
   dsimp only at CS2 CR2 CC CC2
   rw [hq] at CS2 CR2
   obtain ⟨e, he⟩ : ∃ e, handErr s ⟨hbag, hmel⟩ = e := ⟨_, rfl⟩
   rw [he] at CH CRH
   obtain ⟨fu, hfu⟩ : ∃ fu, fullB s ⟨hbag, hmel⟩ = fu := ⟨_, rfl⟩
   rw [hfu] at CF CRF
   obtain ⟨tt, htt⟩ : ∃ tt, totalI s ⟨hbag, hmel⟩ = tt := ⟨_, rfl⟩
   rw [htt] at CT CRT CE
   clear hq he hfu htt
   have hTB : List.take hbag.length hbag = hbag := List.take_length
   have hTM : List.take hmel.length hmel = hmel := List.take_length
   (have fa := (And.intro hTB (And.intro hTM (And.intro @stepDE_cL @bne_self_eq_false.{0}))); (repeat' first | refine zO (CC) ?_ | refine zS (CH) ?_ | refine zS (CRH) ?_ | refine zS (CF) ?_ | refine zS (CRF) ?_ | refine zS (CT) ?_ | refine zS (CRT) ?_ | refine zS (CE) ?_ | refine zO (CC2) ?_ | refine zS (CS1) ?_ | refine zS (CR1) ?_ | refine zS (CS2) ?_ | refine zS (CR2) ?_ | refine zQ ?_ | (refine zN ?_; intro K hC hK) | ((repeat clear hJo hJU hJC Jo JU JC); (repeat (fail_if_success (refine hK _ ?_)); clear hK hC K); refine hK _ ?_; clear hK hC K) | (refine zC ?_ ?_ <;> intro hb) | (refine zK ?_; intro Jo JU JC hJo hJU hJC)) <;> (try clear fa))
   refine AW_loopG (α := Nat × List Int) (fun x => [(8, .ref 0 0 0 0), (17, .rsl 1 0 0 3), (18, .rsl 2 0 0 3), (19, I 0), (20, .ref 3 0 0 0), (21, .ref 4 0 0 0), (22, I x.1)]) (fun x => [(0, .arr 0 2 [eHd false o]), (1, .arr 0 9 [eSet s, eSet t, eSet t]), (2, .arr 0 2 [eHd false ⟨hbag, hmel⟩, .agg [eInts true Y, eGps false ms], eHd false ⟨hbag, hmel⟩]), (3, .arr 0 2 [.agg [eInts true hbag, eGps true hmel]]), (4, .arr 0 2 [.agg [.rsl 5 1 0 hbag.length, .rsl 6 1 0 hmel.length]]), (5, .arr 1 1 (x.2.map I)), (6, .arr 1 3 (hmel.map eGp))]) (fun x => hbag.length - x.1) (fun x => x.1 ≤ hbag.length ∧ x.2.length = hbag.length) [(0, 0), (1, 1), (2, 2), (1044, 3), (2132, 4), (2116, 5), (2117, 6)] [(0, 0), (1, 1), (2, 2), (3, 3), (4, 4), (5, 5), (6, 6)] 1 [8, 17, 18, 19, 20, 21, 22] 900 (finOk0 (by decide) (by decide)) (finOk0 (by decide) (by decide)) (0, hbag) ⟨Nat.zero_le _, rfl⟩ (by (have fa := (And.intro hTB hTM); exact zSE)) ?_
   rintro ⟨k, Z⟩ ⟨hk, hZl⟩ J1 hcJ1 hJ1
   dsimp only at hk hZl hJ1 ⊢
   by_cases hlt : k < hbag.length
   ·obtain ⟨z, hz⟩ : ∃ z, Z[k]'(by omega) = z := ⟨_, rfl⟩
    obtain ⟨w, hw⟩ : ∃ w, IntKind.i64.wrap (z + 1) = w := ⟨_, rfl⟩
    have hzs : (Z.map I).set k (I w) = (Z.set k w).map I := by rw [List.map_set]
    have hzl : (Z.set k w).length = Z.length := List.length_set ..
    (have fa := (And.intro hz (And.intro hw hzs)); (repeat' first | refine zQ ?_ | (refine zN ?_; intro K hC hK) | ((repeat clear hJo hJU hJC Jo JU JC); (repeat (fail_if_success (refine hK _ ?_)); clear hK hC K); refine hK _ ?_; clear hK hC K) | (refine zC ?_ ?_ <;> intro hb) | (refine zK ?_; intro Jo JU JC hJo hJU hJC)) <;> (try clear fa))
    exact hJ1 _ (k + 1, Z.set k w) (by dsimp only; omega) ⟨by dsimp only; omega, by dsimp only; omega⟩ (by (have fa := (And.intro hTB hTM); exact zSE))
   ·(have fa := zT; (repeat' first | refine zQ ?_ | (refine zN ?_; intro K hC hK) | ((repeat clear hJo hJU hJC Jo JU JC); (repeat (fail_if_success (refine hK _ ?_)); clear hK hC K); refine hK _ ?_; clear hK hC K) | (refine zC ?_ ?_ <;> intro hb) | (refine zK ?_; intro Jo JU JC hJo hJU hJC)) <;> (try clear fa))
    refine AW_loopG (α := Nat × List Gp) (fun x => [(8, .ref 0 0 0 0), (17, .rsl 1 0 0 3), (18, .rsl 2 0 0 3), (19, I 0), (20, .ref 3 0 0 0), (21, .ref 4 0 0 0), (23, I x.1)]) (fun x => [(0, .arr 0 2 [eHd false o]), (1, .arr 0 9 [eSet s, eSet t, eSet t]), (2, .arr 0 2 [eHd false ⟨hbag, hmel⟩, .agg [eInts true Y, eGps false ms], eHd false ⟨hbag, hmel⟩]), (3, .arr 0 2 [.agg [eInts true hbag, eGps true hmel]]), (4, .arr 0 2 [.agg [.rsl 5 1 0 hbag.length, .rsl 6 1 0 hmel.length]]), (5, .arr 1 1 (Z.map I)), (6, .arr 1 3 (x.2.map eGp))]) (fun x => hmel.length - x.1) (fun x => x.1 ≤ hmel.length ∧ x.2.length = hmel.length) [(0, 0), (1, 1), (2, 2), (3, 3), (4, 4), (5, 5), (6, 6)] [(0, 0), (1, 1), (2, 2), (3, 3), (4, 4), (5, 5), (6, 6)] 1 [8, 17, 18, 19, 20, 21, 23] 900 (finOk0 (by decide) (by decide)) (finOk0 (by decide) (by decide)) (0, hmel) ⟨Nat.zero_le _, rfl⟩ (by (have fa := (And.intro hTB hTM); exact zSE)) ?_
    rintro ⟨m, G⟩ ⟨hm, hGl⟩ J3 hcJ3 hJ3
    dsimp only at hm hGl hJ3 ⊢
    by_cases hlt2 : m < hmel.length
    ·obtain ⟨g, hg⟩ : ∃ g, G[m]'(by omega) = g := ⟨_, rfl⟩
     obtain ⟨w, hw⟩ : ∃ w, IntKind.i64.wrap (g.kd + 1) = w := ⟨_, rfl⟩
     have hgA : eGp g = .agg [I g.wh, I g.kd, B g.op] := rfl
     have hgs : (G.map eGp).set m (.agg [I g.wh, I w, B g.op]) = (G.set m ⟨g.wh, w, g.op⟩).map eGp := by rw [List.map_set]; rfl
     have hgl : (G.set m ⟨g.wh, w, g.op⟩).length = G.length := List.length_set ..
     (have fa := (And.intro hg (And.intro hw (And.intro hgA hgs))); (repeat' first | refine zQ ?_ | (refine zN ?_; intro K hC hK) | ((repeat clear hJo hJU hJC Jo JU JC); (repeat (fail_if_success (refine hK _ ?_)); clear hK hC K); refine hK _ ?_; clear hK hC K) | (refine zC ?_ ?_ <;> intro hb) | (refine zK ?_; intro Jo JU JC hJo hJU hJC)) <;> (try clear fa))
     exact hJ3 _ (m + 1, G.set m ⟨g.wh, w, g.op⟩) (by dsimp only; omega) ⟨by dsimp only; omega, by dsimp only; omega⟩ (by (have fa := (And.intro hTB hTM); exact zSE))
    ·(have fa := (And.intro hTB (And.intro hTM @stepDE_cL)); (repeat' first | refine zS (CR1) ?_ | refine zQ ?_ | (refine zN ?_; intro K hC hK) | ((repeat clear hJo hJU hJC Jo JU JC); (repeat (fail_if_success (refine hK _ ?_)); clear hK hC K); refine hK _ ?_; clear hK hC K) | (refine zC ?_ ?_ <;> intro hb) | (refine zK ?_; intro Jo JU JC hJo hJU hJC)) <;> (try clear fa))
     exact hJ _ (by omega) (by (have fa := (And.intro hTB hTM); exact zV))
  ·
   have CC := own_rCopy ⟨Y, ms⟩ (by dsimp only; omega) (by dsimp only; omega)
   have CC2 := own_Copy ⟨Y, ms⟩ (by dsimp only; omega) (by dsimp only; omega)
   have CH := says_CheckHand t ⟨Y, ms⟩ (by dsimp only; omega) (by dsimp only; omega)
   have CRH := says_rCheckHand t ⟨Y, ms⟩ (by dsimp only; omega)
   have CF := says_Full t ⟨Y, ms⟩ (by dsimp only; omega) (by dsimp only; omega)
   have CRF := says_rFull t ⟨Y, ms⟩ (by dsimp only; omega) (by dsimp only; omega)
   have CT := says_Total t ⟨Y, ms⟩ (by dsimp only; omega) (by dsimp only; omega)
   have CRT := says_rTotal t ⟨Y, ms⟩ (by dsimp only; omega) (by dsimp only; omega)
   have CE := says_eqI (totalI t ⟨Y, ms⟩) (by have := totalI_len t ⟨Y, ms⟩; dsimp only at this; omega)
   have CS1 := says_SameT ⟨Y, ms⟩ (by dsimp only; omega) (by dsimp only; omega)
   have CR1 := says_rSameT ⟨Y, ms⟩ (by dsimp only; omega) (by dsimp only; omega)
   have CS2 := says_Same ⟨Y, ms⟩ o (by dsimp only; omega) (by dsimp only; omega)
   have CR2 := says_rSame ⟨Y, ms⟩ o (by dsimp only; omega) (by dsimp only; omega)
   obtain ⟨q, hq⟩ : ∃ q, (decide (Y = o.bag) && decide (ms = o.me)) = q := ⟨_, rfl⟩
   dsimp only at CS2 CR2 CC CC2
   rw [hq] at CS2 CR2
   obtain ⟨e, he⟩ : ∃ e, handErr t ⟨Y, ms⟩ = e := ⟨_, rfl⟩
   rw [he] at CH CRH
   obtain ⟨fu, hfu⟩ : ∃ fu, fullB t ⟨Y, ms⟩ = fu := ⟨_, rfl⟩
   rw [hfu] at CF CRF
   obtain ⟨tt, htt⟩ : ∃ tt, totalI t ⟨Y, ms⟩ = tt := ⟨_, rfl⟩
   rw [htt] at CT CRT CE
   clear hq he hfu htt
   have hTB : List.take Y.length Y = Y := List.take_length
   have hTM : List.take ms.length ms = ms := List.take_length
   (have fa := (And.intro hTB (And.intro hTM (And.intro @stepDE_cL @bne_self_eq_false.{0}))); (repeat' first | refine zO (CC) ?_ | refine zS (CH) ?_ | refine zS (CRH) ?_ | refine zS (CF) ?_ | refine zS (CRF) ?_ | refine zS (CT) ?_ | refine zS (CRT) ?_ | refine zS (CE) ?_ | refine zO (CC2) ?_ | refine zS (CS1) ?_ | refine zS (CR1) ?_ | refine zS (CS2) ?_ | refine zS (CR2) ?_ | refine zQ ?_ | (refine zN ?_; intro K hC hK) | ((repeat clear hJo hJU hJC Jo JU JC); (repeat (fail_if_success (refine hK _ ?_)); clear hK hC K); refine hK _ ?_; clear hK hC K) | (refine zC ?_ ?_ <;> intro hb) | (refine zK ?_; intro Jo JU JC hJo hJU hJC)) <;> (try clear fa))
   refine AW_loopG (α := Nat × List Int) (fun x => [(8, .ref 0 0 0 0), (17, .rsl 1 0 0 3), (18, .rsl 2 0 0 3), (19, I 1), (20, .ref 3 0 0 0), (21, .ref 4 0 0 0), (22, I x.1)]) (fun x => [(0, .arr 0 2 [eHd false o]), (1, .arr 0 9 [eSet s, eSet t, eSet t]), (2, .arr 0 2 [eHd false ⟨hbag, hmel⟩, .agg [eInts true Y, eGps false ms], eHd false ⟨hbag, hmel⟩]), (3, .arr 0 2 [.agg [eInts true Y, eGps true ms]]), (4, .arr 0 2 [.agg [.rsl 5 1 0 Y.length, .rsl 6 1 0 ms.length]]), (5, .arr 1 1 (x.2.map I)), (6, .arr 1 3 (ms.map eGp))]) (fun x => Y.length - x.1) (fun x => x.1 ≤ Y.length ∧ x.2.length = Y.length) [(0, 0), (1, 1), (2, 2), (1044, 3), (2132, 4), (2116, 5), (2117, 6)] [(0, 0), (1, 1), (2, 2), (3, 3), (4, 4), (5, 5), (6, 6)] 1 [8, 17, 18, 19, 20, 21, 22] 900 (finOk0 (by decide) (by decide)) (finOk0 (by decide) (by decide)) (0, Y) ⟨Nat.zero_le _, rfl⟩ (by (have fa := (And.intro hTB hTM); exact zSE)) ?_
   rintro ⟨k, Z⟩ ⟨hk, hZl⟩ J1 hcJ1 hJ1
   dsimp only at hk hZl hJ1 ⊢
   by_cases hlt : k < Y.length
   ·obtain ⟨z, hz⟩ : ∃ z, Z[k]'(by omega) = z := ⟨_, rfl⟩
    obtain ⟨w, hw⟩ : ∃ w, IntKind.i64.wrap (z + 1) = w := ⟨_, rfl⟩
    have hzs : (Z.map I).set k (I w) = (Z.set k w).map I := by rw [List.map_set]
    have hzl : (Z.set k w).length = Z.length := List.length_set ..
    (have fa := (And.intro hz (And.intro hw hzs)); (repeat' first | refine zQ ?_ | (refine zN ?_; intro K hC hK) | ((repeat clear hJo hJU hJC Jo JU JC); (repeat (fail_if_success (refine hK _ ?_)); clear hK hC K); refine hK _ ?_; clear hK hC K) | (refine zC ?_ ?_ <;> intro hb) | (refine zK ?_; intro Jo JU JC hJo hJU hJC)) <;> (try clear fa))
    exact hJ1 _ (k + 1, Z.set k w) (by dsimp only; omega) ⟨by dsimp only; omega, by dsimp only; omega⟩ (by (have fa := (And.intro hTB hTM); exact zSE))
   ·(have fa := zT; (repeat' first | refine zQ ?_ | (refine zN ?_; intro K hC hK) | ((repeat clear hJo hJU hJC Jo JU JC); (repeat (fail_if_success (refine hK _ ?_)); clear hK hC K); refine hK _ ?_; clear hK hC K) | (refine zC ?_ ?_ <;> intro hb) | (refine zK ?_; intro Jo JU JC hJo hJU hJC)) <;> (try clear fa))
    refine AW_loopG (α := Nat × List Gp) (fun x => [(8, .ref 0 0 0 0), (17, .rsl 1 0 0 3), (18, .rsl 2 0 0 3), (19, I 1), (20, .ref 3 0 0 0), (21, .ref 4 0 0 0), (23, I x.1)]) (fun x => [(0, .arr 0 2 [eHd false o]), (1, .arr 0 9 [eSet s, eSet t, eSet t]), (2, .arr 0 2 [eHd false ⟨hbag, hmel⟩, .agg [eInts true Y, eGps false ms], eHd false ⟨hbag, hmel⟩]), (3, .arr 0 2 [.agg [eInts true Y, eGps true ms]]), (4, .arr 0 2 [.agg [.rsl 5 1 0 Y.length, .rsl 6 1 0 ms.length]]), (5, .arr 1 1 (Z.map I)), (6, .arr 1 3 (x.2.map eGp))]) (fun x => ms.length - x.1) (fun x => x.1 ≤ ms.length ∧ x.2.length = ms.length) [(0, 0), (1, 1), (2, 2), (3, 3), (4, 4), (5, 5), (6, 6)] [(0, 0), (1, 1), (2, 2), (3, 3), (4, 4), (5, 5), (6, 6)] 1 [8, 17, 18, 19, 20, 21, 23] 900 (finOk0 (by decide) (by decide)) (finOk0 (by decide) (by decide)) (0, ms) ⟨Nat.zero_le _, rfl⟩ (by (have fa := (And.intro hTB hTM); exact zSE)) ?_
    rintro ⟨m, G⟩ ⟨hm, hGl⟩ J3 hcJ3 hJ3
    dsimp only at hm hGl hJ3 ⊢
    by_cases hlt2 : m < ms.length
    ·obtain ⟨g, hg⟩ : ∃ g, G[m]'(by omega) = g := ⟨_, rfl⟩
     obtain ⟨w, hw⟩ : ∃ w, IntKind.i64.wrap (g.kd + 1) = w := ⟨_, rfl⟩
     have hgA : eGp g = .agg [I g.wh, I g.kd, B g.op] := rfl
     have hgs : (G.map eGp).set m (.agg [I g.wh, I w, B g.op]) = (G.set m ⟨g.wh, w, g.op⟩).map eGp := by rw [List.map_set]; rfl
     have hgl : (G.set m ⟨g.wh, w, g.op⟩).length = G.length := List.length_set ..
     (have fa := (And.intro hg (And.intro hw (And.intro hgA hgs))); (repeat' first | refine zQ ?_ | (refine zN ?_; intro K hC hK) | ((repeat clear hJo hJU hJC Jo JU JC); (repeat (fail_if_success (refine hK _ ?_)); clear hK hC K); refine hK _ ?_; clear hK hC K) | (refine zC ?_ ?_ <;> intro hb) | (refine zK ?_; intro Jo JU JC hJo hJU hJC)) <;> (try clear fa))
     exact hJ3 _ (m + 1, G.set m ⟨g.wh, w, g.op⟩) (by dsimp only; omega) ⟨by dsimp only; omega, by dsimp only; omega⟩ (by (have fa := (And.intro hTB hTM); exact zSE))
    ·(have fa := (And.intro hTB (And.intro hTM @stepDE_cL)); (repeat' first | refine zS (CR1) ?_ | refine zQ ?_ | (refine zN ?_; intro K hC hK) | ((repeat clear hJo hJU hJC Jo JU JC); (repeat (fail_if_success (refine hK _ ?_)); clear hK hC K); refine hK _ ?_; clear hK hC K) | (refine zC ?_ ?_ <;> intro hb) | (refine zK ?_; intro Jo JU JC hJo hJU hJC)) <;> (try clear fa))
     exact hJ _ (by omega) (by (have fa := (And.intro hTB hTM); exact zV))
  ·
   have CC := own_rCopy ⟨hbag, hmel⟩ (by dsimp only; omega) (by dsimp only; omega)
   have CC2 := own_Copy ⟨hbag, hmel⟩ (by dsimp only; omega) (by dsimp only; omega)
   have CH := says_CheckHand t ⟨hbag, hmel⟩ (by dsimp only; omega) (by dsimp only; omega)
   have CRH := says_rCheckHand t ⟨hbag, hmel⟩ (by dsimp only; omega)
   have CF := says_Full t ⟨hbag, hmel⟩ (by dsimp only; omega) (by dsimp only; omega)
   have CRF := says_rFull t ⟨hbag, hmel⟩ (by dsimp only; omega) (by dsimp only; omega)
   have CT := says_Total t ⟨hbag, hmel⟩ (by dsimp only; omega) (by dsimp only; omega)
   have CRT := says_rTotal t ⟨hbag, hmel⟩ (by dsimp only; omega) (by dsimp only; omega)
   have CE := says_eqI (totalI t ⟨hbag, hmel⟩) (by have := totalI_len t ⟨hbag, hmel⟩; dsimp only at this; omega)
   have CS1 := says_SameT ⟨hbag, hmel⟩ (by dsimp only; omega) (by dsimp only; omega)
   have CR1 := says_rSameT ⟨hbag, hmel⟩ (by dsimp only; omega) (by dsimp only; omega)
   have CS2 := says_Same ⟨hbag, hmel⟩ o (by dsimp only; omega) (by dsimp only; omega)
   have CR2 := says_rSame ⟨hbag, hmel⟩ o (by dsimp only; omega) (by dsimp only; omega)
   obtain ⟨q, hq⟩ : ∃ q, (decide (hbag = o.bag) && decide (hmel = o.me)) = q := ⟨_, rfl⟩
   dsimp only at CS2 CR2 CC CC2
   rw [hq] at CS2 CR2
   obtain ⟨e, he⟩ : ∃ e, handErr t ⟨hbag, hmel⟩ = e := ⟨_, rfl⟩
   rw [he] at CH CRH
   obtain ⟨fu, hfu⟩ : ∃ fu, fullB t ⟨hbag, hmel⟩ = fu := ⟨_, rfl⟩
   rw [hfu] at CF CRF
   obtain ⟨tt, htt⟩ : ∃ tt, totalI t ⟨hbag, hmel⟩ = tt := ⟨_, rfl⟩
   rw [htt] at CT CRT CE
   clear hq he hfu htt
   have hTB : List.take hbag.length hbag = hbag := List.take_length
   have hTM : List.take hmel.length hmel = hmel := List.take_length
   (have fa := (And.intro hTB (And.intro hTM (And.intro @stepDE_cL @bne_self_eq_false.{0}))); (repeat' first | refine zO (CC) ?_ | refine zS (CH) ?_ | refine zS (CRH) ?_ | refine zS (CF) ?_ | refine zS (CRF) ?_ | refine zS (CT) ?_ | refine zS (CRT) ?_ | refine zS (CE) ?_ | refine zO (CC2) ?_ | refine zS (CS1) ?_ | refine zS (CR1) ?_ | refine zS (CS2) ?_ | refine zS (CR2) ?_ | refine zQ ?_ | (refine zN ?_; intro K hC hK) | ((repeat clear hJo hJU hJC Jo JU JC); (repeat (fail_if_success (refine hK _ ?_)); clear hK hC K); refine hK _ ?_; clear hK hC K) | (refine zC ?_ ?_ <;> intro hb) | (refine zK ?_; intro Jo JU JC hJo hJU hJC)) <;> (try clear fa))
   refine AW_loopG (α := Nat × List Int) (fun x => [(8, .ref 0 0 0 0), (17, .rsl 1 0 0 3), (18, .rsl 2 0 0 3), (19, I 2), (20, .ref 3 0 0 0), (21, .ref 4 0 0 0), (22, I x.1)]) (fun x => [(0, .arr 0 2 [eHd false o]), (1, .arr 0 9 [eSet s, eSet t, eSet t]), (2, .arr 0 2 [eHd false ⟨hbag, hmel⟩, .agg [eInts true Y, eGps false ms], eHd false ⟨hbag, hmel⟩]), (3, .arr 0 2 [.agg [eInts true hbag, eGps true hmel]]), (4, .arr 0 2 [.agg [.rsl 5 1 0 hbag.length, .rsl 6 1 0 hmel.length]]), (5, .arr 1 1 (x.2.map I)), (6, .arr 1 3 (hmel.map eGp))]) (fun x => hbag.length - x.1) (fun x => x.1 ≤ hbag.length ∧ x.2.length = hbag.length) [(0, 0), (1, 1), (2, 2), (1044, 3), (2132, 4), (2116, 5), (2117, 6)] [(0, 0), (1, 1), (2, 2), (3, 3), (4, 4), (5, 5), (6, 6)] 1 [8, 17, 18, 19, 20, 21, 22] 900 (finOk0 (by decide) (by decide)) (finOk0 (by decide) (by decide)) (0, hbag) ⟨Nat.zero_le _, rfl⟩ (by (have fa := (And.intro hTB hTM); exact zSE)) ?_
   rintro ⟨k, Z⟩ ⟨hk, hZl⟩ J1 hcJ1 hJ1
   dsimp only at hk hZl hJ1 ⊢
   by_cases hlt : k < hbag.length
   ·obtain ⟨z, hz⟩ : ∃ z, Z[k]'(by omega) = z := ⟨_, rfl⟩
    obtain ⟨w, hw⟩ : ∃ w, IntKind.i64.wrap (z + 1) = w := ⟨_, rfl⟩
    have hzs : (Z.map I).set k (I w) = (Z.set k w).map I := by rw [List.map_set]
    have hzl : (Z.set k w).length = Z.length := List.length_set ..
    (have fa := (And.intro hz (And.intro hw hzs)); (repeat' first | refine zQ ?_ | (refine zN ?_; intro K hC hK) | ((repeat clear hJo hJU hJC Jo JU JC); (repeat (fail_if_success (refine hK _ ?_)); clear hK hC K); refine hK _ ?_; clear hK hC K) | (refine zC ?_ ?_ <;> intro hb) | (refine zK ?_; intro Jo JU JC hJo hJU hJC)) <;> (try clear fa))
    exact hJ1 _ (k + 1, Z.set k w) (by dsimp only; omega) ⟨by dsimp only; omega, by dsimp only; omega⟩ (by (have fa := (And.intro hTB hTM); exact zSE))
   ·(have fa := zT; (repeat' first | refine zQ ?_ | (refine zN ?_; intro K hC hK) | ((repeat clear hJo hJU hJC Jo JU JC); (repeat (fail_if_success (refine hK _ ?_)); clear hK hC K); refine hK _ ?_; clear hK hC K) | (refine zC ?_ ?_ <;> intro hb) | (refine zK ?_; intro Jo JU JC hJo hJU hJC)) <;> (try clear fa))
    refine AW_loopG (α := Nat × List Gp) (fun x => [(8, .ref 0 0 0 0), (17, .rsl 1 0 0 3), (18, .rsl 2 0 0 3), (19, I 2), (20, .ref 3 0 0 0), (21, .ref 4 0 0 0), (23, I x.1)]) (fun x => [(0, .arr 0 2 [eHd false o]), (1, .arr 0 9 [eSet s, eSet t, eSet t]), (2, .arr 0 2 [eHd false ⟨hbag, hmel⟩, .agg [eInts true Y, eGps false ms], eHd false ⟨hbag, hmel⟩]), (3, .arr 0 2 [.agg [eInts true hbag, eGps true hmel]]), (4, .arr 0 2 [.agg [.rsl 5 1 0 hbag.length, .rsl 6 1 0 hmel.length]]), (5, .arr 1 1 (Z.map I)), (6, .arr 1 3 (x.2.map eGp))]) (fun x => hmel.length - x.1) (fun x => x.1 ≤ hmel.length ∧ x.2.length = hmel.length) [(0, 0), (1, 1), (2, 2), (3, 3), (4, 4), (5, 5), (6, 6)] [(0, 0), (1, 1), (2, 2), (3, 3), (4, 4), (5, 5), (6, 6)] 1 [8, 17, 18, 19, 20, 21, 23] 900 (finOk0 (by decide) (by decide)) (finOk0 (by decide) (by decide)) (0, hmel) ⟨Nat.zero_le _, rfl⟩ (by (have fa := (And.intro hTB hTM); exact zSE)) ?_
    rintro ⟨m, G⟩ ⟨hm, hGl⟩ J3 hcJ3 hJ3
    dsimp only at hm hGl hJ3 ⊢
    by_cases hlt2 : m < hmel.length
    ·obtain ⟨g, hg⟩ : ∃ g, G[m]'(by omega) = g := ⟨_, rfl⟩
     obtain ⟨w, hw⟩ : ∃ w, IntKind.i64.wrap (g.kd + 1) = w := ⟨_, rfl⟩
     have hgA : eGp g = .agg [I g.wh, I g.kd, B g.op] := rfl
     have hgs : (G.map eGp).set m (.agg [I g.wh, I w, B g.op]) = (G.set m ⟨g.wh, w, g.op⟩).map eGp := by rw [List.map_set]; rfl
     have hgl : (G.set m ⟨g.wh, w, g.op⟩).length = G.length := List.length_set ..
     (have fa := (And.intro hg (And.intro hw (And.intro hgA hgs))); (repeat' first | refine zQ ?_ | (refine zN ?_; intro K hC hK) | ((repeat clear hJo hJU hJC Jo JU JC); (repeat (fail_if_success (refine hK _ ?_)); clear hK hC K); refine hK _ ?_; clear hK hC K) | (refine zC ?_ ?_ <;> intro hb) | (refine zK ?_; intro Jo JU JC hJo hJU hJC)) <;> (try clear fa))
     exact hJ3 _ (m + 1, G.set m ⟨g.wh, w, g.op⟩) (by dsimp only; omega) ⟨by dsimp only; omega, by dsimp only; omega⟩ (by (have fa := (And.intro hTB hTM); exact zSE))
    ·(have fa := (And.intro hTB (And.intro hTM @stepDE_cL)); (repeat' first | refine zS (CR1) ?_ | refine zQ ?_ | (refine zN ?_; intro K hC hK) | ((repeat clear hJo hJU hJC Jo JU JC); (repeat (fail_if_success (refine hK _ ?_)); clear hK hC K); refine hK _ ?_; clear hK hC K) | (refine zC ?_ ?_ <;> intro hb) | (refine zK ?_; intro Jo JU JC hJo hJU hJC)) <;> (try clear fa))
     exact hJ _ (by omega) (by (have fa := (And.intro hTB hTM); exact zV))
  ·(have fa := zT; (repeat' first | refine zS (says_awake) ?_ | refine zQ ?_ | (refine zN ?_; intro K hC hK) | ((repeat clear hJo hJU hJC Jo JU JC); (repeat (fail_if_success (refine hK _ ?_)); clear hK hC K); refine hK _ ?_; clear hK hC K) | (refine zC ?_ ?_ <;> intro hb) | (refine zK ?_; intro Jo JU JC hJo hJU hJC)) <;> (try clear fa))
   refine AW_ret ?_; refine zU ?_; refine ⟨_, .rfl', .inr rfl, ?_, [], 2, finOk_nil, ?_⟩ <;> (have fa := zT; first | exact zE0 | (refine zE ?_; try clear fa))
theorem walkShapeHands (v0 : Value) (s : TSet) (v1 : Value) (h : Hd) (v2 : Value) (o : Hd) (v3 : Value) (nums : List Int) (at_ by_ : Int) (W : World) (w0 : IsSet W v0 s) (_x0 : SetIn s) (w1 : IsHd W v1 h) (w2 : IsHd W v2 o) (w3 : IsInts W v3 nums) (_x3 : ∀ z ∈ nums, (Lit.int .i64 z).wf = true) (ha : (Lit.int .i64 at_).wf = true) (hby : (Lit.int .i64 by_).wf = true) :
  Calls Tryz.prog 12 #[v0, v1, v2, v3, .int .i64 at_, .int .i64 by_] W (Gives W (.bool true)) := by
 refine walk_of (says_WHands s h o nums at_ by_ (intsIn_len w3)) ⟨rfl, fun i x y hx hy => ?_⟩
 match i, hx, hy with
 | 0, hx, hy => simp at hx hy; subst hx hy; exact rel_of_set w0
 | 1, hx, hy => simp at hx hy; subst hx hy; exact rel_of_hd w1
 | 2, hx, hy => simp at hx hy; subst hx hy; exact rel_of_hd w2
 | 3, hx, hy => simp at hx hy; subst hx hy; exact rel_of_ints w3
 | 4, hx, hy => simp at hx hy; subst hx hy; exact .v _
 | 5, hx, hy => simp at hx hy; subst hx hy; exact .v _
 | n + 6, hx, hy => simp at hx
end Go.Proofs.YthblfhgofopcaaaGreat
