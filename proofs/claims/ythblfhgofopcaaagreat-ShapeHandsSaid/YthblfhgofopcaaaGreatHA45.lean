/-
  Parts of the proof: KitC.
-/
import Derived.Test.YthblfhgofopcaaaGreatHA17
import Derived.Test.YthblfhgofopcaaaGreatHA44
import Derived.Test.YthblfhgofopcaaaGreatHA16
set_option linter.all false
namespace Go.Proofs.YthblfhgofopcaaaGreat
open Go.RowKit
set_option maxRecDepth 100000
set_option maxHeartbeats 2000000
theorem rep_I (P : Nat) : List.replicate P (AV.v (.int .i64 0)) = (List.replicate P 0).map I := by rw [List.map_replicate]
structure BR where
 ms : List Gp
 gl : List Gp
 X : List Int
 ok : Bool
 x : Int
structure BRok (s : TSet) (P : Nat) (a : BR) : Prop where
 fi : MsOk s a.ms ∧ ∃ Y, Fil s P a.ms a.X Y
 yes : a.ok = true → fullB s ⟨a.X, a.ms⟩ = true ∧ a.X.length = P ∧ ∃ gs k, a.gl = ordG (gs ++ [⟨4, k, false⟩]) ∧ (∀ g ∈ gs, grpErr s g.wh g.kd = 0 ∧ (1 ≤ g.wh ∧ g.wh ≤ 2) ∧ g.op = false) ∧ (0 ≤ k ∧ k < (P : Int)) ∧ ((a.ms.length + gs.length : Nat) : Int) = s.me ∧ ∀ i, a.X.getD i 0 = cntT (gs ++ [⟨4, k, false⟩]) i
set_option maxHeartbeats 20000000 in
theorem v_Built (x : Int) (s : TSet) (hM : MadeS s) : AEx Tryz.prog 46 [.ref 0 0 0 0, eSet s] (srcH x) (fun a : BR => .tup [.agg [.rsl 1 0 0 (plainI s).toNat, eGps false a.ms], eGps false a.gl, B a.ok]) (fun a => [(0, .arr 0 1 [U a.x]), (1, .arr 0 1 (a.X.map I))]) (BRok s (plainI s).toNat) := by
 have hv := hM.ok
 obtain ⟨p1, p2, p3, p4⟩ := plain_kinds hv
 have V := valid_of hv
 have hme := V.me
 have hco := V.co
 have CP := says_Plain s (by have := V.su3; omega)
 rw [p1] at CP
 obtain ⟨P, hP⟩ : ∃ P : Nat, plainI s = (P : Int) := ⟨(plainI s).toNat, by omega⟩
 have CM := fun x' d => v_meld x' s hv d
 rw [hP] at CP p3 p4 CM ⊢
 rw [Int.toNat_natCast]
 clear V
 unfold AEx srcH
 refine acall_le ?_
 have b1 := belX_rg (x := x) (n := 2) (by omega) (by omega)
 have b2 := belX_rg (x := nextX x) (n := s.me + 1) (by omega) (by omega)
 obtain ⟨d, hd, hd0, hd1⟩ : ∃ d, IntKind.i64.wrap (belX x 2 * belX (nextX x) (s.me + 1)) = d ∧ 0 ≤ d ∧ d ≤ 4 := by
  have : belX x 2 = 0 ∨ belX x 2 = 1 := by omega
  rcases this with e | e <;> rw [e]
  ·exact ⟨0, by rw [Int.zero_mul]; rfl, by omega, by omega⟩
  ·exact ⟨belX (nextX x) (s.me + 1), by rw [Int.one_mul]; exact vwrap_in (by omega) (by omega), by omega, by omega⟩
 have hr := rep_I P
 have CB := v_Below (nextX x) (s.me + 1) (by omega)
 refine acall_ofW (nx := 64) (ne := 1) tysGood (DD_ok tysGood mixed _) Tryz.func46 (by rfl) (by rfl) (by simp [Tryz.ntmps46]) (by simp) ?_; rw [Tryz.ntmps46]; let tb := ord_46; let lv := live_46
 (have fa := (And.intro @srcH.eq_1 (And.intro hr hd)); (repeat' first | refine zS (CP) ?_ | refine zJx (tg [0]) (v_Below _ 2 (by omega)) ?_ | refine zJx (tg [0]) (CB) ?_ | refine zQ ?_ | (refine zN ?_; intro K hC hK) | ((repeat clear hJo hJU hJC Jo JU JC); (repeat (fail_if_success (refine hK _ ?_)); clear hK hC K); refine hK _ ?_; clear hK hC K) | (refine zC ?_ ?_ <;> intro hb) | (refine zK ?_; intro Jo JU JC hJo hJU hJC)) <;> (try clear fa))
 generalize nextX (nextX x) = x0 at *
 refine AW_loopGV ((wk_virtA 192 0 2 500 0 3 1 (by rfl) (by rfl) (by rfl)).trans (wk_virtT 9 516 0 3 (by rfl) (by rfl))) (α := Nat × List Gp × Nat × List Gp × Nat × List Int × List Int × Int)
  (fun a => [(0, .ref 0 0 0 0), (3, .ref 1 0 0 0), (4, .ref 2 0 0 0), (7, .ref 3 0 0 0), (8, .rsl 5 0 0 P), (9, .rsl 7 a.2.2.2.2.1 0 a.2.2.2.1.length), (10, I d), (11, I a.1)])
  (fun a => [(0, .arr 0 1 [U a.2.2.2.2.2.2.2]), (1, .arr 0 9 [eSet s]), (2, .arr 0 2 [.agg [nilA, nilA]]), (3, .arr 0 2 [.agg [.rsl 4 0 0 P, .rsl 6 a.2.2.1 0 a.2.1.length]]), (4, .arr 0 1 (a.2.2.2.2.2.1.map I)), (5, .arr 0 1 (a.2.2.2.2.2.2.1.map I)), (6, .arr a.2.2.1 3 (a.2.1.map eGp)), (7, .arr a.2.2.2.2.1 3 (a.2.2.2.1.map eGp))])
  (fun a => 80 - a.1) (fun a => a.1 ≤ 80 ∧ Blt s P a.2.1 a.2.2.2.1 a.2.2.2.2.2.1 a.2.2.2.2.2.2.1) [(0, 0), (64, 1), (80, 2), (192, 3), (160, 4), (256, 5), (500, 6), (516, 7)] [(0, 0), (1, 1), (2, 2), (3, 3), (4, 4), (5, 5), (6, 6), (7, 7)] 0 [0, 3, 4, 7, 8, 9, 10, 11] 900 (⟨by decide, by decide, by decide⟩) (⟨by decide, by decide, by decide⟩) (0, [], 0, [], 0, List.replicate P 0, List.replicate P 0, x0) ⟨by omega, Blt.start hv⟩ (by (have fa := (And.intro @virtE.eq_1 (And.intro @virtT.eq_1 (And.intro (And.intro @upd.eq_1 @upd.eq_2) hr))); exact zSE)) ?_
 ·rintro ⟨t, ms, g1, gs, g2, X, Y, x'⟩ ⟨k1, k2⟩ J hcJ hJ
  dsimp only at k1 k2 hJ ⊢
  have hxl := k2.fi.xl
  have hyl := k2.fi.yl
  have hln := k2.ln
  have hT1 : Y.take P = Y := List.take_of_length_le (by omega)
  have hT2 : P ≤ Y.length := by omega
  have hT3 : X.take P = X := List.take_of_length_le (by omega)
  have hT4 : P ≤ X.length := by omega
  by_cases ht : t < 80
  ·by_cases hl : ((ms.length + gs.length : Nat) : Int) < s.me
   ·by_cases hdc : (ms.length : Int) < d
    ·have CM1 := CM x' true
     have hdt := decide_eq_true hdc
     (have fa := zT; (repeat' first | refine zQ ?_ | (refine zN ?_; intro K hC hK) | ((repeat clear hJo hJU hJC Jo JU JC); (repeat (fail_if_success (refine hK _ ?_)); clear hK hC K); refine hK _ ?_; clear hK hC K) | (refine zC ?_ ?_ <;> intro hb) | (refine zK ?_; intro Jo JU JC hJo hJU hJC)) <;> (try clear fa))
     (have fa := (And.intro @srcH.eq_1 hdt); refine zXx (tg [0]) (CM1) ?_; clear hJo hJU hJC Jo JU JC; (try clear fa)); intro xr hxr
     obtain ⟨q1, q2, q3, q4⟩ := hxr
     have CT := says_rTiles s xr.1
     by_cases hg : grpErr s xr.1.wh xr.1.kd = 0
     ·have hte : tilesI s xr.1.wh xr.1.kd = tilesL xr.1.wh xr.1.kd := by unfold tilesI; rw [if_pos ⟨hv, hg⟩]
      rw [hte] at CT
      have hin := tiles_inb hv hP hg
      have hlen := tilesL_len xr.1.wh xr.1.kd
      have hpos : 0 < (tilesL xr.1.wh xr.1.kd).length := by unfold tilesL; (repeat' split) <;> simp
      have CF := says_fits s Y (tilesL xr.1.wh xr.1.kd) (by rw [hyl]; exact hin) (by omega) (fun i => by have := k2.fi.rg i; omega) (by omega)
      have hB := k2.meld hv hP hg q1.2 (q4 rfl) hl
      obtain ⟨L, hL⟩ : ∃ L, tilesL xr.1.wh xr.1.kd = L := ⟨_, rfl⟩
      have CPu := v_put 0 Y L (by rw [hyl, ← hL]; exact hin) (by rw [← hL]; omega) (fun i => by have := k2.fi.rg i; omega) (by omega)
      have CPx := v_put 0 X L (by rw [hxl, ← hL]; exact hin) (by rw [← hL]; omega) (fun i => by have := k2.fi.rg i; omega) (by omega)
      rw [hL] at CT CF hpos hB
      rw [hyl] at CPu
      rw [hxl] at CPx
      by_cases hf : fitB s.co Y L = true
      ·rw [hf] at CF
       (have fa := (And.intro hdt (And.intro hT1 (And.intro hT2 (And.intro hT3 hT4)))); (repeat' first | refine zS (CT) ?_ | refine zS (CF) ?_ | refine zJx (tg [5]) (CPu) ?_ | refine zJx (tg [4]) (CPx) ?_ | refine zQ ?_ | (refine zN ?_; intro K hC hK) | ((repeat clear hJo hJU hJC Jo JU JC); (repeat (fail_if_success (refine hK _ ?_)); clear hK hC K); refine hK _ ?_; clear hK hC K) | (refine zC ?_ ?_ <;> intro hb) | (refine zK ?_; intro Jo JU JC hJo hJU hJC)) <;> (try clear fa))
       refine hJ _ (t + 1, ms ++ [xr.1], g1 + 1, gs, g2, X, incL Y L, xr.2) (by dsimp only; omega) ⟨by dsimp only; omega, hB hf⟩ (by (have fa := @List.length_append.{0}; exact zSE))
      ·have hf' : fitB s.co Y L = false := by simpa using hf
       rw [hf'] at CF
       (have fa := (And.intro hT1 hT2); (repeat' first | refine zS (CT) ?_ | refine zS (CF) ?_ | refine zQ ?_ | (refine zN ?_; intro K hC hK) | ((repeat clear hJo hJU hJC Jo JU JC); (repeat (fail_if_success (refine hK _ ?_)); clear hK hC K); refine hK _ ?_; clear hK hC K) | (refine zC ?_ ?_ <;> intro hb) | (refine zK ?_; intro Jo JU JC hJo hJU hJC)) <;> (try clear fa))
       refine hJ _ (t + 1, ms, g1, gs, g2, X, Y, xr.2) (by dsimp only; omega) ⟨by dsimp only; omega, k2⟩ (by (have fa := zT; exact zSE))
     ·have hte : tilesI s xr.1.wh xr.1.kd = [] := by unfold tilesI; rw [if_neg (by omega)]
      rw [hte] at CT
      (have fa := zT; (repeat' first | refine zS (CT) ?_ | refine zQ ?_ | (refine zN ?_; intro K hC hK) | ((repeat clear hJo hJU hJC Jo JU JC); (repeat (fail_if_success (refine hK _ ?_)); clear hK hC K); refine hK _ ?_; clear hK hC K) | (refine zC ?_ ?_ <;> intro hb) | (refine zK ?_; intro Jo JU JC hJo hJU hJC)) <;> (try clear fa))
      refine hJ _ (t + 1, ms, g1, gs, g2, X, Y, xr.2) (by dsimp only; omega) ⟨by dsimp only; omega, k2⟩ (by (have fa := zT; exact zSE))
    ·have CM1 := CM x' false
     have hdt := decide_eq_false hdc
     (have fa := zT; (repeat' first | refine zQ ?_ | (refine zN ?_; intro K hC hK) | ((repeat clear hJo hJU hJC Jo JU JC); (repeat (fail_if_success (refine hK _ ?_)); clear hK hC K); refine hK _ ?_; clear hK hC K) | (refine zC ?_ ?_ <;> intro hb) | (refine zK ?_; intro Jo JU JC hJo hJU hJC)) <;> (try clear fa))
     (have fa := (And.intro @srcH.eq_1 hdt); refine zXx (tg [0]) (CM1) ?_; clear hJo hJU hJC Jo JU JC; (try clear fa)); intro xr hxr
     obtain ⟨q1, q2, q3, q4⟩ := hxr
     have CT := says_rTiles s xr.1
     by_cases hg : grpErr s xr.1.wh xr.1.kd = 0
     ·have hte : tilesI s xr.1.wh xr.1.kd = tilesL xr.1.wh xr.1.kd := by unfold tilesI; rw [if_pos ⟨hv, hg⟩]
      rw [hte] at CT
      have hin := tiles_inb hv hP hg
      have hlen := tilesL_len xr.1.wh xr.1.kd
      have hpos : 0 < (tilesL xr.1.wh xr.1.kd).length := by unfold tilesL; (repeat' split) <;> simp
      have CF := says_fits s Y (tilesL xr.1.wh xr.1.kd) (by rw [hyl]; exact hin) (by omega) (fun i => by have := k2.fi.rg i; omega) (by omega)
      have hB := k2.group hv hP hg ⟨q1.1, (q3 rfl).1⟩ (q3 rfl).2 hl
      obtain ⟨L, hL⟩ : ∃ L, tilesL xr.1.wh xr.1.kd = L := ⟨_, rfl⟩
      have CPu := v_put 0 Y L (by rw [hyl, ← hL]; exact hin) (by rw [← hL]; omega) (fun i => by have := k2.fi.rg i; omega) (by omega)
      have CPx := v_put 0 X L (by rw [hxl, ← hL]; exact hin) (by rw [← hL]; omega) (fun i => by have := k2.fi.rg i; omega) (by omega)
      rw [hL] at CT CF hpos hB
      rw [hyl] at CPu
      rw [hxl] at CPx
      by_cases hf : fitB s.co Y L = true
      ·rw [hf] at CF
       (have fa := (And.intro hdt (And.intro hT1 (And.intro hT2 (And.intro hT3 hT4)))); (repeat' first | refine zS (CT) ?_ | refine zS (CF) ?_ | refine zJx (tg [5]) (CPu) ?_ | refine zJx (tg [4]) (CPx) ?_ | refine zQ ?_ | (refine zN ?_; intro K hC hK) | ((repeat clear hJo hJU hJC Jo JU JC); (repeat (fail_if_success (refine hK _ ?_)); clear hK hC K); refine hK _ ?_; clear hK hC K) | (refine zC ?_ ?_ <;> intro hb) | (refine zK ?_; intro Jo JU JC hJo hJU hJC)) <;> (try clear fa))
       refine hJ _ (t + 1, ms, g1, gs ++ [xr.1], g2 + 1, incL X L, incL Y L, xr.2) (by dsimp only; omega) ⟨by dsimp only; omega, hB hf⟩ (by (have fa := @List.length_append.{0}; exact zSE))
      ·have hf' : fitB s.co Y L = false := by simpa using hf
       rw [hf'] at CF
       (have fa := (And.intro hT1 hT2); (repeat' first | refine zS (CT) ?_ | refine zS (CF) ?_ | refine zQ ?_ | (refine zN ?_; intro K hC hK) | ((repeat clear hJo hJU hJC Jo JU JC); (repeat (fail_if_success (refine hK _ ?_)); clear hK hC K); refine hK _ ?_; clear hK hC K) | (refine zC ?_ ?_ <;> intro hb) | (refine zK ?_; intro Jo JU JC hJo hJU hJC)) <;> (try clear fa))
       refine hJ _ (t + 1, ms, g1, gs, g2, X, Y, xr.2) (by dsimp only; omega) ⟨by dsimp only; omega, k2⟩ (by (have fa := zT; exact zSE))
     ·have hte : tilesI s xr.1.wh xr.1.kd = [] := by unfold tilesI; rw [if_neg (by omega)]
      rw [hte] at CT
      (have fa := zT; (repeat' first | refine zS (CT) ?_ | refine zQ ?_ | (refine zN ?_; intro K hC hK) | ((repeat clear hJo hJU hJC Jo JU JC); (repeat (fail_if_success (refine hK _ ?_)); clear hK hC K); refine hK _ ?_; clear hK hC K) | (refine zC ?_ ?_ <;> intro hb) | (refine zK ?_; intro Jo JU JC hJo hJU hJC)) <;> (try clear fa))
      refine hJ _ (t + 1, ms, g1, gs, g2, X, Y, xr.2) (by dsimp only; omega) ⟨by dsimp only; omega, k2⟩ (by (have fa := zT; exact zSE))
   ·(have fa := zT; (repeat' first | refine zQ ?_ | (refine zN ?_; intro K hC hK) | ((repeat clear hJo hJU hJC Jo JU JC); (repeat (fail_if_success (refine hK _ ?_)); clear hK hC K); refine hK _ ?_; clear hK hC K) | (refine zC ?_ ?_ <;> intro hb) | (refine zK ?_; intro Jo JU JC hJo hJU hJC)) <;> (try clear fa))
    refine AW_loopG (α := Nat × Int) (fun a => [(0, .ref 0 0 0 0), (3, .ref 1 0 0 0), (4, .ref 2 0 0 0), (7, .ref 3 0 0 0), (8, .rsl 5 0 0 P), (9, .rsl 7 g2 0 gs.length), (15, B (((ms.length : Int) + gs.length) == s.me)), (16, I a.1)])
     (fun a => [(0, .arr 0 1 [U a.2]), (1, .arr 0 9 [eSet s]), (2, .arr 0 2 [.agg [nilA, nilA]]), (3, .arr 0 2 [.agg [.rsl 4 0 0 P, .rsl 6 g1 0 ms.length]]), (4, .arr 0 1 (X.map I)), (5, .arr 0 1 (Y.map I)), (6, .arr g1 3 (ms.map eGp)), (7, .arr g2 3 (gs.map eGp))])
     (fun a => 40 - a.1) (fun a => a.1 ≤ 40) [(0, 0), (1, 1), (2, 2), (3, 3), (4, 4), (5, 5), (6, 6), (7, 7)] [(0, 0), (1, 1), (2, 2), (3, 3), (4, 4), (5, 5), (6, 6), (7, 7)] 0 [0, 3, 4, 7, 8, 9, 15, 16] 1900 (⟨by decide, by decide, by decide⟩) (⟨by decide, by decide, by decide⟩) (0, x') (by dsimp only; omega) (by (have fa := zT; exact zSE)) ?_
    rintro ⟨u, x2⟩ j1 J2 hcJ2 hJ2
    dsimp only at j1 hJ2 ⊢
    by_cases hu : u < 40
    ·by_cases hw : (ms.length : Int) + gs.length = s.me
     ·have hwt : ((ms.length : Int) + gs.length == s.me) = true := by simp [hw]
      rw [hwt] at hJ2 ⊢
      have bb := belX_rg (x := x2) (n := P) (by omega) (by omega)
      have CB := v_Below x2 P (by omega)
      obtain ⟨k, hk⟩ : ∃ k, belX x2 P = k := ⟨_, rfl⟩
      rw [hk] at bb
      have hkk : InB P [k, k] := fun z hz => by simp at hz; omega
      have CF : ASays Tryz.prog 110 [eSet s, eInts false Y, .sl false 1 [I k, I k]] (B (fitB s.co Y [k, k])) := says_fits s Y [k, k] (by rw [hyl]; exact hkk) (by simp) (fun i => by have := k2.fi.rg i; omega) (by omega)
      have CPu : AObj Tryz.prog 111 [.rsl 0 0 0 X.length, .sl false 1 [I k, I k]] [(0, .arr 0 1 (X.map I))] (.tup []) [(0, .arr 0 1 ((incL X [k, k]).map I))] := v_put 0 X [k, k] (by rw [hxl]; exact hkk) (by simp) (fun i => by have := k2.fi.rg i; omega) (by omega)
      rw [hxl] at CPu
      by_cases hf : fitB s.co Y [k, k] = true
      ·rw [hf] at CF
       have hw' : ((ms.length + gs.length : Nat) : Int) = s.me := by omega
       obtain ⟨d1, d2, d3⟩ := k2.done hv hP (by omega) bb.1 bb.2 hf
       have hT5 : List.take (gs.length + 1) (gs.map eGp ++ [AV.agg [.v (.int .i64 4), .v (.int .i64 k), .v (.bool false)]]) = gs.map eGp ++ [AV.agg [.v (.int .i64 4), .v (.int .i64 k), .v (.bool false)]] := List.take_of_length_le (by simp)
       have hT6 : gs.length + 1 ≤ (gs.map eGp ++ [AV.agg [.v (.int .i64 4), .v (.int .i64 k), .v (.bool false)]]).length := by simp
       have CO : ASays Tryz.prog 49 [.sl false 3 (gs.map eGp ++ [AV.agg [.v (.int .i64 4), .v (.int .i64 k), .v (.bool false)]])] (eGps true (ordG (gs ++ [⟨4, k, false⟩]))) := by
        have := says_kOrdered (gs ++ [⟨4, k, false⟩]) (by simp) (by simp; omega)
        rw [show eGps false (gs ++ [⟨4, k, false⟩]) = .sl false 3 (gs.map eGp ++ [AV.agg [.v (.int .i64 4), .v (.int .i64 k), .v (.bool false)]]) from by unfold eGps; rw [List.map_append]; rfl] at this
        exact this
       (have fa := (And.intro @srcH.eq_1 (And.intro hk (And.intro hT1 (And.intro hT2 (And.intro hT5 (And.intro hT6 @stepDE_cL)))))); (repeat' first | refine zS (CP) ?_ | refine zJx (tg [0]) (CB) ?_ | refine zS (CF) ?_ | refine zB (tg [4]) (CPu) ?_ | refine zS (CO) ?_ | refine zQ ?_ | (refine zN ?_; intro K hC hK) | ((repeat clear hJo hJU hJC Jo JU JC); (repeat (fail_if_success (refine hK _ ?_)); clear hK hC K); refine hK _ ?_; clear hK hC K) | (refine zC ?_ ?_ <;> intro hb) | (refine zK ?_; intro Jo JU JC hJo hJU hJC)) <;> (try clear fa))
       refine AW_ret ?_; refine zU ?_; refine ⟨_, .rfl', .inr rfl, ?_, [(0, 0), (4, 1)], 2, ⟨by decide, by decide, by decide⟩, ?_⟩ <;> (have fa := zT; first | exact zE0 | (refine zE ?_; try clear fa))
       refine ⟨.tup [.agg [.rsl 1 0 0 P, eGps false ms], eGps false (ordG (gs ++ [⟨4, k, false⟩])), B true], ?_, ⟨ms, ordG (gs ++ [⟨4, k, false⟩]), incL X [k, k], true, nextX x2⟩, ⟨⟨k2.ok, incL Y [k, k], k2.fi.put hkk hf⟩, fun _ => ⟨d1, d3, gs, k, rfl, k2.go, bb, hw', d2⟩⟩, rfl, rfl⟩
       refine LeV.tup (.cons (LeV.agg (by (repeat first | exact LeL.nil | (refine LeL.cons ?_ ?_; (· (first | exact LeV.nil _ _ | exact LeV.rfl' | exact LeV.eq rfl | exact LeV.sl _ _ _ | (simpa only [AV.low, lowL, lowL_eGps, lowL_I, lowL_eGp, lowL_eGps] using LeV.low _))))))) (.cons (LeV.sl _ _ _) (.cons .rfl' .nil)))
      ·have hf' : fitB s.co Y [k, k] = false := by simpa using hf
       rw [hf'] at CF
       (have fa := (And.intro @srcH.eq_1 (And.intro hk (And.intro hT1 (And.intro hT2 (And.intro @List.take_succ_cons.{0} @List.take_zero.{0}))))); (repeat' first | refine zS (CP) ?_ | refine zJx (tg [0]) (CB) ?_ | refine zS (CF) ?_ | refine zQ ?_ | (refine zN ?_; intro K hC hK) | ((repeat clear hJo hJU hJC Jo JU JC); (repeat (fail_if_success (refine hK _ ?_)); clear hK hC K); refine hK _ ?_; clear hK hC K) | (refine zC ?_ ?_ <;> intro hb) | (refine zK ?_; intro Jo JU JC hJo hJU hJC)) <;> (try clear fa))
       refine hJ2 _ (u + 1, nextX x2) (by dsimp only; omega) (by dsimp only; omega) (by (have fa := zT; exact zSE))
     ·have hwt : ((ms.length : Int) + gs.length == s.me) = false := by simp [hw]
      rw [hwt] at hJ2 ⊢
      (have fa := zT; (repeat' first | refine zQ ?_ | (refine zN ?_; intro K hC hK) | ((repeat clear hJo hJU hJC Jo JU JC); (repeat (fail_if_success (refine hK _ ?_)); clear hK hC K); refine hK _ ?_; clear hK hC K) | (refine zC ?_ ?_ <;> intro hb) | (refine zK ?_; intro Jo JU JC hJo hJU hJC)) <;> (try clear fa))
      refine AW_ret ?_; refine zU ?_; refine ⟨_, .rfl', .inr rfl, ?_, [(0, 0), (4, 1)], 2, ⟨by decide, by decide, by decide⟩, ?_⟩ <;> (have fa := zT; first | exact zE0 | (refine zE ?_; try clear fa))
      refine ⟨.tup [.agg [.rsl 1 0 0 P, eGps false ms], eGps false [], B false], ?_, ⟨ms, [], X, false, x2⟩, ⟨⟨k2.ok, Y, k2.fi⟩, fun h => by cases h⟩, rfl, rfl⟩
      refine LeV.tup (.cons (LeV.agg (by (repeat first | exact LeL.nil | (refine LeL.cons ?_ ?_; (· (first | exact LeV.nil _ _ | exact LeV.rfl' | exact LeV.eq rfl | exact LeV.sl _ _ _ | (simpa only [AV.low, lowL, lowL_eGps, lowL_I, lowL_eGp, lowL_eGps] using LeV.low _))))))) (.cons (LeV.nil _ _) (.cons .rfl' .nil)))
    ·(have fa := zT; (repeat' first | refine zQ ?_ | (refine zN ?_; intro K hC hK) | ((repeat clear hJo hJU hJC Jo JU JC); (repeat (fail_if_success (refine hK _ ?_)); clear hK hC K); refine hK _ ?_; clear hK hC K) | (refine zC ?_ ?_ <;> intro hb) | (refine zK ?_; intro Jo JU JC hJo hJU hJC)) <;> (try clear fa))
     refine AW_ret ?_; refine zU ?_; refine ⟨_, .rfl', .inr rfl, ?_, [(0, 0), (4, 1)], 2, ⟨by decide, by decide, by decide⟩, ?_⟩ <;> (have fa := zT; first | exact zE0 | (refine zE ?_; try clear fa))
     refine ⟨.tup [.agg [.rsl 1 0 0 P, eGps false ms], eGps false [], B false], ?_, ⟨ms, [], X, false, x2⟩, ⟨⟨k2.ok, Y, k2.fi⟩, fun h => by cases h⟩, rfl, rfl⟩
     refine LeV.tup (.cons (LeV.agg (by (repeat first | exact LeL.nil | (refine LeL.cons ?_ ?_; (· (first | exact LeV.nil _ _ | exact LeV.rfl' | exact LeV.eq rfl | exact LeV.sl _ _ _ | (simpa only [AV.low, lowL, lowL_eGps, lowL_I, lowL_eGp, lowL_eGps] using LeV.low _))))))) (.cons (LeV.nil _ _) (.cons .rfl' .nil)))
  ·(have fa := zT; (repeat' first | refine zQ ?_ | (refine zN ?_; intro K hC hK) | ((repeat clear hJo hJU hJC Jo JU JC); (repeat (fail_if_success (refine hK _ ?_)); clear hK hC K); refine hK _ ?_; clear hK hC K) | (refine zC ?_ ?_ <;> intro hb) | (refine zK ?_; intro Jo JU JC hJo hJU hJC)) <;> (try clear fa))
   refine AW_loopG (α := Nat × Int) (fun a => [(0, .ref 0 0 0 0), (3, .ref 1 0 0 0), (4, .ref 2 0 0 0), (7, .ref 3 0 0 0), (8, .rsl 5 0 0 P), (9, .rsl 7 g2 0 gs.length), (15, B (((ms.length : Int) + gs.length) == s.me)), (16, I a.1)])
    (fun a => [(0, .arr 0 1 [U a.2]), (1, .arr 0 9 [eSet s]), (2, .arr 0 2 [.agg [nilA, nilA]]), (3, .arr 0 2 [.agg [.rsl 4 0 0 P, .rsl 6 g1 0 ms.length]]), (4, .arr 0 1 (X.map I)), (5, .arr 0 1 (Y.map I)), (6, .arr g1 3 (ms.map eGp)), (7, .arr g2 3 (gs.map eGp))])
    (fun a => 40 - a.1) (fun a => a.1 ≤ 40) [(0, 0), (1, 1), (2, 2), (3, 3), (4, 4), (5, 5), (6, 6), (7, 7)] [(0, 0), (1, 1), (2, 2), (3, 3), (4, 4), (5, 5), (6, 6), (7, 7)] 0 [0, 3, 4, 7, 8, 9, 15, 16] 1900 (⟨by decide, by decide, by decide⟩) (⟨by decide, by decide, by decide⟩) (0, x') (by dsimp only; omega) (by (have fa := zT; exact zSE)) ?_
   rintro ⟨u, x2⟩ j1 J2 hcJ2 hJ2
   dsimp only at j1 hJ2 ⊢
   by_cases hu : u < 40
   ·by_cases hw : (ms.length : Int) + gs.length = s.me
    ·have hwt : ((ms.length : Int) + gs.length == s.me) = true := by simp [hw]
     rw [hwt] at hJ2 ⊢
     have bb := belX_rg (x := x2) (n := P) (by omega) (by omega)
     have CB := v_Below x2 P (by omega)
     obtain ⟨k, hk⟩ : ∃ k, belX x2 P = k := ⟨_, rfl⟩
     rw [hk] at bb
     have hkk : InB P [k, k] := fun z hz => by simp at hz; omega
     have CF : ASays Tryz.prog 110 [eSet s, eInts false Y, .sl false 1 [I k, I k]] (B (fitB s.co Y [k, k])) := says_fits s Y [k, k] (by rw [hyl]; exact hkk) (by simp) (fun i => by have := k2.fi.rg i; omega) (by omega)
     have CPu : AObj Tryz.prog 111 [.rsl 0 0 0 X.length, .sl false 1 [I k, I k]] [(0, .arr 0 1 (X.map I))] (.tup []) [(0, .arr 0 1 ((incL X [k, k]).map I))] := v_put 0 X [k, k] (by rw [hxl]; exact hkk) (by simp) (fun i => by have := k2.fi.rg i; omega) (by omega)
     rw [hxl] at CPu
     by_cases hf : fitB s.co Y [k, k] = true
     ·rw [hf] at CF
      have hw' : ((ms.length + gs.length : Nat) : Int) = s.me := by omega
      obtain ⟨d1, d2, d3⟩ := k2.done hv hP (by omega) bb.1 bb.2 hf
      have hT5 : List.take (gs.length + 1) (gs.map eGp ++ [AV.agg [.v (.int .i64 4), .v (.int .i64 k), .v (.bool false)]]) = gs.map eGp ++ [AV.agg [.v (.int .i64 4), .v (.int .i64 k), .v (.bool false)]] := List.take_of_length_le (by simp)
      have hT6 : gs.length + 1 ≤ (gs.map eGp ++ [AV.agg [.v (.int .i64 4), .v (.int .i64 k), .v (.bool false)]]).length := by simp
      have CO : ASays Tryz.prog 49 [.sl false 3 (gs.map eGp ++ [AV.agg [.v (.int .i64 4), .v (.int .i64 k), .v (.bool false)]])] (eGps true (ordG (gs ++ [⟨4, k, false⟩]))) := by
       have := says_kOrdered (gs ++ [⟨4, k, false⟩]) (by simp) (by simp; omega)
       rw [show eGps false (gs ++ [⟨4, k, false⟩]) = .sl false 3 (gs.map eGp ++ [AV.agg [.v (.int .i64 4), .v (.int .i64 k), .v (.bool false)]]) from by unfold eGps; rw [List.map_append]; rfl] at this
       exact this
      (have fa := (And.intro @srcH.eq_1 (And.intro hk (And.intro hT1 (And.intro hT2 (And.intro hT5 (And.intro hT6 @stepDE_cL)))))); (repeat' first | refine zS (CP) ?_ | refine zJx (tg [0]) (CB) ?_ | refine zS (CF) ?_ | refine zB (tg [4]) (CPu) ?_ | refine zS (CO) ?_ | refine zQ ?_ | (refine zN ?_; intro K hC hK) | ((repeat clear hJo hJU hJC Jo JU JC); (repeat (fail_if_success (refine hK _ ?_)); clear hK hC K); refine hK _ ?_; clear hK hC K) | (refine zC ?_ ?_ <;> intro hb) | (refine zK ?_; intro Jo JU JC hJo hJU hJC)) <;> (try clear fa))
      refine AW_ret ?_; refine zU ?_; refine ⟨_, .rfl', .inr rfl, ?_, [(0, 0), (4, 1)], 2, ⟨by decide, by decide, by decide⟩, ?_⟩ <;> (have fa := zT; first | exact zE0 | (refine zE ?_; try clear fa))
      refine ⟨.tup [.agg [.rsl 1 0 0 P, eGps false ms], eGps false (ordG (gs ++ [⟨4, k, false⟩])), B true], ?_, ⟨ms, ordG (gs ++ [⟨4, k, false⟩]), incL X [k, k], true, nextX x2⟩, ⟨⟨k2.ok, incL Y [k, k], k2.fi.put hkk hf⟩, fun _ => ⟨d1, d3, gs, k, rfl, k2.go, bb, hw', d2⟩⟩, rfl, rfl⟩
      refine LeV.tup (.cons (LeV.agg (by (repeat first | exact LeL.nil | (refine LeL.cons ?_ ?_; (· (first | exact LeV.nil _ _ | exact LeV.rfl' | exact LeV.eq rfl | exact LeV.sl _ _ _ | (simpa only [AV.low, lowL, lowL_eGps, lowL_I, lowL_eGp, lowL_eGps] using LeV.low _))))))) (.cons (LeV.sl _ _ _) (.cons .rfl' .nil)))
     ·have hf' : fitB s.co Y [k, k] = false := by simpa using hf
      rw [hf'] at CF
      (have fa := (And.intro @srcH.eq_1 (And.intro hk (And.intro hT1 (And.intro hT2 (And.intro @List.take_succ_cons.{0} @List.take_zero.{0}))))); (repeat' first | refine zS (CP) ?_ | refine zJx (tg [0]) (CB) ?_ | refine zS (CF) ?_ | refine zQ ?_ | (refine zN ?_; intro K hC hK) | ((repeat clear hJo hJU hJC Jo JU JC); (repeat (fail_if_success (refine hK _ ?_)); clear hK hC K); refine hK _ ?_; clear hK hC K) | (refine zC ?_ ?_ <;> intro hb) | (refine zK ?_; intro Jo JU JC hJo hJU hJC)) <;> (try clear fa))
      refine hJ2 _ (u + 1, nextX x2) (by dsimp only; omega) (by dsimp only; omega) (by (have fa := zT; exact zSE))
    ·have hwt : ((ms.length : Int) + gs.length == s.me) = false := by simp [hw]
     rw [hwt] at hJ2 ⊢
     (have fa := zT; (repeat' first | refine zQ ?_ | (refine zN ?_; intro K hC hK) | ((repeat clear hJo hJU hJC Jo JU JC); (repeat (fail_if_success (refine hK _ ?_)); clear hK hC K); refine hK _ ?_; clear hK hC K) | (refine zC ?_ ?_ <;> intro hb) | (refine zK ?_; intro Jo JU JC hJo hJU hJC)) <;> (try clear fa))
     refine AW_ret ?_; refine zU ?_; refine ⟨_, .rfl', .inr rfl, ?_, [(0, 0), (4, 1)], 2, ⟨by decide, by decide, by decide⟩, ?_⟩ <;> (have fa := zT; first | exact zE0 | (refine zE ?_; try clear fa))
     refine ⟨.tup [.agg [.rsl 1 0 0 P, eGps false ms], eGps false [], B false], ?_, ⟨ms, [], X, false, x2⟩, ⟨⟨k2.ok, Y, k2.fi⟩, fun h => by cases h⟩, rfl, rfl⟩
     refine LeV.tup (.cons (LeV.agg (by (repeat first | exact LeL.nil | (refine LeL.cons ?_ ?_; (· (first | exact LeV.nil _ _ | exact LeV.rfl' | exact LeV.eq rfl | exact LeV.sl _ _ _ | (simpa only [AV.low, lowL, lowL_eGps, lowL_I, lowL_eGp, lowL_eGps] using LeV.low _))))))) (.cons (LeV.nil _ _) (.cons .rfl' .nil)))
   ·(have fa := zT; (repeat' first | refine zQ ?_ | (refine zN ?_; intro K hC hK) | ((repeat clear hJo hJU hJC Jo JU JC); (repeat (fail_if_success (refine hK _ ?_)); clear hK hC K); refine hK _ ?_; clear hK hC K) | (refine zC ?_ ?_ <;> intro hb) | (refine zK ?_; intro Jo JU JC hJo hJU hJC)) <;> (try clear fa))
    refine AW_ret ?_; refine zU ?_; refine ⟨_, .rfl', .inr rfl, ?_, [(0, 0), (4, 1)], 2, ⟨by decide, by decide, by decide⟩, ?_⟩ <;> (have fa := zT; first | exact zE0 | (refine zE ?_; try clear fa))
    refine ⟨.tup [.agg [.rsl 1 0 0 P, eGps false ms], eGps false [], B false], ?_, ⟨ms, [], X, false, x2⟩, ⟨⟨k2.ok, Y, k2.fi⟩, fun h => by cases h⟩, rfl, rfl⟩
    refine LeV.tup (.cons (LeV.agg (by (repeat first | exact LeL.nil | (refine LeL.cons ?_ ?_; (· (first | exact LeV.nil _ _ | exact LeV.rfl' | exact LeV.eq rfl | exact LeV.sl _ _ _ | (simpa only [AV.low, lowL, lowL_eGps, lowL_I, lowL_eGp, lowL_eGps] using LeV.low _))))))) (.cons (LeV.nil _ _) (.cons .rfl' .nil)))
end Go.Proofs.YthblfhgofopcaaaGreat
