/-
  Parts of the proof: TilesV, Hand.
-/
import Derived.Test.YthblfhgofopcaaaGreatHA14
import Derived.Test.YthblfhgofopcaaaGreatHA26
set_option linter.all false
namespace Go.Proofs.YthblfhgofopcaaaGreat
open Go.RowKit
set_option maxRecDepth 100000
set_option maxHeartbeats 2000000
theorem grp_ok {s : TSet} {a k : Int} (h : grpErr s a k = 0) : 1 ≤ a ∧ a ≤ 5 ∧ 0 ≤ k ∧ k < kindsI s ∧ (a = 1 → runsB s k = true) := by
 unfold grpErr at h
 split at h
 ·cases h
 ·split at h
  ·cases h
  ·split at h
   ·cases h
   ·rename_i h1 h2 h3
    exact ⟨by omega, by omega, by omega, by omega, fun e => by cases hr : runsB s k <;> simp_all⟩
theorem says_Tiles (s : TSet) (g : Gp) : ASays Tryz.prog 48 [eSet s, eGp g] (eInts true (tilesI s g.wh g.kd)) := by
 have neg : (chkErr s ≠ 0 ∨ grpErr s g.wh g.kd ≠ 0) → tilesI s g.wh g.kd = [] := fun h => by unfold tilesI; rw [if_neg (by omega)]
 by_cases hc : chkErr s = 0
 ·have e : (chkErr s != 0) = false := by simp [hc]
  by_cases hg : grpErr s g.wh g.kd = 0
  ·have e2 : (grpErr s g.wh g.kd != 0) = false := by simp [hg]
   obtain ⟨a1, a2, k1, k2, _⟩ := grp_ok hg
   have hk := kinds_le hc
   have pos : tilesI s g.wh g.kd = tilesL g.wh g.kd := by unfold tilesI; rw [if_pos ⟨hc, hg⟩]
   have w1 : IntKind.i64.wrap (g.kd + 1) = g.kd + 1 := vwrap_in (by omega) (by omega)
   have w2 : IntKind.i64.wrap (g.kd + 2) = g.kd + 2 := vwrap_in (by omega) (by omega)
   refine acall_of (nx := 0) (ne := 0) tysGood (DD_ok tysGood mixed _) Tryz.func48 (by rfl) (by rfl) (by simp [Tryz.ntmps48]) (fun p hp => by cases hp) ?_; rw [Tryz.ntmps48]; let tb := ord_48
   (have fa := zT; (repeat first | refine zG ?_ | ((with_reducible refine AW_seq ?_); intro K hK) | ((repeat (fail_if_success (refine hK _ ?_)); clear hK K); refine hK _ ?_; clear hK K)); (try clear fa))
   (have fa := zT; refine zW (says_Check s) ?_; (try clear fa))
   (have fa := e; (repeat first | refine zG ?_ | ((with_reducible refine AW_seq ?_); intro K hK) | ((repeat (fail_if_success (refine hK _ ?_)); clear hK K); refine hK _ ?_; clear hK K)); (try clear fa))
   (have fa := zT; refine zW (says_checkGroup s g) ?_; (try clear fa))
   (have fa := e2; (repeat first | refine zG ?_ | ((with_reducible refine AW_seq ?_); intro K hK) | ((repeat (fail_if_success (refine hK _ ?_)); clear hK K); refine hK _ ?_; clear hK K)); (try clear fa))
   refine AW_cond rfl ⟨fun h => ?_, fun h => ?_⟩
   ·have h1 : g.wh = 1 := by simpa using h
    (have fa := (And.intro w1 w2); (repeat first | refine zG ?_ | ((with_reducible refine AW_seq ?_); intro K hK) | ((repeat (fail_if_success (refine hK _ ?_)); clear hK K); refine hK _ ?_; clear hK K)); (try clear fa))
    refine AW_ret ?_; refine ⟨.inr rfl, ?_, [], 2, finOk_nil, ?_⟩ <;> (have fa := zT; first | exact zE0 | (refine zE ?_; try clear fa))
    rw [pos, h1]; simp [tilesL]
   ·have n1 : g.wh ≠ 1 := by simpa using h
    (have fa := zT; (repeat first | refine zG ?_ | ((with_reducible refine AW_seq ?_); intro K hK) | ((repeat (fail_if_success (refine hK _ ?_)); clear hK K); refine hK _ ?_; clear hK K)); (try clear fa))
    refine AW_cond rfl ⟨fun h => ?_, fun h => ?_⟩
    ·have h1 : g.wh = 5 := by simpa using h
     (have fa := zT; (repeat first | refine zG ?_ | ((with_reducible refine AW_seq ?_); intro K hK) | ((repeat (fail_if_success (refine hK _ ?_)); clear hK K); refine hK _ ?_; clear hK K)); (try clear fa))
     refine AW_ret ?_; refine ⟨.inr rfl, ?_, [], 2, finOk_nil, ?_⟩ <;> (have fa := zT; first | exact zE0 | (refine zE ?_; try clear fa))
     rw [pos, h1]; simp [tilesL]
    ·have n5 : g.wh ≠ 5 := by simpa using h
     (have fa := zT; (repeat first | refine zG ?_ | ((with_reducible refine AW_seq ?_); intro K hK) | ((repeat (fail_if_success (refine hK _ ?_)); clear hK K); refine hK _ ?_; clear hK K)); (try clear fa))
     refine AW_cond rfl ⟨fun h => ?_, fun h => ?_⟩
     ·have h1 : g.wh = 4 := by simpa using h
      (have fa := zT; (repeat first | refine zG ?_ | ((with_reducible refine AW_seq ?_); intro K hK) | ((repeat (fail_if_success (refine hK _ ?_)); clear hK K); refine hK _ ?_; clear hK K)); (try clear fa))
      (have fa := zT; refine zW (says_RepeatI g.kd 2 (by omega)) ?_; (try clear fa))
      (have fa := zT; (repeat first | refine zG ?_ | ((with_reducible refine AW_seq ?_); intro K hK) | ((repeat (fail_if_success (refine hK _ ?_)); clear hK K); refine hK _ ?_; clear hK K)); (try clear fa))
      refine AW_ret ?_; refine ⟨.inr rfl, ?_, [], 2, finOk_nil, ?_⟩ <;> (have fa := zT; first | exact zE0 | (refine zE ?_; try clear fa))
      rw [pos, h1]; simp [tilesL]
     ·have n4 : g.wh ≠ 4 := by simpa using h
      have w3 : IntKind.i64.wrap (g.wh + 1) = ((g.wh.toNat + 1 : Nat) : Int) := by rw [vwrap_in (by omega) (by omega)]; omega
      (have fa := w3; (repeat first | refine zG ?_ | ((with_reducible refine AW_seq ?_); intro K hK) | ((repeat (fail_if_success (refine hK _ ?_)); clear hK K); refine hK _ ?_; clear hK K)); (try clear fa))
      (have fa := zT; refine zW (says_RepeatI g.kd (g.wh.toNat + 1) (by omega)) ?_; (try clear fa))
      (have fa := zT; (repeat first | refine zG ?_ | ((with_reducible refine AW_seq ?_); intro K hK) | ((repeat (fail_if_success (refine hK _ ?_)); clear hK K); refine hK _ ?_; clear hK K)); (try clear fa))
      refine AW_ret ?_; refine ⟨.inr rfl, ?_, [], 2, finOk_nil, ?_⟩ <;> (have fa := zT; first | exact zE0 | (refine zE ?_; try clear fa))
      rw [pos]
      rcases (show g.wh = 2 ∨ g.wh = 3 by omega) with h1 | h1 <;> rw [h1] <;> rfl
  ·have e2 : (grpErr s g.wh g.kd != 0) = true := by simp [hg]
   rw [neg (.inr hg)]
   refine asays_res (x := .v (.slice none 0 0)) (fun _ _ _ => rel_nil) ?_
   refine acall_of (nx := 0) (ne := 0) tysGood (DD_ok tysGood mixed _) Tryz.func48 (by rfl) (by rfl) (by simp [Tryz.ntmps48]) (fun p hp => by cases hp) ?_; rw [Tryz.ntmps48]; let tb := ord_48
   (have fa := zT; (repeat first | refine zG ?_ | ((with_reducible refine AW_seq ?_); intro K hK) | ((repeat (fail_if_success (refine hK _ ?_)); clear hK K); refine hK _ ?_; clear hK K)); (try clear fa))
   (have fa := zT; refine zW (says_Check s) ?_; (try clear fa))
   (have fa := e; (repeat first | refine zG ?_ | ((with_reducible refine AW_seq ?_); intro K hK) | ((repeat (fail_if_success (refine hK _ ?_)); clear hK K); refine hK _ ?_; clear hK K)); (try clear fa))
   (have fa := zT; refine zW (says_checkGroup s g) ?_; (try clear fa))
   (have fa := e2; (repeat first | refine zG ?_ | ((with_reducible refine AW_seq ?_); intro K hK) | ((repeat (fail_if_success (refine hK _ ?_)); clear hK K); refine hK _ ?_; clear hK K)); (try clear fa))
   refine AW_ret ?_; refine ⟨.inr rfl, ?_, [], 2, finOk_nil, ?_⟩ <;> (have fa := zT; first | exact zE0 | (refine zE ?_; try clear fa))
 ·have e : (chkErr s != 0) = true := by simp [hc]
  rw [neg (.inl hc)]
  refine asays_res (x := .v (.slice none 0 0)) (fun _ _ _ => rel_nil) ?_
  refine acall_of (nx := 0) (ne := 0) tysGood (DD_ok tysGood mixed _) Tryz.func48 (by rfl) (by rfl) (by simp [Tryz.ntmps48]) (fun p hp => by cases hp) ?_; rw [Tryz.ntmps48]; let tb := ord_48
  (have fa := zT; (repeat first | refine zG ?_ | ((with_reducible refine AW_seq ?_); intro K hK) | ((repeat (fail_if_success (refine hK _ ?_)); clear hK K); refine hK _ ?_; clear hK K)); (try clear fa))
  (have fa := zT; refine zW (says_Check s) ?_; (try clear fa))
  (have fa := e; (repeat first | refine zG ?_ | ((with_reducible refine AW_seq ?_); intro K hK) | ((repeat (fail_if_success (refine hK _ ?_)); clear hK K); refine hK _ ?_; clear hK K)); (try clear fa))
  refine AW_ret ?_; refine ⟨.inr rfl, ?_, [], 2, finOk_nil, ?_⟩ <;> (have fa := zT; first | exact zE0 | (refine zE ?_; try clear fa))
theorem says_rtiles (g : Gp) (k0 : 0 ≤ g.kd) (k1 : g.kd ≤ 1000) : ASays Tryz.prog 123 [eGp g] (eInts true (tilesL g.wh g.kd)) := by
 have w1 : IntKind.i64.wrap (g.kd + 1) = g.kd + 1 := vwrap_in (by omega) (by omega)
 have w2 : IntKind.i64.wrap (g.kd + 2) = g.kd + 2 := vwrap_in (by omega) (by omega)
 refine acall_of (nx := 0) (ne := 0) tysGood (DD_ok tysGood mixed _) Tryz.func123 (by rfl) (by rfl) (by simp [Tryz.ntmps123]) (fun p hp => by cases hp) ?_; rw [Tryz.ntmps123]; let tb := ord_123
 (have fa := zT; (repeat first | refine zG ?_ | ((with_reducible refine AW_seq ?_); intro K hK) | ((repeat (fail_if_success (refine hK _ ?_)); clear hK K); refine hK _ ?_; clear hK K)); (try clear fa))
 refine AW_cond rfl ⟨fun h => ?_, fun h => ?_⟩
 ·have h1 : g.wh = 1 := by simpa using h
  (have fa := (And.intro w1 w2); (repeat first | refine zG ?_ | ((with_reducible refine AW_seq ?_); intro K hK) | ((repeat (fail_if_success (refine hK _ ?_)); clear hK K); refine hK _ ?_; clear hK K)); (try clear fa))
  refine AW_ret ?_; refine ⟨.inr rfl, ?_, [], 2, finOk_nil, ?_⟩ <;> (have fa := zT; first | exact zE0 | (refine zE ?_; try clear fa))
  rw [h1]; simp [tilesL]
 ·have n1 : g.wh ≠ 1 := by simpa using h
  (have fa := zT; (repeat first | refine zG ?_ | ((with_reducible refine AW_seq ?_); intro K hK) | ((repeat (fail_if_success (refine hK _ ?_)); clear hK K); refine hK _ ?_; clear hK K)); (try clear fa))
  refine AW_cond rfl ⟨fun h => ?_, fun h => ?_⟩
  ·have h1 : g.wh = 2 := by simpa using h
   (have fa := zT; (repeat first | refine zG ?_ | ((with_reducible refine AW_seq ?_); intro K hK) | ((repeat (fail_if_success (refine hK _ ?_)); clear hK K); refine hK _ ?_; clear hK K)); (try clear fa))
   refine AW_ret ?_; refine ⟨.inr rfl, ?_, [], 2, finOk_nil, ?_⟩ <;> (have fa := zT; first | exact zE0 | (refine zE ?_; try clear fa))
   rw [h1]; simp [tilesL]
  ·have n2 : g.wh ≠ 2 := by simpa using h
   (have fa := zT; (repeat first | refine zG ?_ | ((with_reducible refine AW_seq ?_); intro K hK) | ((repeat (fail_if_success (refine hK _ ?_)); clear hK K); refine hK _ ?_; clear hK K)); (try clear fa))
   refine AW_cond rfl ⟨fun h => ?_, fun h => ?_⟩
   ·have h1 : g.wh = 3 := by simpa using h
    (have fa := zT; (repeat first | refine zG ?_ | ((with_reducible refine AW_seq ?_); intro K hK) | ((repeat (fail_if_success (refine hK _ ?_)); clear hK K); refine hK _ ?_; clear hK K)); (try clear fa))
    refine AW_ret ?_; refine ⟨.inr rfl, ?_, [], 2, finOk_nil, ?_⟩ <;> (have fa := zT; first | exact zE0 | (refine zE ?_; try clear fa))
    rw [h1]; simp [tilesL]
   ·have n3 : g.wh ≠ 3 := by simpa using h
    (have fa := zT; (repeat first | refine zG ?_ | ((with_reducible refine AW_seq ?_); intro K hK) | ((repeat (fail_if_success (refine hK _ ?_)); clear hK K); refine hK _ ?_; clear hK K)); (try clear fa))
    refine AW_cond rfl ⟨fun h => ?_, fun h => ?_⟩
    ·have h1 : g.wh = 4 := by simpa using h
     (have fa := zT; (repeat first | refine zG ?_ | ((with_reducible refine AW_seq ?_); intro K hK) | ((repeat (fail_if_success (refine hK _ ?_)); clear hK K); refine hK _ ?_; clear hK K)); (try clear fa))
     refine AW_ret ?_; refine ⟨.inr rfl, ?_, [], 2, finOk_nil, ?_⟩ <;> (have fa := zT; first | exact zE0 | (refine zE ?_; try clear fa))
     rw [h1]; simp [tilesL]
    ·have n4 : g.wh ≠ 4 := by simpa using h
     (have fa := zT; (repeat first | refine zG ?_ | ((with_reducible refine AW_seq ?_); intro K hK) | ((repeat (fail_if_success (refine hK _ ?_)); clear hK K); refine hK _ ?_; clear hK K)); (try clear fa))
     refine AW_ret ?_; refine ⟨.inr rfl, ?_, [], 2, finOk_nil, ?_⟩ <;> (have fa := zT; first | exact zE0 | (refine zE ?_; try clear fa))
     simp [tilesL, n1, n2, n3, n4]
theorem says_rTiles (s : TSet) (g : Gp) : ASays Tryz.prog 61 [eSet s, eGp g] (eInts true (tilesI s g.wh g.kd)) := by
 have neg : (chkErr s ≠ 0 ∨ grpErr s g.wh g.kd ≠ 0) → tilesI s g.wh g.kd = [] := fun h => by unfold tilesI; rw [if_neg (by omega)]
 by_cases hc : chkErr s = 0
 ·have e : (chkErr s != 0) = false := by simp [hc]
  by_cases hg : grpErr s g.wh g.kd = 0
  ·have e2 : (grpErr s g.wh g.kd != 0) = false := by simp [hg]
   obtain ⟨a1, a2, k1, k2, _⟩ := grp_ok hg
   have hk := kinds_le hc
   have pos : tilesI s g.wh g.kd = tilesL g.wh g.kd := by unfold tilesI; rw [if_pos ⟨hc, hg⟩]
   rw [pos]
   refine acall_of (nx := 0) (ne := 0) tysGood (DD_ok tysGood mixed _) Tryz.func61 (by rfl) (by rfl) (by simp [Tryz.ntmps61]) (fun p hp => by cases hp) ?_; rw [Tryz.ntmps61]; let tb := ord_61
   (have fa := zT; (repeat first | refine zG ?_ | ((with_reducible refine AW_seq ?_); intro K hK) | ((repeat (fail_if_success (refine hK _ ?_)); clear hK K); refine hK _ ?_; clear hK K)); (try clear fa))
   (have fa := zT; refine zW (says_rCheck s) ?_; (try clear fa))
   (have fa := e; (repeat first | refine zG ?_ | ((with_reducible refine AW_seq ?_); intro K hK) | ((repeat (fail_if_success (refine hK _ ?_)); clear hK K); refine hK _ ?_; clear hK K)); (try clear fa))
   (have fa := zT; refine zW (says_rcheckGroup s g) ?_; (try clear fa))
   (have fa := e2; (repeat first | refine zG ?_ | ((with_reducible refine AW_seq ?_); intro K hK) | ((repeat (fail_if_success (refine hK _ ?_)); clear hK K); refine hK _ ?_; clear hK K)); (try clear fa))
   (have fa := zT; refine zW (says_rtiles g k1 (by omega)) ?_; (try clear fa))
   (have fa := zT; (repeat first | refine zG ?_ | ((with_reducible refine AW_seq ?_); intro K hK) | ((repeat (fail_if_success (refine hK _ ?_)); clear hK K); refine hK _ ?_; clear hK K)); (try clear fa))
   refine AW_ret ?_; refine ⟨.inr rfl, ?_, [], 2, finOk_nil, ?_⟩ <;> (have fa := zT; first | exact zE0 | (refine zE ?_; try clear fa))
  ·have e2 : (grpErr s g.wh g.kd != 0) = true := by simp [hg]
   rw [neg (.inr hg)]
   refine asays_res (x := .v (.slice none 0 0)) (fun _ _ _ => rel_nil) ?_
   refine acall_of (nx := 0) (ne := 0) tysGood (DD_ok tysGood mixed _) Tryz.func61 (by rfl) (by rfl) (by simp [Tryz.ntmps61]) (fun p hp => by cases hp) ?_; rw [Tryz.ntmps61]; let tb := ord_61
   (have fa := zT; (repeat first | refine zG ?_ | ((with_reducible refine AW_seq ?_); intro K hK) | ((repeat (fail_if_success (refine hK _ ?_)); clear hK K); refine hK _ ?_; clear hK K)); (try clear fa))
   (have fa := zT; refine zW (says_rCheck s) ?_; (try clear fa))
   (have fa := e; (repeat first | refine zG ?_ | ((with_reducible refine AW_seq ?_); intro K hK) | ((repeat (fail_if_success (refine hK _ ?_)); clear hK K); refine hK _ ?_; clear hK K)); (try clear fa))
   (have fa := zT; refine zW (says_rcheckGroup s g) ?_; (try clear fa))
   (have fa := e2; (repeat first | refine zG ?_ | ((with_reducible refine AW_seq ?_); intro K hK) | ((repeat (fail_if_success (refine hK _ ?_)); clear hK K); refine hK _ ?_; clear hK K)); (try clear fa))
   refine AW_ret ?_; refine ⟨.inr rfl, ?_, [], 2, finOk_nil, ?_⟩ <;> (have fa := zT; first | exact zE0 | (refine zE ?_; try clear fa))
 ·have e : (chkErr s != 0) = true := by simp [hc]
  rw [neg (.inl hc)]
  refine asays_res (x := .v (.slice none 0 0)) (fun _ _ _ => rel_nil) ?_
  refine acall_of (nx := 0) (ne := 0) tysGood (DD_ok tysGood mixed _) Tryz.func61 (by rfl) (by rfl) (by simp [Tryz.ntmps61]) (fun p hp => by cases hp) ?_; rw [Tryz.ntmps61]; let tb := ord_61
  (have fa := zT; (repeat first | refine zG ?_ | ((with_reducible refine AW_seq ?_); intro K hK) | ((repeat (fail_if_success (refine hK _ ?_)); clear hK K); refine hK _ ?_; clear hK K)); (try clear fa))
  (have fa := zT; refine zW (says_rCheck s) ?_; (try clear fa))
  (have fa := e; (repeat first | refine zG ?_ | ((with_reducible refine AW_seq ?_); intro K hK) | ((repeat (fail_if_success (refine hK _ ?_)); clear hK K); refine hK _ ?_; clear hK K)); (try clear fa))
  refine AW_ret ?_; refine ⟨.inr rfl, ?_, [], 2, finOk_nil, ?_⟩ <;> (have fa := zT; first | exact zE0 | (refine zE ?_; try clear fa))
end Go.Proofs.YthblfhgofopcaaaGreat

namespace Go.Proofs.YthblfhgofopcaaaGreat
open Go.RowKit
set_option maxRecDepth 100000
set_option maxHeartbeats 2000000
theorem own_clone_ints (zs : List Int) (hz : zs.length ≤ 1000000) : AOwn Tryz.prog 121 [.sl false 1 (zs.map I)] (.rsl 0 1 0 zs.length) [(0, .arr 1 1 (zs.map I))] := by
 have h1 : zs.length ≤ 1000000000000 := by omega
 by_cases he : zs = []
 ·subst he
  refine acall_arg0 fun A cap hc => ?_
  cases A with
  | none =>
   refine acall_ofW (nx := 0) (ne := 0) tysGood (DD_ok tysGood mixed _) Tryz.func121 (by rfl) (by rfl) (by simp [Tryz.ntmps121]) (fun p hp => by cases hp) ?_; rw [Tryz.ntmps121]; let tb := ord_121
   (have fa := zT; (repeat first | refine zG ?_ | ((with_reducible refine AW_seq ?_); intro K hK) | ((repeat (fail_if_success (refine hK _ ?_)); clear hK K); refine hK _ ?_; clear hK K)); (try clear fa))
   refine AW_ret ?_; refine ⟨_, wk_virtT 2 100 1 1 (by rfl) (by rfl), ?_⟩
   refine ⟨.inr rfl, ?_, [(100, 0)], 2, finOk0 (by decide) (by decide), ?_⟩ <;> dsimp only [virtT, upd] <;> (have fa := zT; first | exact zE0 | (refine zE ?_; try clear fa))
  | some a =>
   refine acall_of (nx := 0) (ne := 0) tysGood (DD_ok tysGood mixed _) Tryz.func121 (by rfl) (by rfl) (by simp [Tryz.ntmps121]) (fun p hp => by cases hp) ?_; rw [Tryz.ntmps121]; let tb := ord_121
   (have fa := zT; (repeat first | refine zG ?_ | ((with_reducible refine AW_seq ?_); intro K hK) | ((repeat (fail_if_success (refine hK _ ?_)); clear hK K); refine hK _ ?_; clear hK K)); (try clear fa))
   refine AW_ret ?_; refine ⟨.inr rfl, ?_, [(48, 0)], 2, finOk0 (by decide) (by decide), ?_⟩ <;> (have fa := zT; first | exact zE0 | (refine zE ?_; try clear fa))
 ·refine acall_of (nx := 0) (ne := 0) tysGood (DD_ok tysGood mixed _) Tryz.func121 (by rfl) (by rfl) (by simp [Tryz.ntmps121]) (fun p hp => by cases hp) ?_; rw [Tryz.ntmps121]; let tb := ord_121
  have he' : (zs.map I ≠ []) = True := by simp [he]
  (have fa := (And.intro he' h1); (repeat first | refine zG ?_ | ((with_reducible refine AW_seq ?_); intro K hK) | ((repeat (fail_if_success (refine hK _ ?_)); clear hK K); refine hK _ ?_; clear hK K)); (try clear fa))
  refine AW_ret ?_; refine ⟨.inr rfl, ?_, [(48, 0)], 2, finOk0 (by decide) (by decide), ?_⟩ <;> (have fa := zT; first | exact zE0 | (refine zE ?_; try clear fa))
theorem own_clone_gps (zs : List Gp) (hz : zs.length ≤ 1000000) : AOwn Tryz.prog 91 [.sl false 3 (zs.map eGp)] (.rsl 0 1 0 zs.length) [(0, .arr 1 3 (zs.map eGp))] := by
 have h1 : zs.length ≤ 1000000000000 := by omega
 by_cases he : zs = []
 ·subst he
  refine acall_arg0 fun A cap hc => ?_
  cases A with
  | none =>
   refine acall_ofW (nx := 0) (ne := 0) tysGood (DD_ok tysGood mixed _) Tryz.func91 (by rfl) (by rfl) (by simp [Tryz.ntmps91]) (fun p hp => by cases hp) ?_; rw [Tryz.ntmps91]; let tb := ord_91
   (have fa := zT; (repeat first | refine zG ?_ | ((with_reducible refine AW_seq ?_); intro K hK) | ((repeat (fail_if_success (refine hK _ ?_)); clear hK K); refine hK _ ?_; clear hK K)); (try clear fa))
   refine AW_ret ?_; refine ⟨_, wk_virtT 2 100 1 3 (by rfl) (by rfl), ?_⟩
   refine ⟨.inr rfl, ?_, [(100, 0)], 2, finOk0 (by decide) (by decide), ?_⟩ <;> dsimp only [virtT, upd] <;> (have fa := zT; first | exact zE0 | (refine zE ?_; try clear fa))
  | some a =>
   refine acall_of (nx := 0) (ne := 0) tysGood (DD_ok tysGood mixed _) Tryz.func91 (by rfl) (by rfl) (by simp [Tryz.ntmps91]) (fun p hp => by cases hp) ?_; rw [Tryz.ntmps91]; let tb := ord_91
   (have fa := zT; (repeat first | refine zG ?_ | ((with_reducible refine AW_seq ?_); intro K hK) | ((repeat (fail_if_success (refine hK _ ?_)); clear hK K); refine hK _ ?_; clear hK K)); (try clear fa))
   refine AW_ret ?_; refine ⟨.inr rfl, ?_, [(48, 0)], 2, finOk0 (by decide) (by decide), ?_⟩ <;> (have fa := zT; first | exact zE0 | (refine zE ?_; try clear fa))
 ·refine acall_of (nx := 0) (ne := 0) tysGood (DD_ok tysGood mixed _) Tryz.func91 (by rfl) (by rfl) (by simp [Tryz.ntmps91]) (fun p hp => by cases hp) ?_; rw [Tryz.ntmps91]; let tb := ord_91
  have he' : (zs.map eGp ≠ []) = True := by simp [he]
  (have fa := (And.intro he' h1); (repeat first | refine zG ?_ | ((with_reducible refine AW_seq ?_); intro K hK) | ((repeat (fail_if_success (refine hK _ ?_)); clear hK K); refine hK _ ?_; clear hK K)); (try clear fa))
  refine AW_ret ?_; refine ⟨.inr rfl, ?_, [(48, 0)], 2, finOk0 (by decide) (by decide), ?_⟩ <;> (have fa := zT; first | exact zE0 | (refine zE ?_; try clear fa))
theorem own_Copy (h : Hd) (h1 : h.bag.length ≤ 1000000) (h2 : h.me.length ≤ 1000000) : AOwn Tryz.prog 57 [eHd false h] (.agg [.rsl 0 1 0 h.bag.length, .rsl 1 1 0 h.me.length]) [(0, .arr 1 1 (h.bag.map I)), (1, .arr 1 3 (h.me.map eGp))] := by
 refine acall_of (nx := 0) (ne := 0) tysGood (DD_ok tysGood mixed _) Tryz.func57 (by rfl) (by rfl) (by simp [Tryz.ntmps57]) (fun p hp => by cases hp) ?_; rw [Tryz.ntmps57]; let tb := ord_57
 (have fa := zT; (repeat first | refine zG ?_ | ((with_reducible refine AW_seq ?_); intro K hK) | ((repeat (fail_if_success (refine hK _ ?_)); clear hK K); refine hK _ ?_; clear hK K)); (try clear fa))
 (have fa := zT; refine zDo (own_clone_ints h.bag h1) ?_; (try clear fa))
 (have fa := zT; (repeat first | refine zG ?_ | ((with_reducible refine AW_seq ?_); intro K hK) | ((repeat (fail_if_success (refine hK _ ?_)); clear hK K); refine hK _ ?_; clear hK K)); (try clear fa))
 (have fa := zT; refine zDo (own_clone_gps h.me h2) ?_; (try clear fa))
 (have fa := zT; (repeat first | refine zG ?_ | ((with_reducible refine AW_seq ?_); intro K hK) | ((repeat (fail_if_success (refine hK _ ?_)); clear hK K); refine hK _ ?_; clear hK K)); (try clear fa))
 refine AW_ret ?_; refine ⟨.inr rfl, ?_, [(64, 0), (112, 1)], 2, finOk0 (by decide) (by decide), ?_⟩ <;> (have fa := zT; first | exact zE0 | (refine zE ?_; try clear fa))
theorem own_rCopy (h : Hd) (h1 : h.bag.length ≤ 1000000) (h2 : h.me.length ≤ 1000000) : AOwn Tryz.prog 30 [eHd false h] (.agg [.rsl 0 1 0 h.bag.length, .rsl 1 1 0 h.me.length]) [(0, .arr 1 1 (h.bag.map I)), (1, .arr 1 3 (h.me.map eGp))] := by
 have l1 : h.bag.length ≤ 1000000000000 := by omega
 have l2 : h.me.length ≤ 1000000000000 := by omega
 refine acall_of (nx := 0) (ne := 0) tysGood (DD_ok tysGood mixed _) Tryz.func30 (by rfl) (by rfl) (by simp [Tryz.ntmps30]) (fun p hp => by cases hp) ?_; rw [Tryz.ntmps30]; let tb := ord_30
 (have fa := (And.intro l1 l2); (repeat first | refine zG ?_ | ((with_reducible refine AW_seq ?_); intro K hK) | ((repeat (fail_if_success (refine hK _ ?_)); clear hK K); refine hK _ ?_; clear hK K)); (try clear fa))
 refine AW_ret ?_; refine ⟨.inr rfl, ?_, [(32, 0), (96, 1)], 2, finOk0 (by decide) (by decide), ?_⟩ <;> (have fa := zT; first | exact zE0 | (refine zE ?_; try clear fa))
theorem says_SameInts (a b : List Int) (ha : a.length ≤ 1000000) : ASays Tryz.prog 95 [eInts false a, eInts false b] (B (decide (a = b))) := by
 refine acall_of (nx := 0) (ne := 0) tysGood (DD_ok tysGood mixed _) Tryz.func95 (by rfl) (by rfl) (by simp [Tryz.ntmps95]) (fun p hp => by cases hp) ?_; rw [Tryz.ntmps95]; let tb := ord_95
 (have fa := zT; (repeat first | refine zG ?_ | ((with_reducible refine AW_seq ?_); intro K hK) | ((repeat (fail_if_success (refine hK _ ?_)); clear hK K); refine hK _ ?_; clear hK K)); (try clear fa))
 refine AW_for a.length (fun k => k ≤ b.length ∧ ∀ i, (h1 : i < a.length) → (h2 : i < b.length) → i < k → a[i] = b[i]) (fun k => ⟨80, [(0, eInts false a), (1, eInts false b), (5, I k)], []⟩) [] 0 [0, 1, 5] 80 finOk_nil ⟨Nat.zero_le _, fun i _ _ h => absurd h (Nat.not_lt_zero i)⟩ (by (have fa := zT; exact zV)) ?_
 rintro k hk ⟨hkb, hR⟩ J hJ
 by_cases hlt : k < a.length
 ·have e1 : decide (k < a.length) = true := by simp [hlt]
  by_cases hlt' : k < b.length
  ·have e2 : decide (k < b.length) = true := by simp [hlt']
   (have fa := (And.intro e1 (And.intro e2 (And.intro hlt hlt'))); (repeat first | refine zG ?_ | ((with_reducible refine AW_seq ?_); intro K hK) | ((repeat (fail_if_success (refine hK _ ?_)); clear hK K); refine hK _ ?_; clear hK K)); (try clear fa))
   refine AW_cond rfl ⟨fun h => ?_, fun h => ?_⟩
   ·have hne : a[k] ≠ b[k] := by simpa using h
    (have fa := zT; (repeat first | refine zG ?_ | ((with_reducible refine AW_seq ?_); intro K hK) | ((repeat (fail_if_success (refine hK _ ?_)); clear hK K); refine hK _ ?_; clear hK K)); (try clear fa))
    refine AW_ret ?_; refine ⟨.inr rfl, ?_, [], 2, finOk_nil, ?_⟩ <;> (have fa := zT; first | exact zE0 | (refine zE ?_; try clear fa))
    have : a ≠ b := fun e => hne (by simp [e])
    simp [this]
   ·have he' : a[k] = b[k] := by simpa using h
    clear h
    (have fa := (vwrap_succ (show k < 9223372036854775807 by omega)); (repeat first | refine zG ?_ | ((with_reducible refine AW_seq ?_); intro K hK) | ((repeat (fail_if_success (refine hK _ ?_)); clear hK K); refine hK _ ?_; clear hK K)); (try clear fa))
    refine hJ _ hlt ⟨hlt', fun i h1 h2 h3 => ?_⟩ (by (have fa := zT; exact zV))
    by_cases hi : i = k
    ·subst hi; exact he'
    ·exact hR i h1 h2 (by omega)
  ·have e2 : decide (k < b.length) = false := by simp [hlt']
   (have fa := (And.intro e1 e2); (repeat first | refine zG ?_ | ((with_reducible refine AW_seq ?_); intro K hK) | ((repeat (fail_if_success (refine hK _ ?_)); clear hK K); refine hK _ ?_; clear hK K)); (try clear fa))
   refine AW_ret ?_; refine ⟨.inr rfl, ?_, [], 2, finOk_nil, ?_⟩ <;> (have fa := zT; first | exact zE0 | (refine zE ?_; try clear fa))
   have h1 : a.length ≠ b.length := by omega
   have h2 : a ≠ b := fun e => h1 (by rw [e])
   simp [h2]; omega
 ·have e1 : decide (k < a.length) = false := by simp [hlt]
  (have fa := e1; (repeat first | refine zG ?_ | ((with_reducible refine AW_seq ?_); intro K hK) | ((repeat (fail_if_success (refine hK _ ?_)); clear hK K); refine hK _ ?_; clear hK K)); (try clear fa))
  refine AW_ret ?_; refine ⟨.inr rfl, ?_, [], 2, finOk_nil, ?_⟩ <;> (have fa := zT; first | exact zE0 | (refine zE ?_; try clear fa))
  by_cases hl : a.length = b.length
  ·have : a = b := eq_of_get hl fun i h1 h2 => hR i h1 h2 (by omega)
   simp [this]
  ·have h2 : a ≠ b := fun e => hl (by rw [e])
   simp [h2]; omega
theorem says_SameGroups (a b : List Gp) (ha : a.length ≤ 1000000) : ASays Tryz.prog 96 [eGps false a, eGps false b] (B (decide (a = b))) := by
 refine acall_of (nx := 0) (ne := 0) tysGood (DD_ok tysGood mixed _) Tryz.func96 (by rfl) (by rfl) (by simp [Tryz.ntmps96]) (fun p hp => by cases hp) ?_; rw [Tryz.ntmps96]; let tb := ord_96
 (have fa := zT; (repeat first | refine zG ?_ | ((with_reducible refine AW_seq ?_); intro K hK) | ((repeat (fail_if_success (refine hK _ ?_)); clear hK K); refine hK _ ?_; clear hK K)); (try clear fa))
 refine AW_cond rfl ⟨fun h => ?_, fun h => ?_⟩
 ·have hne : ¬ a.length = b.length := by simp at h; omega
  (have fa := zT; (repeat first | refine zG ?_ | ((with_reducible refine AW_seq ?_); intro K hK) | ((repeat (fail_if_success (refine hK _ ?_)); clear hK K); refine hK _ ?_; clear hK K)); (try clear fa))
  refine AW_ret ?_; refine ⟨.inr rfl, ?_, [], 2, finOk_nil, ?_⟩ <;> (have fa := zT; first | exact zE0 | (refine zE ?_; try clear fa))
  have : a ≠ b := fun e => hne (by rw [e])
  simp [this]
 ·have he : a.length = b.length := by simp at h; omega
  clear h
  (have fa := zT; (repeat first | refine zG ?_ | ((with_reducible refine AW_seq ?_); intro K hK) | ((repeat (fail_if_success (refine hK _ ?_)); clear hK K); refine hK _ ?_; clear hK K)); (try clear fa))
  refine AW_for a.length (fun k => ∀ i, (h1 : i < a.length) → (h2 : i < b.length) → i < k → a[i] = b[i]) (fun k => ⟨80, [(0, eGps false a), (1, eGps false b), (5, I k)], []⟩) [] 0 [0, 1, 5] 80 finOk_nil (fun i _ _ h => absurd h (Nat.not_lt_zero i)) (by (have fa := zT; exact zV)) ?_
  intro k hk hR J hJ
  (have fa := zT; (repeat first | refine zG ?_ | ((with_reducible refine AW_seq ?_); intro K hK) | ((repeat (fail_if_success (refine hK _ ?_)); clear hK K); refine hK _ ?_; clear hK K)); (try clear fa))
  refine AW_cond rfl ⟨fun h => ?_, fun h => ?_⟩
  ·have hlt : k < a.length := by simpa using h
   have hlt' : k < b.length := by omega
   clear h
   (have fa := (And.intro hlt (And.intro hlt' (And.intro @eGp.eq_1 (And.intro @bne.eq_1.{0} @gp_beq)))); (repeat first | refine zG ?_ | ((with_reducible refine AW_seq ?_); intro K hK) | ((repeat (fail_if_success (refine hK _ ?_)); clear hK K); refine hK _ ?_; clear hK K)); (try clear fa))
   refine AW_cond rfl ⟨fun h => ?_, fun h => ?_⟩
   ·have hne : a[k] ≠ b[k] := by simpa [gp_beq] using h
    (have fa := zT; (repeat first | refine zG ?_ | ((with_reducible refine AW_seq ?_); intro K hK) | ((repeat (fail_if_success (refine hK _ ?_)); clear hK K); refine hK _ ?_; clear hK K)); (try clear fa))
    refine AW_ret ?_; refine ⟨.inr rfl, ?_, [], 2, finOk_nil, ?_⟩ <;> (have fa := zT; first | exact zE0 | (refine zE ?_; try clear fa))
    have : a ≠ b := fun e => hne (by simp [e])
    simp [this]
   ·have he' : a[k] = b[k] := by simpa [gp_beq] using h
    clear h
    (have fa := (vwrap_succ (show k < 9223372036854775807 by omega)); (repeat first | refine zG ?_ | ((with_reducible refine AW_seq ?_); intro K hK) | ((repeat (fail_if_success (refine hK _ ?_)); clear hK K); refine hK _ ?_; clear hK K)); (try clear fa))
    refine hJ _ hlt (fun i h1 h2 h3 => ?_) (by (have fa := zT; exact zV))
    by_cases hi : i = k
    ·subst hi; exact he'
    ·exact hR i h1 h2 (by omega)
  ·have hk' : k = a.length := by have : ¬ k < a.length := by simpa using h
                                 omega
   subst hk'
   clear h
   (have fa := zT; (repeat first | refine zG ?_ | ((with_reducible refine AW_seq ?_); intro K hK) | ((repeat (fail_if_success (refine hK _ ?_)); clear hK K); refine hK _ ?_; clear hK K)); (try clear fa))
   refine AW_ret ?_; refine ⟨.inr rfl, ?_, [], 2, finOk_nil, ?_⟩ <;> (have fa := zT; first | exact zE0 | (refine zE ?_; try clear fa))
   have : a = b := eq_of_get he fun i h1 h2 => hR i h1 h2 h1
   simp [this]
theorem says_rSame (a b : Hd) (h1 : a.bag.length ≤ 1000000) (h2 : a.me.length ≤ 1000000) : ASays Tryz.prog 31 [eHd false a, eHd false b] (B (decide (a.bag = b.bag) && decide (a.me = b.me))) := by
 refine acall_of (nx := 0) (ne := 0) tysGood (DD_ok tysGood mixed _) Tryz.func31 (by rfl) (by rfl) (by simp [Tryz.ntmps31]) (fun p hp => by cases hp) ?_; rw [Tryz.ntmps31]; let tb := ord_31
 (have fa := zT; (repeat first | refine zG ?_ | ((with_reducible refine AW_seq ?_); intro K hK) | ((repeat (fail_if_success (refine hK _ ?_)); clear hK K); refine hK _ ?_; clear hK K)); (try clear fa))
 (have fa := zT; refine zW (says_SameInts a.bag b.bag h1) ?_; (try clear fa))
 by_cases hb : a.bag = b.bag
 ·have e : decide (a.bag = b.bag) = true := by simp [hb]
  (have fa := e; (repeat first | refine zG ?_ | ((with_reducible refine AW_seq ?_); intro K hK) | ((repeat (fail_if_success (refine hK _ ?_)); clear hK K); refine hK _ ?_; clear hK K)); (try clear fa))
  (have fa := zT; refine zW (says_SameGroups a.me b.me h2) ?_; (try clear fa))
  (have fa := e; (repeat first | refine zG ?_ | ((with_reducible refine AW_seq ?_); intro K hK) | ((repeat (fail_if_success (refine hK _ ?_)); clear hK K); refine hK _ ?_; clear hK K)); (try clear fa))
  refine AW_ret ?_; refine ⟨.inr rfl, ?_, [], 2, finOk_nil, ?_⟩ <;> (have fa := (And.intro e Bool.true_and); first | exact zE0 | (refine zE ?_; try clear fa))
 ·have e : decide (a.bag = b.bag) = false := by simp [hb]
  (have fa := e; (repeat first | refine zG ?_ | ((with_reducible refine AW_seq ?_); intro K hK) | ((repeat (fail_if_success (refine hK _ ?_)); clear hK K); refine hK _ ?_; clear hK K)); (try clear fa))
  refine AW_ret ?_; refine ⟨.inr rfl, ?_, [], 2, finOk_nil, ?_⟩ <;> (have fa := (And.intro e Bool.false_and); first | exact zE0 | (refine zE ?_; try clear fa))
theorem says_Same (a b : Hd) (h1 : a.bag.length ≤ 1000000) (h2 : a.me.length ≤ 1000000) : ASays Tryz.prog 58 [eHd false a, eHd false b] (B (decide (a.bag = b.bag) && decide (a.me = b.me))) := by
 refine acall_of (nx := 0) (ne := 0) tysGood (DD_ok tysGood mixed _) Tryz.func58 (by rfl) (by rfl) (by simp [Tryz.ntmps58]) (fun p hp => by cases hp) ?_; rw [Tryz.ntmps58]; let tb := ord_58
 (have fa := zT; (repeat first | refine zG ?_ | ((with_reducible refine AW_seq ?_); intro K hK) | ((repeat (fail_if_success (refine hK _ ?_)); clear hK K); refine hK _ ?_; clear hK K)); (try clear fa))
 (have fa := zT; refine zW (says_EqualI a.bag b.bag h1) ?_; (try clear fa))
 by_cases hb : a.bag = b.bag
 ·have e : decide (a.bag = b.bag) = true := by simp [hb]
  (have fa := e; (repeat first | refine zG ?_ | ((with_reducible refine AW_seq ?_); intro K hK) | ((repeat (fail_if_success (refine hK _ ?_)); clear hK K); refine hK _ ?_; clear hK K)); (try clear fa))
  (have fa := zT; refine zW (says_EqualG a.me b.me h2) ?_; (try clear fa))
  (have fa := e; (repeat first | refine zG ?_ | ((with_reducible refine AW_seq ?_); intro K hK) | ((repeat (fail_if_success (refine hK _ ?_)); clear hK K); refine hK _ ?_; clear hK K)); (try clear fa))
  refine AW_ret ?_; refine ⟨.inr rfl, ?_, [], 2, finOk_nil, ?_⟩ <;> (have fa := (And.intro e Bool.true_and); first | exact zE0 | (refine zE ?_; try clear fa))
 ·have e : decide (a.bag = b.bag) = false := by simp [hb]
  (have fa := e; (repeat first | refine zG ?_ | ((with_reducible refine AW_seq ?_); intro K hK) | ((repeat (fail_if_success (refine hK _ ?_)); clear hK K); refine hK _ ?_; clear hK K)); (try clear fa))
  refine AW_ret ?_; refine ⟨.inr rfl, ?_, [], 2, finOk_nil, ?_⟩ <;> (have fa := (And.intro e Bool.false_and); first | exact zE0 | (refine zE ?_; try clear fa))
def sumW (zs : List Int) : Int := IntKind.i64.wrap zs.sum
theorem sumW_take (zs : List Int) {k : Nat} (h : k < zs.length) : IntKind.i64.wrap (sumW (zs.take k) + zs[k]) = sumW (zs.take (k + 1)) := by
 unfold sumW; rw [List.take_succ_eq_append_getElem h, List.sum_append, vwrap_add_l]; simp
theorem sum_bound : ∀ {zs : List Int} {m : Int}, (∀ z ∈ zs, 0 ≤ z ∧ z ≤ m) → 0 ≤ zs.sum ∧ zs.sum ≤ zs.length * m
 | [], m, _ => by simp
 | z :: zs, m, h => by
  have h1 := h z (by simp)
  have := sum_bound (zs := zs) (m := m) fun y hy => h y (by simp [hy])
  rw [List.sum_cons, List.length_cons]
  have : ((zs.length + 1 : Nat) : Int) * m = zs.length * m + m := by rw [Int.natCast_add, Int.add_mul]; simp
  omega
theorem sumW_eq {zs : List Int} {m : Int} (h : ∀ z ∈ zs, 0 ≤ z ∧ z ≤ m) (hm : m ≤ 1000) (hl : zs.length ≤ 1000) : sumW zs = zs.sum := by
 have := sum_bound h
 have h0 : (zs.length : Int) * m ≤ 1000 * 1000 := by
  by_cases hz : 0 ≤ m
  ·exact Int.mul_le_mul (by omega) hm hz (by omega)
  ·have : (zs.length : Int) * m ≤ 0 := Int.mul_nonpos_of_nonneg_of_nonpos (by omega) (by omega)
   omega
 exact vwrap_in (by omega) (by omega)
theorem says_size (zs : List Int) (hz : zs.length ≤ 1000000) : ASays Tryz.prog 104 [eInts false zs] (I (sumW zs)) := by
 refine acall_of (nx := 0) (ne := 0) tysGood (DD_ok tysGood mixed _) Tryz.func104 (by rfl) (by rfl) (by simp [Tryz.ntmps104]) (fun p hp => by cases hp) ?_; rw [Tryz.ntmps104]; let tb := ord_104
 (have fa := zT; (repeat first | refine zG ?_ | ((with_reducible refine AW_seq ?_); intro K hK) | ((repeat (fail_if_success (refine hK _ ?_)); clear hK K); refine hK _ ?_; clear hK K)); (try clear fa))
 refine AW_for zs.length (fun _ => True) (fun k => ⟨80, [(3, I (sumW (zs.take k))), (6, eInts false zs), (7, I zs.length), (8, I k)], []⟩) [] 0 [3, 6, 7, 8] 80 finOk_nil trivial (by (have fa := zT; exact zV)) ?_
 intro k hk _ J hJ
 (have fa := zT; (repeat first | refine zG ?_ | ((with_reducible refine AW_seq ?_); intro K hK) | ((repeat (fail_if_success (refine hK _ ?_)); clear hK K); refine hK _ ?_; clear hK K)); (try clear fa))
 refine AW_cond rfl ⟨fun h => ?_, fun h => ?_⟩
 ·have hlt : k < zs.length := by simpa using h
  clear h
  (have fa := (And.intro hlt (And.intro (sumW_take zs hlt) (vwrap_succ (show k < 9223372036854775807 by omega)))); (repeat first | refine zG ?_ | ((with_reducible refine AW_seq ?_); intro K hK) | ((repeat (fail_if_success (refine hK _ ?_)); clear hK K); refine hK _ ?_; clear hK K)); (try clear fa))
  refine hJ _ hlt trivial (by (have fa := zT; exact zV))
 ·have hk : k = zs.length := by have : ¬ k < zs.length := by simpa using h
                                omega
  subst hk
  clear h
  (have fa := zT; (repeat first | refine zG ?_ | ((with_reducible refine AW_seq ?_); intro K hK) | ((repeat (fail_if_success (refine hK _ ?_)); clear hK K); refine hK _ ?_; clear hK K)); (try clear fa))
  refine AW_ret ?_; refine ⟨.inr rfl, ?_, [], 2, finOk_nil, ?_⟩ <;> (have fa := zT; first | exact zE0 | (refine zE ?_; try clear fa))
theorem says_rsum (zs : List Int) (hz : zs.length ≤ 1000000) : ASays Tryz.prog 120 [eInts false zs] (I (sumW zs)) := by
 refine acall_of (nx := 0) (ne := 0) tysGood (DD_ok tysGood mixed _) Tryz.func120 (by rfl) (by rfl) (by simp [Tryz.ntmps120]) (fun p hp => by cases hp) ?_; rw [Tryz.ntmps120]; let tb := ord_120
 (have fa := zT; (repeat first | refine zG ?_ | ((with_reducible refine AW_seq ?_); intro K hK) | ((repeat (fail_if_success (refine hK _ ?_)); clear hK K); refine hK _ ?_; clear hK K)); (try clear fa))
 refine AW_for zs.length (fun _ => True) (fun k => ⟨80, [(0, eInts false zs), (3, I (sumW (zs.take k))), (4, I k)], []⟩) [] 0 [0, 3, 4] 80 finOk_nil trivial (by (have fa := zT; exact zV)) ?_
 intro k hk _ J hJ
 (have fa := zT; (repeat first | refine zG ?_ | ((with_reducible refine AW_seq ?_); intro K hK) | ((repeat (fail_if_success (refine hK _ ?_)); clear hK K); refine hK _ ?_; clear hK K)); (try clear fa))
 refine AW_cond rfl ⟨fun h => ?_, fun h => ?_⟩
 ·have hlt : k < zs.length := by simpa using h
  clear h
  (have fa := (And.intro hlt (And.intro (sumW_take zs hlt) (vwrap_succ (show k < 9223372036854775807 by omega)))); (repeat first | refine zG ?_ | ((with_reducible refine AW_seq ?_); intro K hK) | ((repeat (fail_if_success (refine hK _ ?_)); clear hK K); refine hK _ ?_; clear hK K)); (try clear fa))
  refine hJ _ hlt trivial (by (have fa := zT; exact zV))
 ·have hk : k = zs.length := by have : ¬ k < zs.length := by simpa using h
                                omega
  subst hk
  clear h
  (have fa := zT; (repeat first | refine zG ?_ | ((with_reducible refine AW_seq ?_); intro K hK) | ((repeat (fail_if_success (refine hK _ ?_)); clear hK K); refine hK _ ?_; clear hK K)); (try clear fa))
  refine AW_ret ?_; refine ⟨.inr rfl, ?_, [], 2, finOk_nil, ?_⟩ <;> (have fa := zT; first | exact zE0 | (refine zE ?_; try clear fa))
end Go.Proofs.YthblfhgofopcaaaGreat
