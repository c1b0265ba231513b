/-
  Parts of the proof: FmL, KitS, Frame, Frame1, FrmS.
-/
import Derived.Test.YthblfhgofopcaaaGreatSP16
import Derived.Test.YthblfhgofopcaaaGreatSP43
import Derived.Test.YthblfhgofopcaaaGreatSP49
import Derived.Test.YthblfhgofopcaaaGreatRows
import Derived.Test.YthblfhgofopcaaaGreatSP01
import Derived.ProofKit
import Derived.OpenShut
import Derived.ShutString
import Derived.ChangeOld
import Derived.Below
import Derived.Lib.SmallJoins
import Derived.Deep.Slices
import Derived.Test.YthblfhgofopcaaaGreatSP17
import Derived.Test.YthblfhgofopcaaaGreatSP22
import Derived.Test.YthblfhgofopcaaaGreatSP09
set_option linter.all false
namespace Go.Proofs.YthblfhgofopcaaaGreat
open Go.RowKit
set_option maxRecDepth 100000
set_option maxHeartbeats 2000000
theorem formErr_melds {s : TSet} (hv : chkErr s = 0) : formErr s ⟨1, [], false⟩ = 0 := by
 unfold formErr
 rw [if_neg (by simp [hv]), if_neg (by simp), if_neg (by unfold wrongF; simp)]
 rfl
@[go_sem] theorem one_Fm (f : Bool) (l : List Fm) : (∀ u ∈ l.map (eFm f), ∀ v ∈ u.cs, v.one = true) = True := one_map (fun x v hv => by simp [eFm, AV.cs] at hv; rcases hv with rfl | rfl | rfl <;> rfl) l
theorem fm_ins (l : List Fm) (m : Nat) (hm : m ≤ l.length) (i : Nat) (e e' : AV) (h : ((l.take m).map (eFm false) ++ [.agg [.v (.int .i64 1), .v (.slice none 0 0), .v (.bool false)]] ++ (l.drop m).map (eFm false))[i]? = some e) (h' : ((l.take m ++ ⟨1, [], false⟩ :: l.drop m).map (eFm false))[i]? = some e') : LeL e.cs e'.cs := by
 have refl : ∀ l : List AV, LeL l l := fun l => by
  induction l with
  | nil => exact .nil
  | cons x l ih => exact .cons .rfl' ih
 rw [List.append_assoc] at h
 rw [List.map_append, List.map_cons] at h'
 by_cases hi : i < m
 ·rw [List.getElem?_append_left (by simp; omega)] at h h'
  rw [h] at h'; injection h' with h'; subst h'; exact refl _
 ·rw [List.getElem?_append_right (by simp; omega)] at h h'
  generalize i - ((l.take m).map (eFm false)).length = j at h h'
  cases j with
  | zero =>
   simp at h h'; subst h h'
   exact .cons .rfl' (.cons (LeV.nil _ _) (.cons .rfl' .nil))
  | succ j =>
   simp at h h'
   obtain ⟨a, h1, h2⟩ := h
   obtain ⟨b, h3, h4⟩ := h'
   rw [h1] at h3; injection h3 with h3; subst h3; rw [h2] at h4; subst h4; exact refl _
set_option maxHeartbeats 2000000 in
theorem v_FormsOf (x : Int) (s : TSet) (hv : chkErr s = 0) : AEx Tryz.prog 43 [.ref 0 0 0 0, eSet s] (srcH x) (fun a : List Fm × Int => eFms false a.1) (fun a => srcH a.2) (fun a => (∀ f ∈ a.1, formErr s f = 0 ∧ f.ks.length ≤ 1000) ∧ 1 ≤ a.1.length ∧ a.1.length ≤ 3) := by
 have CF := fun x' => v_formOf x' s hv
 have hsl := (valid_of hv).su3
 unfold AEx srcH
 refine acall_le ?_
 have b1 := belX_rg (x := x) (n := 3) (by omega) (by omega)
 refine acall_ofW (nx := 64) (ne := 1) tysGood (DD_ok tysGood mixed _) Tryz.func43 (by rfl) (by rfl) (by simp [Tryz.ntmps43]) (by simp) ?_; rw [Tryz.ntmps43]; let tb := ord_43; let lv := live_43
 (have fa := @srcH.eq_1; (repeat' first | refine zJ (tg [0]) (v_Below _ 3 (by omega)) ?_ | refine zQ ?_ | (refine zN ?_; intro K hC hK) | ((repeat clear hJo hJU hJC Jo JU JC); (repeat (fail_if_success (refine hK _ ?_)); clear hK hC K); refine hK _ ?_; clear hK hC K) | (refine zC ?_ ?_ <;> intro hb) | (refine zK ?_; intro Jo JU JC hJo hJU hJC)) <;> (try clear fa))
 generalize belX x 3 = i0 at *
 refine AW_loopGV (wk_virtT 5 500 0 3 (by rfl) (by rfl)) (α := Int × List Fm × Nat × Int) (fun a => [(0, .ref 0 0 0 0), (3, .ref 2 0 0 0), (5, .rsl 1 a.2.2.1 0 a.2.1.length), (6, I a.1)]) (fun a => [(0, .arr 0 1 [U a.2.2.2]), (1, .arr a.2.2.1 3 (a.2.1.map (eFm false))), (2, .arr 0 9 [eSet s])])
  (fun a => a.1.toNat) (fun a => (0 ≤ a.1 ∧ a.1 ≤ 2) ∧ a.2.1.length + a.1 ≤ 2 ∧ ∀ f ∈ a.2.1, formErr s f = 0 ∧ f.ks.length ≤ 1000) [(0, 0), (500, 1), (64, 2)] [(0, 0), (1, 1), (2, 2)] 0 [0, 3, 5, 6] 900 (⟨by decide, by decide, by decide⟩) (⟨by decide, by decide, by decide⟩) (i0, [], 0, nextX x) ⟨by dsimp only; omega, by simp; omega, fun f hf => by cases hf⟩ (by (have fa := (And.intro @virtT.eq_1 (And.intro @upd.eq_1 @upd.eq_2)); exact zSF)) ?_
 rintro ⟨i, l, g, x'⟩ ⟨k1, k2, k3⟩ J hcJ hJ
 dsimp only at k1 k2 k3 hJ ⊢
 by_cases hi : 0 < i
 ·(have fa := zT; (repeat' first | refine zQ ?_ | (refine zN ?_; intro K hC hK) | ((repeat clear hJo hJU hJC Jo JU JC); (repeat (fail_if_success (refine hK _ ?_)); clear hK hC K); refine hK _ ?_; clear hK hC K) | (refine zC ?_ ?_ <;> intro hb) | (refine zK ?_; intro Jo JU JC hJo hJU hJC)) <;> (try clear fa))
  (have fa := @srcH.eq_1; refine zX (tg [0]) (CF _) ?_; clear hJo hJU hJC Jo JU JC; (try clear fa)); intro xr hxr
  have CC := says_rCheckForm s xr.1 (by omega) (by omega)
  by_cases he : formErr s xr.1 = 0
  ·(have fa := zT; (repeat' first | refine zS (CC) ?_ | refine zQ ?_ | (refine zN ?_; intro K hC hK) | ((repeat clear hJo hJU hJC Jo JU JC); (repeat (fail_if_success (refine hK _ ?_)); clear hK hC K); refine hK _ ?_; clear hK hC K) | (refine zC ?_ ?_ <;> intro hb) | (refine zK ?_; intro Jo JU JC hJo hJU hJC)) <;> (try clear fa))
   refine hJ _ (i - 1, l ++ [xr.1], g + 1, xr.2) (by dsimp only; omega) ⟨by dsimp only; omega, by simp; omega, fun f hf => ?_⟩ (by (have fa := @List.length_append.{0}; exact zSF))
   rcases List.mem_append.1 hf with hf | hf
   ·exact k3 f hf
   ·simp at hf; subst hf; exact ⟨he, hxr⟩
  ·(have fa := zT; (repeat' first | refine zS (CC) ?_ | refine zQ ?_ | (refine zN ?_; intro K hC hK) | ((repeat clear hJo hJU hJC Jo JU JC); (repeat (fail_if_success (refine hK _ ?_)); clear hK hC K); refine hK _ ?_; clear hK hC K) | (refine zC ?_ ?_ <;> intro hb) | (refine zK ?_; intro Jo JU JC hJo hJU hJC)) <;> (try clear fa))
   refine hJ _ (i - 1, l, g, xr.2) (by dsimp only; omega) ⟨by dsimp only; omega, by dsimp only; omega, k3⟩ (by (have fa := zT; exact zSF))
 ·by_cases h0 : l = []
  ·subst h0
   have b5 := belX_rg (x := x') (n := 1) (by omega) (by omega)
   have hm : belX x' 1 = ((0 : Nat) : Int) := by omega
   (have fa := (And.intro @srcH.eq_1 hm); (repeat' first | refine zJ (tg [0]) (v_Below x' 1 (by omega)) ?_ | refine zQ ?_ | (refine zN ?_; intro K hC hK) | ((repeat clear hJo hJU hJC Jo JU JC); (repeat (fail_if_success (refine hK _ ?_)); clear hK hC K); refine hK _ ?_; clear hK hC K) | (refine zC ?_ ?_ <;> intro hb) | (refine zK ?_; intro Jo JU JC hJo hJU hJC)) <;> (try clear fa))
   refine AW_ret ?_
   refine ⟨_, wk_obL (r := 1108) (es' := [eFm false ⟨1, [], false⟩]) (by rfl) (by rfl) (fm_ins [] 0 (Nat.le_refl _)), .inr rfl, ?_, [(0, 0)], 2, ⟨by decide, by decide, by decide⟩, ?_⟩ <;> (have fa := zT; first | exact zE0 | (refine zE ?_; try clear fa))
   refine ⟨_, LeV.sl _ _ _, ([⟨1, [], false⟩], _), ⟨fun f hf => ?_, by simp, by simp⟩, rfl, rfl⟩
   simp at hf; subst hf; exact ⟨formErr_melds hv, by simp⟩
  ·have hpos : 0 < l.length := List.length_pos_iff.2 h0
   have b4 := belX_rg (x := x') (n := 4) (by omega) (by omega)
   by_cases h4 : 0 < belX x' 4
   ·have CB := v_Below (nextX x') (l.length + 1) (by omega)
    have b5 := belX_rg (x := nextX x') (n := l.length + 1) (by omega) (by omega)
    obtain ⟨m, hm⟩ : ∃ m : Nat, belX (nextX x') (l.length + 1) = (m : Int) := ⟨(belX (nextX x') (l.length + 1)).toNat, by omega⟩
    have hml : m ≤ l.length := by omega
    have e13 : (((m : Nat) : Int) - 0).toNat = m := by omega
    have e14 : min m l.length = m := by omega
    have e16 : List.take m (List.take m l) = l.take m := by rw [List.take_take, Nat.min_self]
    have e18 : List.take (l.length - m) (List.drop m l) = l.drop m := List.take_of_length_le (by simp)
    have e19 : List.take (m + 1) ((l.take m).map (eFm false) ++ [AV.agg [.v (.int .i64 1), .v (.slice none 0 0), .v (.bool false)]]) = (l.take m).map (eFm false) ++ [AV.agg [.v (.int .i64 1), .v (.slice none 0 0), .v (.bool false)]] := List.take_of_length_le (by simp; omega)
    (have fa := (And.intro @srcH.eq_1 (And.intro hm (And.intro e13 (And.intro e14 (And.intro e16 (And.intro e18 (And.intro e19 Nat.min_self))))))); (repeat' first | refine zJ (tg [0]) (v_Below x' 4 (by omega)) ?_ | refine zJ (tg [0]) (CB) ?_ | refine zQ ?_ | (refine zN ?_; intro K hC hK) | ((repeat clear hJo hJU hJC Jo JU JC); (repeat (fail_if_success (refine hK _ ?_)); clear hK hC K); refine hK _ ?_; clear hK hC K) | (refine zC ?_ ?_ <;> intro hb) | (refine zK ?_; intro Jo JU JC hJo hJU hJC)) <;> (try clear fa))
    have hlen : (l.take m ++ (⟨1, [], false⟩ : Fm) :: l.drop m).length = m + 1 + (l.length - m) := by simp; omega
    have hal : ∀ f ∈ l.take m ++ (⟨1, [], false⟩ : Fm) :: l.drop m, formErr s f = 0 ∧ f.ks.length ≤ 1000 := fun f hf => by
     rcases List.mem_append.1 hf with hf | hf
     ·exact k3 f (List.mem_of_mem_take hf)
     ·rcases List.mem_cons.1 hf with rfl | hf
      ·exact ⟨formErr_melds hv, by simp⟩
      ·exact k3 f (List.mem_of_mem_drop hf)
    have fi := fm_ins l m hml
    obtain ⟨L, hL⟩ : ∃ L, l.take m ++ (⟨1, [], false⟩ : Fm) :: l.drop m = L := ⟨_, rfl⟩
    rw [hL] at hlen hal fi
    have hT : L.take (m + 1 + (l.length - m)) = L := List.take_of_length_le (by omega)
    have hT2 : m + 1 + (l.length - m) ≤ L.length := by omega
    refine AW_ret ?_
    refine ⟨_, wk_obL (r := 1156) (es' := L.map (eFm false)) (by rfl) (by simp; omega) fi, .inr rfl, ?_, [(0, 0)], 2, ⟨by decide, by decide, by decide⟩, ?_⟩ <;> (have fa := (And.intro hT hT2); first | exact zE0 | (refine zE ?_; try clear fa))
    exact ⟨_, LeV.sl _ _ _, (L, _), ⟨hal, by dsimp only; omega, by dsimp only; omega⟩, rfl, rfl⟩
   ·have hT : l.take l.length = l := List.take_length
    (have fa := @srcH.eq_1; (repeat' first | refine zJ (tg [0]) (v_Below x' 4 (by omega)) ?_ | refine zQ ?_ | (refine zN ?_; intro K hC hK) | ((repeat clear hJo hJU hJC Jo JU JC); (repeat (fail_if_success (refine hK _ ?_)); clear hK hC K); refine hK _ ?_; clear hK hC K) | (refine zC ?_ ?_ <;> intro hb) | (refine zK ?_; intro Jo JU JC hJo hJU hJC)) <;> (try clear fa))
    refine AW_ret ?_; refine zU ?_; refine ⟨_, .rfl', .inr rfl, ?_, [(0, 0)], 2, ⟨by decide, by decide, by decide⟩, ?_⟩ <;> (have fa := zT; first | exact zE0 | (refine zE ?_; try clear fa))
    exact ⟨_, LeV.sl _ _ _, (l, _), ⟨k3, hpos, by dsimp only; omega⟩, rfl, rfl⟩
end Go.Proofs.YthblfhgofopcaaaGreat

namespace Go.Proofs.YthblfhgofopcaaaGreat
open Go.RowKit
set_option maxRecDepth 100000
set_option maxHeartbeats 2000000
theorem v_NewSourceL (zs : List Int) (hz : zs.length ≤ 9223372036854775807) : ACall Tryz.prog 44 [eInts false zs] [] (fun v hl => ∃ x, v = .ref 0 0 0 0 ∧ hl = srcH x) := by
 refine acall_ofW (nx := 0) (ne := 0) tysGood (DD_ok tysGood mixed _) Tryz.func44 (by rfl) (by rfl) (by simp [Tryz.ntmps44]) (fun p hp => by cases hp) ?_; rw [Tryz.ntmps44]; let tb := ord_44; let lv := live_44
 (have fa := zT; (repeat' first | refine zQ ?_ | (refine zN ?_; intro K hC hK) | ((repeat clear hJo hJU hJC Jo JU JC); (repeat (fail_if_success (refine hK _ ?_)); clear hK hC K); refine hK _ ?_; clear hK hC K) | (refine zC ?_ ?_ <;> intro hb) | (refine zK ?_; intro Jo JU JC hJo hJU hJC)) <;> (try clear fa))
 refine AW_loopGV (wk_cs (r := 32) (es' := [U 2685821657736338717]) (by rfl) (by rfl)) (α := Nat × Int) (fun x => [(0, eInts false zs), (3, .ref 0 0 0 0), (4, I x.1)]) (fun x => [(0, .arr 0 1 [U x.2])]) (fun x => zs.length - x.1) (fun x => x.1 ≤ zs.length) [(32, 0)] [(0, 0)] 0 [0, 3, 4] 900 (finOk0 (by decide) (by decide)) (finOk0 (by decide) (by decide)) (0, 2685821657736338717) (Nat.zero_le _) (by (have fa := zT; exact zSF)) ?_
 rintro ⟨k, x⟩ hk J hcJ hJ
 dsimp only at hk hJ ⊢
 by_cases h : k < zs.length
 ·(have fa := zT; (repeat' first | refine zQ ?_ | (refine zN ?_; intro K hC hK) | ((repeat clear hJo hJU hJC Jo JU JC); (repeat (fail_if_success (refine hK _ ?_)); clear hK hC K); refine hK _ ?_; clear hK hC K) | (refine zC ?_ ?_ <;> intro hb) | (refine zK ?_; intro Jo JU JC hJo hJU hJC)) <;> (try clear fa))
  refine hJ _ (k + 1, _) (by dsimp only; omega) (by dsimp only; omega) (by (have fa := zT; exact zSF))
 ·(have fa := zT; (repeat' first | refine zQ ?_ | (refine zN ?_; intro K hC hK) | ((repeat clear hJo hJU hJC Jo JU JC); (repeat (fail_if_success (refine hK _ ?_)); clear hK hC K); refine hK _ ?_; clear hK hC K) | (refine zC ?_ ?_ <;> intro hb) | (refine zK ?_; intro Jo JU JC hJo hJU hJC)) <;> (try clear fa))
  refine AW_ret ?_; refine zU ?_; refine ⟨_, .rfl', .inr rfl, ?_, [(0, 0)], 2, finOk0 (by decide) (by decide), ?_⟩ <;> (have fa := zT; first | exact zE0 | (refine zE ?_; try clear fa))
  exact ⟨x, rfl⟩
structure SR where
 x : Int
 s : TSet
 fs : List Fm
 ms : List Gp
 X : List Int
 g : Nat
structure SRok (a : SR) : Prop where
 made : MadeS a.s
 fo : ∀ f ∈ a.fs, formErr a.s f = 0 ∧ f.ks.length ≤ 1000
 f1 : 1 ≤ a.fs.length
 f3 : a.fs.length ≤ 3
 xl : (a.X.length : Int) = plainI a.s
 full : fullB a.s ⟨a.X, a.ms⟩ = true
set_option maxHeartbeats 8000000 in
theorem v_Shape (zs : List Int) (hz : zs.length ≤ 9223372036854775807) : AEx Tryz.prog 25 [eInts false zs] [] (fun a : SR => .tup [.ref 0 0 0 0, eSet a.s, eFms false a.fs, .agg [.rsl 1 a.g 0 a.X.length, eGps false a.ms]]) (fun a => [(0, .arr 0 1 [U a.x]), (1, .arr a.g 1 (a.X.map I))]) SRok := by
 have CN : AEx Tryz.prog 44 [eInts false zs] [] (fun _ : Int => .ref 0 0 0 0) (fun x => srcH x) (fun _ => True) := acall_mono (v_NewSourceL zs hz) fun v hl => by
  rintro ⟨x, rfl, rfl⟩
  exact ⟨x, trivial, rfl, rfl⟩
 unfold AEx
 refine acall_le ?_
 refine acall_ofW (nx := 0) (ne := 0) tysGood (DD_ok tysGood mixed _) Tryz.func25 (by rfl) (by rfl) (by simp [Tryz.ntmps25]) (fun p hp => by cases hp) ?_; rw [Tryz.ntmps25]; let tb := ord_25; let lv := live_25
 (have fa := zT; (repeat' first | refine zQ ?_ | (refine zN ?_; intro K hC hK) | ((repeat clear hJo hJU hJC Jo JU JC); (repeat (fail_if_success (refine hK _ ?_)); clear hK hC K); refine hK _ ?_; clear hK hC K) | (refine zC ?_ ?_ <;> intro hb) | (refine zK ?_; intro Jo JU JC hJo hJU hJC)) <;> (try clear fa))
 (have fa := @srcH.eq_1; refine zX (tg []) (CN) ?_; clear hJo hJU hJC Jo JU JC; (try clear fa)); intro xr hxr
 (have fa := zT; (repeat' first | refine zQ ?_ | (refine zN ?_; intro K hC hK) | ((repeat clear hJo hJU hJC Jo JU JC); (repeat (fail_if_success (refine hK _ ?_)); clear hK hC K); refine hK _ ?_; clear hK hC K) | (refine zC ?_ ?_ <;> intro hb) | (refine zK ?_; intro Jo JU JC hJo hJU hJC)) <;> (try clear fa))
 (have fa := @srcH.eq_1; refine zX (tg [80]) (v_SetOf xr) ?_; clear hJo hJU hJC Jo JU JC; (try clear fa)); intro xr hxr
 obtain ⟨s, x1⟩ := xr
 dsimp only at hxr ⊢
 have hM := hxr
 clear hxr
 have b5 := belX_rg (x := x1) (n := 5) (by omega) (by omega)
 by_cases h5 : belX x1 5 = 0
 ·have b3 := belX_rg (x := nextX x1) (n := 3) (by omega) (by omega)
  have CL := v_Little (nextX (nextX x1)) (1 + belX (nextX x1) 3) (by omega)
  (have fa := @srcH.eq_1; (repeat' first | refine zJ (tg [80]) (v_Odds x1 5 (by omega)) ?_ | refine zJ (tg [80]) (v_Range (nextX x1) 1 3 (by omega) (by omega) (by omega)) ?_ | refine zQ ?_ | (refine zN ?_; intro K hC hK) | ((repeat clear hJo hJU hJC Jo JU JC); (repeat (fail_if_success (refine hK _ ?_)); clear hK hC K); refine hK _ ?_; clear hK hC K) | (refine zC ?_ ?_ <;> intro hb) | (refine zK ?_; intro Jo JU JC hJo hJU hJC)) <;> (try clear fa))
  (have fa := @srcH.eq_1; refine zX (tg [80]) (CL) ?_; clear hJo hJU hJC Jo JU JC; (try clear fa)); intro xr hxr
  obtain ⟨s2, x2⟩ := xr
  dsimp only at hxr ⊢
  have hM2 : MadeS s2 := ⟨hxr.2, hxr.1.fl.2⟩
  clear hxr
  (have fa := zT; (repeat' first | refine zQ ?_ | (refine zN ?_; intro K hC hK) | ((repeat clear hJo hJU hJC Jo JU JC); (repeat (fail_if_success (refine hK _ ?_)); clear hK hC K); refine hK _ ?_; clear hK hC K) | (refine zC ?_ ?_ <;> intro hb) | (refine zK ?_; intro Jo JU JC hJo hJU hJC)) <;> (try clear fa))
  (have fa := @srcH.eq_1; refine zX (tg [80]) (v_FormsOf x2 s2 hM2.ok) ?_; clear hJo hJU hJC Jo JU JC; (try clear fa)); intro xr hxr
  obtain ⟨fs, x3⟩ := xr
  obtain ⟨q1, q2, q3⟩ := hxr
  dsimp only at q1 q2 q3 ⊢
  (have fa := @stepDE_cL; (repeat' first | refine zQ ?_ | (refine zN ?_; intro K hC hK) | ((repeat clear hJo hJU hJC Jo JU JC); (repeat (fail_if_success (refine hK _ ?_)); clear hK hC K); refine hK _ ?_; clear hK hC K) | (refine zC ?_ ?_ <;> intro hb) | (refine zK ?_; intro Jo JU JC hJo hJU hJC)) <;> (try clear fa))
  (have fa := @srcH.eq_1; refine zXD (tg [80]) (v_HandOf x3 s2 hM2 fs q1 q2 q3) ?_; clear hJo hJU hJC Jo JU JC; (try clear fa)); intro xr hxr
  (have fa := zT; (repeat' first | refine zQ ?_ | (refine zN ?_; intro K hC hK) | ((repeat clear hJo hJU hJC Jo JU JC); (repeat (fail_if_success (refine hK _ ?_)); clear hK hC K); refine hK _ ?_; clear hK hC K) | (refine zC ?_ ?_ <;> intro hb) | (refine zK ?_; intro Jo JU JC hJo hJU hJC)) <;> (try clear fa))
  have hxl := hxr.xl
  have hpl := (plain_kinds (s := s2) hM2.ok).2.2.1
  refine AW_ret ?_; refine zU ?_; refine ⟨_, .rfl', .inr rfl, ?_, [(80, 0), (449, 1)], 2, ⟨by decide, by decide, by decide⟩, ?_⟩ <;> (have fa := zT; first | exact zE0 | (refine zE ?_; try clear fa))
  refine ⟨_, .rfl', ⟨xr.x, s2, fs, xr.ms, xr.X, xr.g⟩, ⟨hM2, q1, q2, q3, by dsimp only; omega, hxr.full⟩, ?_, rfl⟩
  rw [hxl]
 ·(have fa := @srcH.eq_1; (repeat' first | refine zJ (tg [80]) (v_Odds x1 5 (by omega)) ?_ | refine zQ ?_ | (refine zN ?_; intro K hC hK) | ((repeat clear hJo hJU hJC Jo JU JC); (repeat (fail_if_success (refine hK _ ?_)); clear hK hC K); refine hK _ ?_; clear hK hC K) | (refine zC ?_ ?_ <;> intro hb) | (refine zK ?_; intro Jo JU JC hJo hJU hJC)) <;> (try clear fa))
  (have fa := @srcH.eq_1; refine zX (tg [80]) (v_FormsOf (nextX x1) s hM.ok) ?_; clear hJo hJU hJC Jo JU JC; (try clear fa)); intro xr hxr
  obtain ⟨fs, x3⟩ := xr
  obtain ⟨q1, q2, q3⟩ := hxr
  dsimp only at q1 q2 q3 ⊢
  (have fa := @stepDE_cL; (repeat' first | refine zQ ?_ | (refine zN ?_; intro K hC hK) | ((repeat clear hJo hJU hJC Jo JU JC); (repeat (fail_if_success (refine hK _ ?_)); clear hK hC K); refine hK _ ?_; clear hK hC K) | (refine zC ?_ ?_ <;> intro hb) | (refine zK ?_; intro Jo JU JC hJo hJU hJC)) <;> (try clear fa))
  (have fa := @srcH.eq_1; refine zXD (tg [80]) (v_HandOf x3 s hM fs q1 q2 q3) ?_; clear hJo hJU hJC Jo JU JC; (try clear fa)); intro xr hxr
  (have fa := zT; (repeat' first | refine zQ ?_ | (refine zN ?_; intro K hC hK) | ((repeat clear hJo hJU hJC Jo JU JC); (repeat (fail_if_success (refine hK _ ?_)); clear hK hC K); refine hK _ ?_; clear hK hC K) | (refine zC ?_ ?_ <;> intro hb) | (refine zK ?_; intro Jo JU JC hJo hJU hJC)) <;> (try clear fa))
  have hxl := hxr.xl
  have hpl := (plain_kinds (s := s) hM.ok).2.2.1
  refine AW_ret ?_; refine zU ?_; refine ⟨_, .rfl', .inr rfl, ?_, [(80, 0), (369, 1)], 2, ⟨by decide, by decide, by decide⟩, ?_⟩ <;> (have fa := zT; first | exact zE0 | (refine zE ?_; try clear fa))
  refine ⟨_, .rfl', ⟨xr.x, s, fs, xr.ms, xr.X, xr.g⟩, ⟨hM, q1, q2, q3, by dsimp only; omega, hxr.full⟩, ?_, rfl⟩
  rw [hxl]
end Go.Proofs.YthblfhgofopcaaaGreat

namespace Go.Proofs.YthblfhgofopcaaaGreat
open Go.RowKit Go.ChangeShapes Go.WideShapes Go.ChangeAt
theorem ownKnobs : ownKnob Tryz.prog.godebug = none := by kernel_rfl
theorem laidOuts : laidOutB Tryz.prog = true := by kernel_rfl
theorem cellsInt : Tryz.prog.cellsOf 3 = 1 := by kernel_rfl
theorem isInts_of_row {w : World} {x : Addr} {l c : Nat} {zs : List Int} (hl : l ≤ c) (hm : c ≤ maxLen) (hz : zs.length = c) (hcell : ∀ i, i < zs.length → w.cell? (x.add i) = some (.int .i64 (zs.getD i 0))) :
  IsInts w (.slice (some x) l c) (zs.take l) := by
 refine ⟨some x, c, by rw [List.length_take, Nat.min_eq_left (by omega)], by rw [List.length_take]; omega, hm, fun i u hu => ?_⟩
 have hi := (List.getElem?_eq_some_iff.1 hu).1
 simp only [ints, List.length_map, List.length_take] at hi
 have hc := hcell i (by omega)
 refine ⟨x, rfl, ?_, ?_⟩
 ·have := World.block_lt_of_cell? w _ hc
  rwa [block_add] at this
 ·rw [hc, ← hu]
  have h2 : i < zs.length := by omega
  simp [List.getD, h2, show i < l by omega]
section
variable {H : Type} {enc : TypeId × Value → H} {W : World} {spare : Nat → Bool} {held : Bool}
theorem isInts_of_trod {t : TypeId} {fuel : Nat} {v : Value} {x : DataW H × List MemPlace} (ht : Tryz.prog.underlying t = some (.slice 3)) (h : DataW.trod enc Tryz.prog W 0 spare held fuel t [v] = some x) (hs : spare = fun _ => true) :
  ∃ zs, IsInts W v zs ∧ ∀ z ∈ zs, (Lit.int .i64 z).wf = true := by
 subst hs
 rcases open_ints ht Tryz.underlying3 cellsInt h with ⟨hcs, _⟩ | ⟨a, l, c, zs, hcs, _, hl, hm, hz, _, hcell, hwz⟩
 ·simp at hcs
  subst hcs
  exact ⟨[], IsInts.nil, by simp⟩
 ·simp at hcs
  subst hcs
  exact ⟨zs.take l, isInts_of_row hl hm (by simpa using hz) hcell, fun z hz => hwz z (List.mem_of_mem_take hz)⟩
end
end Go.Proofs.YthblfhgofopcaaaGreat

namespace Go.Proofs.YthblfhgofopcaaaGreat
open Go.Joins Go.ChangeShapes Go.WideShapes Go.RowKit Go.Deep
section
variable {H : Type} {enc : TypeId × Value → H} {P : Program} {w : World} {base : Nat} {spare : Nat → Bool} {held : Bool}
theorem open_agg9 {r : Reach} {b0 : Nat} {t : TypeId} {f0 f1 f2 f3 f4 f5 f6 f7 f8 : Field} {v : Value} {d : DataW H} {p : List MemPlace} (hs : P.underlying t = some (.struct #[f0, f1, f2, f3, f4, f5, f6, f7, f8])) (hone : oneCellFields P #[f0, f1, f2, f3, f4, f5, f6, f7, f8] = true) (hC : P.cellsOf t = 9)
  (hv : Value.okWide P w r b0 t v) (h : DataW.Trod enc P w base spare held t v d p) :
  ∃ (v0 v1 v2 v3 v4 v5 v6 v7 v8 : Value) (y0 y1 y2 y3 y4 y5 y6 y7 y8 : DataW H × List MemPlace) (n : Nat), v = .agg #[v0, v1, v2, v3, v4, v5, v6, v7, v8] ∧
   DataW.trod enc P w base spare held n f0.type [v0] = some y0 ∧ DataW.trod enc P w base spare held n f1.type [v1] = some y1 ∧ DataW.trod enc P w base spare held n f2.type [v2] = some y2 ∧ DataW.trod enc P w base spare held n f3.type [v3] = some y3 ∧ DataW.trod enc P w base spare held n f4.type [v4] = some y4 ∧ DataW.trod enc P w base spare held n f5.type [v5] = some y5 ∧ DataW.trod enc P w base spare held n f6.type [v6] = some y6 ∧ DataW.trod enc P w base spare held n f7.type [v7] = some y7 ∧ DataW.trod enc P w base spare held n f8.type [v8] = some y8 := by
 obtain ⟨cs, rfl, hsz⟩ := okWide_struct hs hv
 obtain ⟨l⟩ := cs
 match l, hsz.trans hC with
 | [c0, c1, c2, c3, c4, c5, c6, c7, c8], _ =>
  obtain ⟨fuel, hf⟩ := h
  obtain ⟨xs, n, _, hx, _, hlen, hg⟩ := DataW.trod_struct hs hf
  obtain ⟨o0, k0⟩ := hone_of hone 0 f0 rfl
  obtain ⟨o1, k1⟩ := hone_of hone 1 f1 rfl
  obtain ⟨o2, k2⟩ := hone_of hone 2 f2 rfl
  obtain ⟨o3, k3⟩ := hone_of hone 3 f3 rfl
  obtain ⟨o4, k4⟩ := hone_of hone 4 f4 rfl
  obtain ⟨o5, k5⟩ := hone_of hone 5 f5 rfl
  obtain ⟨o6, k6⟩ := hone_of hone 6 f6 rfl
  obtain ⟨o7, k7⟩ := hone_of hone 7 f7 rfl
  obtain ⟨o8, k8⟩ := hone_of hone 8 f8 rfl
  match xs, hlen with
  | [y0, y1, y2, y3, y4, y5, y6, y7, y8], _ =>
   exact ⟨c0, c1, c2, c3, c4, c5, c6, c7, c8, y0, y1, y2, y3, y4, y5, y6, y7, y8, n, rfl, by simpa [Value.cells, o0, k0] using hg 0 f0 rfl, by simpa [Value.cells, o1, k1] using hg 1 f1 rfl, by simpa [Value.cells, o2, k2] using hg 2 f2 rfl, by simpa [Value.cells, o3, k3] using hg 3 f3 rfl, by simpa [Value.cells, o4, k4] using hg 4 f4 rfl, by simpa [Value.cells, o5, k5] using hg 5 f5 rfl, by simpa [Value.cells, o6, k6] using hg 6 f6 rfl, by simpa [Value.cells, o7, k7] using hg 7 f7 rfl, by simpa [Value.cells, o8, k8] using hg 8 f8 rfl⟩
end
def SetIn (s : TSet) : Prop := (∀ z ∈ s.su, (Lit.int .i64 z).wf = true) ∧ (∀ z ∈ s.re, (Lit.int .i64 z).wf = true)
section
variable {H : Type} {enc : TypeId × Value → H} {W : World} {spare : Nat → Bool} {held : Bool}
set_option maxRecDepth 100000 in
theorem isSet_of_trod {r : Reach} {b0 : Nat} {v : Value} {d : DataW H} {p : List MemPlace} (hv : Value.okWide Tryz.prog W r b0 24 v) (h : DataW.Trod enc Tryz.prog W 0 spare held 24 v d p) (hs : spare = fun _ => true) :
  ∃ s : TSet, IsSet W v s ∧ SetIn s := by
 obtain ⟨v0, v1, v2, v3, v4, v5, v6, v7, v8, y0, y1, y2, y3, y4, y5, y6, y7, y8, n, rfl, h0, h1, h2, h3, h4, h5, h6, h7, h8⟩ := open_agg9 Tryz.underlying24 (by kernel_rfl) (by kernel_rfl) hv h
 obtain ⟨zs, i1, w1⟩ := isInts_of_trod Tryz.underlying22 h1 hs
 obtain ⟨ks, i8, w8⟩ := isInts_of_trod Tryz.underlying22 h8 hs
 obtain ⟨z0, e0, _, _⟩ := DataW.trod_int Tryz.underlying3 h0
 obtain rfl : v0 = .int .i64 z0 := by simpa using e0
 obtain ⟨z2, e2, _, _⟩ := DataW.trod_int Tryz.underlying3 h2
 obtain rfl : v2 = .int .i64 z2 := by simpa using e2
 obtain ⟨z3, e3, _, _⟩ := DataW.trod_int Tryz.underlying3 h3
 obtain rfl : v3 = .int .i64 z3 := by simpa using e3
 obtain ⟨z4, e4, _, _⟩ := DataW.trod_int Tryz.underlying3 h4
 obtain rfl : v4 = .int .i64 z4 := by simpa using e4
 obtain ⟨z5, e5, _, _⟩ := DataW.trod_int Tryz.underlying3 h5
 obtain rfl : v5 = .int .i64 z5 := by simpa using e5
 obtain ⟨z6, e6, _, _⟩ := DataW.trod_int Tryz.underlying3 h6
 obtain rfl : v6 = .int .i64 z6 := by simpa using e6
 obtain ⟨z7, e7, _, _⟩ := DataW.trod_int Tryz.underlying3 h7
 obtain rfl : v7 = .int .i64 z7 := by simpa using e7
 exact ⟨⟨z0, zs, z2, z3, z4, z5, z6, z7, ks⟩, ⟨v1, v8, rfl, i1, i8⟩, w1, w8⟩
end
end Go.Proofs.YthblfhgofopcaaaGreat

namespace Go.Proofs.YthblfhgofopcaaaGreat
open Go.Joins Go.ChangeShapes Go.WideShapes Go.RowKit Go.Deep
set_option maxRecDepth 100000
def cx0 (W : World) : Cx := ⟨W, fun _ => 0, fun _ => false, fun _ => False, fun _ => True, W.heap.size⟩
theorem relh0 (W : World) : RelH (cx0 W) (lk [] .nil) := ⟨(fun r g sz es h => by cases h), (fun r g sz es h => by cases h), (fun r r' g g' sz sz' es es' h => by cases h)⟩
theorem stab0 (W : World) {b : Nat} (hb : b < W.heap.size) : Stab (cx0 W) (lk [] .nil) false b := ⟨hb, (by rintro ⟨r, g, sz, es, h, _⟩; cases h), .inr (.inr ⟨rfl, trivial⟩)⟩
theorem spot_none {W : World} {a : Addr} {u : Value} (h : W.cell? a = some u) : a = ⟨a.block, a.off, none⟩ := by
 obtain ⟨b, o, sp⟩ := a
 cases sp with
 | none => rfl
 | some k =>
  unfold World.cell? at h
  split at h <;> simp at h
theorem rel_of_ints {W : World} {v : Value} {zs : List Int} (h : IsInts W v zs) : RelV (cx0 W) (lk [] .nil) (eInts false zs) v := by
 obtain ⟨A, c, rfl, h1, h2, h3⟩ := h
 cases zs with
 | nil => exact .slE false 1 A c h2
 | cons z l =>
  obtain ⟨ad, rfl, hb, hc⟩ := h3 0 (.int .i64 z) rfl
  have e0 : ad.add 0 = ad := rfl
  rw [e0] at hc
  obtain ⟨b, o, rfl⟩ : ∃ b o, ad = ⟨b, o, none⟩ := ⟨_, _, spot_none hc⟩
  have hl : (z :: l).length = ((z :: l).map I).length := by simp
  rw [hl]
  have dest : ∀ (i : Nat) (e : AV), ((z :: l).map I)[i]? = some e → ∃ y, (z :: l)[i]? = some y ∧ e = I y := fun i e he => by
   rw [List.getElem?_map] at he
   cases hz : (z :: l)[i]? with
   | none => rw [hz] at he; cases he
   | some y =>
    rw [hz] at he
    injection he with he
    exact ⟨y, rfl, he.symm⟩
  refine .sl false 1 ((z :: l).map I) b o c (fun i _ => .int .i64 ((z :: l).getD i 0)) (by rw [List.length_map]; exact h1) h2 (stab0 W hb) (fun i e he => ?_) (fun i e j x he hx => ?_) (fun i e j x he hx => ?_)
  ·obtain ⟨y, hz, rfl⟩ := dest i e he
   rfl
  ·obtain ⟨y, hz, rfl⟩ := dest i e he
   obtain ⟨ad', e', hb', hc'⟩ := h3 i (.int .i64 y) (by rw [ints, List.getElem?_map, hz]; rfl)
   injection e' with e'
   subst e'
   have hj : j = 0 := by
    cases j with
    | zero => rfl
    | succ j => simp [AV.cs, I] at hx
   subst hj
   rw [Addr.add_lit] at hc'
   show W.cell? ⟨b, o + i * 1 + 0, none⟩ = _
   rw [List.getD_eq_getElem?_getD, hz]
   simpa using hc'
  ·obtain ⟨y, hz, rfl⟩ := dest i e he
   have hj : j = 0 := by
    cases j with
    | zero => rfl
    | succ j => simp [AV.cs, I] at hx
   subst hj
   simp [AV.cs, I] at hx
   subst hx
   rw [List.getD_eq_getElem?_getD, hz]
   exact .v _
theorem rel_of_set {W : World} {v : Value} {s : TSet} (h : IsSet W v s) : RelV (cx0 W) (lk [] .nil) (eSet s) v := by
 obtain ⟨a, b, rfl, h1, h2⟩ := h
 refine .agg _ _ rfl fun i x y hx hy => ?_
 match i, hx, hy with
 | 0, hx, hy => simp at hx hy; subst hx hy; exact .v _
 | 1, hx, hy => simp at hx hy; subst hx hy; exact rel_of_ints h1
 | 2, hx, hy => simp at hx hy; subst hx hy; exact .v _
 | 3, hx, hy => simp at hx hy; subst hx hy; exact .v _
 | 4, hx, hy => simp at hx hy; subst hx hy; exact .v _
 | 5, hx, hy => simp at hx hy; subst hx hy; exact .v _
 | 6, hx, hy => simp at hx hy; subst hx hy; exact .v _
 | 7, hx, hy => simp at hx hy; subst hx hy; exact .v _
 | 8, hx, hy => simp at hx hy; subst hx hy; exact rel_of_ints h2
 | n + 9, hx, hy => simp at hx
theorem rel_of_gp (W : World) (g : Gp) : RelV (cx0 W) (lk [] .nil) (eGp g) (.agg #[.int .i64 g.wh, .int .i64 g.kd, .bool g.op]) := by
 refine .agg _ _ rfl fun i x y hx hy => ?_
 match i, hx, hy with
 | 0, hx, hy => simp at hx hy; subst hx hy; exact .v _
 | 1, hx, hy => simp at hx hy; subst hx hy; exact .v _
 | 2, hx, hy => simp at hx hy; subst hx hy; exact .v _
 | n + 3, hx, hy => simp at hx
theorem walk_of {f : Nat} {ys : List AV} (h : ASays Tryz.prog f ys (B true)) {W : World} {vals : Array Value} (hr : RelL (cx0 W) (lk [] .nil) ys vals) : Calls Tryz.prog f vals W (Gives W (.bool true)) := by
 refine (h.2 (cx0 W) vals rfl (relh0 W) hr).mono ?_
 rintro e w' ⟨v, x, hl, c', rfl, rfl, ⟨rfl, rfl⟩, k, _, rv⟩
 have := inv_v rv
 subst this
 refine ⟨rfl, ?_⟩
 exact ⟨k.os, k.tape, k.output, k.size, fun b hb => k.blk b hb (by rintro ⟨r, g, sz, es, h, _⟩; cases h)⟩
theorem isGp_of_trod {H : Type} {enc : TypeId × Value → H} {W : World} {spare : Nat → Bool} {held : Bool} {r : Reach} {b0 : Nat} {v : Value} {d : DataW H} {p : List MemPlace} (hv : Value.okWide Tryz.prog W r b0 72 v) (h : DataW.Trod enc Tryz.prog W 0 spare held 72 v d p) : ∃ g : Gp, v = .agg #[.int .i64 g.wh, .int .i64 g.kd, .bool g.op] := by
 obtain ⟨v0, v1, v2, y0, y1, y2, n, rfl, _, _, h0, h1, h2⟩ := open_agg3 Tryz.underlying72 (by kernel_rfl) (by kernel_rfl) hv h
 obtain ⟨z0, e0, _, _⟩ := DataW.trod_int Tryz.underlying3 h0
 obtain rfl : v0 = .int .i64 z0 := by simpa using e0
 obtain ⟨z1, e1, _, _⟩ := DataW.trod_int Tryz.underlying3 h1
 obtain rfl : v1 = .int .i64 z1 := by simpa using e1
 obtain ⟨b, e2, _⟩ := DataW.trod_bool Tryz.underlying4 h2
 obtain rfl : v2 = .bool b := by simpa using e2
 exact ⟨⟨z0, z1, b⟩, rfl⟩
end Go.Proofs.YthblfhgofopcaaaGreat
