/-
  Parts of the proof: SplZ, RefM, RefS, SplY, SrcV, LitN, BigT, LitV.
-/
import Derived.Test.YthblfhgofopcaaaGreatHA17
import Derived.Test.YthblfhgofopcaaaGreatHA40
import Derived.Shelf.SlSortCmp.NoneTotal
import Derived.Test.YthblfhgofopcaaaGreatHA33
import Derived.Test.YthblfhgofopcaaaGreatHA16
import Derived.Test.YthblfhgofopcaaaGreatHA35
import Derived.Test.YthblfhgofopcaaaGreatHA24
import Derived.Test.YthblfhgofopcaaaGreatHA31
import Derived.Test.YthblfhgofopcaaaGreatHA22
import Derived.Test.YthblfhgofopcaaaGreatHA27
import Derived.Test.YthblfhgofopcaaaGreatHA29
set_option linter.all false
namespace Go.Proofs.YthblfhgofopcaaaGreat
open Go.RowKit
set_option maxRecDepth 100000
set_option maxHeartbeats 2000000
theorem obj_sort0 (g : Nat) : AObj Tryz.prog 161 [.rsl 0 g 0 0, .clo 162 []] [(0, .arr g 1 [])] (.v (.tuple #[])) [(0, .arr g 1 [])] := by
 refine ⟨⟨_, _, Tryz.func161, rfl, rfl⟩, fun c vals hn hh hx => ?_⟩
 obtain ⟨v, v', rfl, k1, k2⟩ := relL_2 hx
 have e0 : lk [(0, Ob.arr g 1 [])] .nil 0 = .arr g 1 [] := rfl
 have hsl : SlAt c 0 0 0 v 1 := by
  cases k1 with
  | rsl _ _ _ _ _ _ hg => rw [e0] at hg; exact hg.2 rfl
 obtain ⟨A, cap, rfl, hcap, hmax, hpos⟩ := hsl
 refine (AnyF.slices_SortFunc_none (P := Tryz.prog) (ρ := Tryz.laysSortL_ren) { Tryz.laysSortL with } A cap v' c.w).mono ?_
 rintro e w' ⟨rfl, rfl⟩
 exact ⟨.tuple #[], _, _, c, rfl, rfl, ⟨rfl, rfl⟩, Keep.refl _ _, hh, .v _⟩
theorem splR_fuel {n : Nat} {rn : Int → Bool} (hr : RunsOk n rn) {f f' : Nat} {bag : List Int} (hb : Bg n bag) (h1 : bag.sum < (f : Int)) (h2 : bag.sum < (f' : Int)) : splR rn f bag = splR rn f' bag := by
 obtain ⟨a1, a2⟩ := splR_ok hr hb h1
 obtain ⟨b1, b2⟩ := splR_ok hr hb h2
 exact sl_ext a1 b1 fun x => (a2 x).trans (b2 x).symm
theorem splP_small (rn : Int → Bool) : ∀ (f : Nat) (left : List Int) (pr : Option Gp) (pd : Bool), ∀ r ∈ splP rn f left pr pd, r.length ≤ f
 | 0, _, _, _, r, h => by simp [splP] at h
 | f + 1, left, pr, pd, r, h => by
  have ih := splP_small rn f
  have h1 : ∀ (c : Prop) [Decidable c] (g : Gp) (l : List (List Gp)), (∀ x ∈ l, x.length ≤ f) → r ∈ (if c then l.map (g :: ·) else []) → r.length ≤ f + 1 := fun c _ g l hl hr => by
   split at hr
   ·obtain ⟨y, hy, rfl⟩ := List.mem_map.1 hr
    have := hl y hy; simp; omega
   ·cases hr
  rw [splP] at h
  split at h
  ·split at h
   ·simp at h; subst h; simp
   ·cases h
  ·rcases List.mem_append.1 h with h | h
   ·exact h1 _ _ _ (ih _ _ _) h
   ·rcases List.mem_append.1 h with h | h
    ·exact h1 _ _ _ (ih _ _ _) h
    ·exact h1 _ _ _ (ih _ _ _) h
theorem runs_ok (s : TSet) {n : Nat} (hn : (n : Int) = kindsI s) : RunsOk n (runsB s) := fun k h => by have := runs_in h; omega
set_option maxHeartbeats 4000000 in
theorem says_splits (s : TSet) (hv : chkErr s = 0) (bag : List Int) (hb : Sb bag) (hn : (bag.length : Int) = kindsI s) (hs : bag.sum ≤ 14) : ASays Tryz.prog 124 [eSet s, eInts false bag] (eLL false (splR (runsB s) 20 bag)) := by
 have hK : kindsI s ≤ 60 := by have := kinds_co s; omega
 have CC := own_clone_ints bag (by omega)
 have CF := from_F s hv 15 0 ⟨bag, false, [], [], 0, 0⟩ [] ⟨hb, hn, by dsimp only; omega, Nat.zero_le _, fun i h => absurd h (Nat.not_lt_zero i), by simp, (fun g h => by cases h), (fun h => by cases h)⟩ (by decide)
 unfold FromF at CF
 dsimp only at CF
 refine asays_lo ?_
 refine acall_ofW (nx := 0) (ne := 0) tysGood (DD_ok tysGood mixed _) Tryz.func124 (by rfl) (by rfl) (by simp [Tryz.ntmps124]) (fun p hp => by cases hp) ?_; rw [Tryz.ntmps124]; let tb := ord_124; let lv := live_124
 refine AW_join (upto_seq _ (upto_seq _ (upto_seq _ (upto_seq _ (upto_seq _ (upto_seq _ (upto_seq _ (upto_one _ _)))))))) fun K0 hC0 hKr => ?_
 (have fa := zT; (repeat' first | refine zO (CC) ?_ | refine zQ ?_ | (refine zN ?_; intro K hC hK) | ((repeat clear hJo hJU hJC Jo JU JC); (repeat (fail_if_success (refine hK _ ?_)); clear hK hC K); refine hK _ ?_; clear hK hC K) | (refine zC ?_ ?_ <;> intro hb) | (refine zK ?_; intro Jo JU JC hJo hJU hJC)) <;> (try clear fa))
 refine hC0.w _ _ (wk_virtO 96 0 1 600 0 3 (by rfl) (by rfl)) ?_
 refine hC0.w _ _ (wk_virtO 112 0 1 700 0 1 (by rfl) (by rfl)) ?_
 refine hKr _ ?_
 clear hKr hC0 K0
 (have fa := @virtO.eq_1; first | exact zE0 | (refine zE ?_; try clear fa))
 (have fa := zT; (repeat' first | refine zQ ?_ | (refine zN ?_; intro K hC hK) | ((repeat clear hJo hJU hJC Jo JU JC); (repeat (fail_if_success (refine hK _ ?_)); clear hK hC K); refine hK _ ?_; clear hK hC K) | (refine zC ?_ ?_ <;> intro hb) | (refine zK ?_; intro Jo JU JC hJo hJU hJC)) <;> (try clear fa))
 obtain ⟨N, hN⟩ : ∃ N, newL s 15 ⟨bag, false, [], [], 0, 0⟩ = N := ⟨_, rfl⟩
 rw [hN] at CF
 with_reducible apply CallW.obj [0, 64, 128, 112, 96, 208, 176, 48, 600, 700] CF
 ·first | rfl | ((have fa := (And.intro @fromC.eq_1 @putC.eq_1); first | exact zE0 | (refine zE ?_; try clear fa)); done) | ((have fa := (And.intro @fromC.eq_1 @putC.eq_1); first | exact zE0 | (refine zE ?_; try clear fa)); rfl)
 ·first | rfl | ((have fa := (And.intro @fromC.eq_1 @putC.eq_1); first | exact zE0 | (refine zE ?_; try clear fa)); done) | ((have fa := (And.intro @fromC.eq_1 @putC.eq_1); first | exact zE0 | (refine zE ?_; try clear fa)); rfl)
 ·decide
 ·intro r hr; simp at hr; rcases hr with rfl | rfl | rfl | rfl | rfl | rfl | rfl | rfl | rfl | rfl <;> exact ⟨_, _, _, rfl⟩
 ·refine ⟨by (have fa := zT; first | exact zE0 | (refine zE ?_; try clear fa)), ?_⟩
  intro r hr g sz es he
  simp at hr
  rcases hr with rfl | rfl | rfl | rfl | rfl | rfl | rfl | rfl | rfl | rfl
  all_goals
   injection he with h1 h2 h3
   subst h1 h2 h3
   first | rfl | ((have fa := zT; first | exact zE0 | (refine zE ?_; try clear fa)); done) | ((have fa := zT; first | exact zE0 | (refine zE ?_; try clear fa)); rfl)
 rintro v hl ⟨rfl, junk, gs, go, rfl⟩
 refine ⟨⟨by simp, by simp⟩, ?_, ?_⟩
 ·intro p hp; simp at hp; rcases hp with rfl | rfl | rfl | rfl | rfl | rfl | rfl | rfl | rfl | rfl <;> intro h <;> simp at h
 (have fa := (And.intro @fromC.eq_1 @putC.eq_1); first | exact zE0 | (refine zE ?_; try clear fa))
 refine hJC _ _ _ ?_
 clear hJo hJU hJC Jo JU JC
 have hp := newL_len s 15 ⟨bag, false, [], [], 0, 0⟩
 rw [hN] at hp
 have h3 : (3 : Nat) ^ 15 = 14348907 := by decide
 have hr := runs_ok s hn
 have hbg : Bg bag.length bag := ⟨rfl, fun i => (hb i).1⟩
 have key : ∀ S : List (List Gp), S.Perm N → (S.Pairwise fun a b => lcmp a b ≤ 0) → S = splR (runsB s) 20 bag := fun S h1 h2 => by
  rw [← splR_fuel hr hbg (show bag.sum < ((15 : Nat) : Int) by omega) (show bag.sum < ((20 : Nat) : Int) by omega)]
  refine spl_eq hr hbg (by omega) ?_ h2
  rw [← hN] at h1
  exact h1
 cases N with
 | nil =>
  have CS := obj_sort0 go
  (have fa := zT; (repeat' first | refine zJ (tg [700]) (CS) ?_ | refine zQ ?_ | (refine zN ?_; intro K hC hK) | ((repeat clear hJo hJU hJC Jo JU JC); (repeat (fail_if_success (refine hK _ ?_)); clear hK hC K); refine hK _ ?_; clear hK hC K) | (refine zC ?_ ?_ <;> intro hb) | (refine zK ?_; intro Jo JU JC hJo hJU hJC)) <;> (try clear fa))
  have e := key [] (List.Perm.refl _) List.Pairwise.nil
  rw [← e]
  refine AW_ret ?_; refine zU ?_; refine ⟨_, .rfl', .inr rfl, ?_, [], 2, finOk_nil, ?_⟩ <;> (have fa := zT; first | exact zE0 | (refine zE ?_; try clear fa))
  rfl
 | cons l0 N' =>
  have hN2 : (l0 :: N').length ≤ 1000000000 := by omega
  have hx : ∀ x ∈ l0 :: N', x.length ≤ 1000000 := fun x hx => by
   rw [← hN] at hx
   obtain ⟨r, hr1, rfl⟩ := List.mem_map.1 hx
   have := splP_small _ _ _ _ _ r hr1
   rw [(sortG_perm _).length_eq]; simp at this ⊢; omega
  have CE : AEx Tryz.prog 161 [.rsl 0 go 0 (l0 :: N').length, .clo 162 []] [(0, .arr go 1 ((l0 :: N').map (eGps false)))] (fun _ : List (List Gp) => .v (.tuple #[])) (fun l' => [(0, .arr go 1 (l'.map (eGps false)))]) (fun l' => l'.Perm (l0 :: N') ∧ l'.Pairwise fun a b => lcmp a b ≤ 0) :=
   acall_mono (own_sortL false go (l0 :: N') (by simp) hN2 hx) (by rintro x hl ⟨rfl, l', h1, h2, rfl⟩; exact ⟨l', ⟨h1, h2⟩, rfl, rfl⟩)
  obtain ⟨L, hL⟩ : ∃ L, l0 :: N' = L := ⟨_, rfl⟩
  rw [hL] at CE key ⊢
  (have fa := zT; (repeat' first | refine zQ ?_ | (refine zN ?_; intro K hC hK) | ((repeat clear hJo hJU hJC Jo JU JC); (repeat (fail_if_success (refine hK _ ?_)); clear hK hC K); refine hK _ ?_; clear hK hC K) | (refine zC ?_ ?_ <;> intro hb) | (refine zK ?_; intro Jo JU JC hJo hJU hJC)) <;> (try clear fa))
  (have fa := zT; refine zX (tg [700]) (CE) ?_; clear hJo hJU hJC Jo JU JC; (try clear fa)); intro xr hxr
  have e := key xr hxr.1 hxr.2
  have hl := hxr.1.length_eq
  have hT : xr.take L.length = xr := by rw [← hl, List.take_length]
  have hT2 : L.length ≤ xr.length := by omega
  (have fa := zT; (repeat' first | refine zQ ?_ | (refine zN ?_; intro K hC hK) | ((repeat clear hJo hJU hJC Jo JU JC); (repeat (fail_if_success (refine hK _ ?_)); clear hK hC K); refine hK _ ?_; clear hK hC K) | (refine zC ?_ ?_ <;> intro hb) | (refine zK ?_; intro Jo JU JC hJo hJU hJC)) <;> (try clear fa))
  rw [← e]
  refine AW_ret ?_; refine zU ?_; refine ⟨_, .rfl', .inr rfl, ?_, [], 2, finOk_nil, ?_⟩ <;> (have fa := (And.intro hT hT2); first | exact zE0 | (refine zE ?_; try clear fa))
end Go.Proofs.YthblfhgofopcaaaGreat

namespace Go.Proofs.YthblfhgofopcaaaGreat
open Go.RowKit
set_option maxRecDepth 100000
set_option maxHeartbeats 2000000
end Go.Proofs.YthblfhgofopcaaaGreat

namespace Go.Proofs.YthblfhgofopcaaaGreat
open Go.RowKit
set_option maxRecDepth 100000
set_option maxHeartbeats 2000000
theorem cnt_sb {s : TSet} {bag : List Int} (hv : chkErr s = 0) (h : cntErr s bag = 0) : Sb bag ∧ (bag.length : Int) = kindsI s ∧ 0 ≤ bag.sum := by
 obtain ⟨h1, h2⟩ := cnt_rg h
 have := (valid_of hv).co
 exact ⟨fun i => getD_of (P := fun z => 0 ≤ z ∧ z ≤ 1000) (fun z hz => by have := h2 z hz; omega) (by omega) i, h1, sum_nonneg' fun z hz => (h2 z hz).1⟩
end Go.Proofs.YthblfhgofopcaaaGreat

namespace Go.Proofs.YthblfhgofopcaaaGreat
open Go.RowKit
set_option maxRecDepth 100000
set_option maxHeartbeats 2000000
end Go.Proofs.YthblfhgofopcaaaGreat

namespace Go.Proofs.YthblfhgofopcaaaGreat
open Go.RowKit
set_option maxRecDepth 100000
set_option maxHeartbeats 2000000
abbrev U (x : Int) : AV := .v (.int .u64 x)
def srcH (x : Int) : Hl := [(0, .arr 0 1 [U x])]
def nextX (x : Int) : Int := IntKind.u64.wrap (IntKind.u64.wrap (x * 15074714826142052245) + 7146057691288625177)
def outX (x : Int) : Int := (IntKind.u64.wrap ((BitVec.ofInt IntKind.u64.bits x ^^^ BitVec.ofInt IntKind.u64.bits (x.fdiv (2 ^ min 31 IntKind.u64.bits))).toNat)).fdiv (2 ^ min 20 IntKind.u64.bits)
def belX (x n : Int) : Int := if n < 1 then 0 else IntKind.i64.wrap ((outX (nextX x)).tmod (IntKind.u64.wrap n))
theorem u64_in {n : Int} (h0 : 0 ≤ n) (h1 : n < 18446744073709551616) : IntKind.u64.wrap n = n := by unfold IntKind.wrap; simp [IntKind.signed, IntKind.bits]; omega
theorem u64_rg (n : Int) : 0 ≤ IntKind.u64.wrap n := by unfold IntKind.wrap; simp [IntKind.signed, IntKind.bits]; omega
theorem outX_nonneg (x : Int) : 0 ≤ outX x := by
 unfold outX
 have h1 := u64_rg ((BitVec.ofInt IntKind.u64.bits x ^^^ BitVec.ofInt IntKind.u64.bits (x.fdiv (2 ^ min 31 IntKind.u64.bits))).toNat)
 exact Int.fdiv_nonneg h1 (by decide)
theorem belX_rg {x n : Int} (h1 : 1 ≤ n) (h2 : n ≤ 9223372036854775807) : 0 ≤ belX x n ∧ belX x n < n := by
 unfold belX
 rw [if_neg (by omega), u64_in (by omega) (by omega)]
 have h0 := outX_nonneg (nextX x)
 have h3 : (outX (nextX x)).tmod n = outX (nextX x) % n := Int.tmod_eq_emod_of_nonneg h0
 have h4 := Int.emod_nonneg (outX (nextX x)) (show n ≠ 0 by omega)
 have h5 := Int.emod_lt_of_pos (outX (nextX x)) (show 0 < n by omega)
 rw [h3, vwrap_in (by omega) (by omega)]
 exact ⟨h4, h5⟩
theorem v_Below (x n : Int) (hn : n ≤ 9223372036854775807) : AObj Tryz.prog 50 [.ref 0 0 0 0, I n] (srcH x) (I (belX x n)) (srcH (nextX x)) := by
 unfold AObj srcH
 by_cases h1 : n < 1
 ·refine acall_ofW (nx := 64) (ne := 1) tysGood (DD_ok tysGood mixed _) Tryz.func50 (by rfl) (by rfl) (by simp [Tryz.ntmps50]) (by simp) ?_; rw [Tryz.ntmps50]; let tb := ord_50; let lv := live_50
  (have fa := zT; (repeat' first | refine zQ ?_ | (refine zN ?_; intro K hC hK) | ((repeat clear hJo hJU hJC Jo JU JC); (repeat (fail_if_success (refine hK _ ?_)); clear hK hC K); refine hK _ ?_; clear hK hC K) | (refine zC ?_ ?_ <;> intro hb) | (refine zK ?_; intro Jo JU JC hJo hJU hJC)) <;> (try clear fa))
  refine AW_ret ?_; refine zU ?_; refine ⟨_, .rfl', .inr rfl, ?_, [(0, 0)], 2, ⟨by decide, by decide, by decide⟩, ?_⟩ <;> (have fa := zT; first | exact zE0 | (refine zE ?_; try clear fa))
  refine ⟨?_, rfl⟩
  unfold belX; rw [if_pos h1]
 ·have hw : IntKind.u64.wrap n = n := u64_in (by omega) (by omega)
  have hne : (n ≠ 0) = True := by simp; omega
  refine acall_ofW (nx := 64) (ne := 1) tysGood (DD_ok tysGood mixed _) Tryz.func50 (by rfl) (by rfl) (by simp [Tryz.ntmps50]) (by simp) ?_; rw [Tryz.ntmps50]; let tb := ord_50; let lv := live_50
  (have fa := (And.intro hw hne); (repeat' first | refine zQ ?_ | (refine zN ?_; intro K hC hK) | ((repeat clear hJo hJU hJC Jo JU JC); (repeat (fail_if_success (refine hK _ ?_)); clear hK hC K); refine hK _ ?_; clear hK hC K) | (refine zC ?_ ?_ <;> intro hb) | (refine zK ?_; intro Jo JU JC hJo hJU hJC)) <;> (try clear fa))
  refine AW_ret ?_; refine zU ?_; refine ⟨_, .rfl', .inr rfl, ?_, [(0, 0)], 2, ⟨by decide, by decide, by decide⟩, ?_⟩ <;> (have fa := zT; first | exact zE0 | (refine zE ?_; try clear fa))
  refine ⟨?_, rfl⟩
  unfold belX; rw [if_neg h1, hw]; rfl
theorem v_Odds (x n : Int) (hn : n ≤ 9223372036854775807) : AObj Tryz.prog 82 [.ref 0 0 0 0, I n] (srcH x) (B (belX x n == 0)) (srcH (nextX x)) := by
 have CB := v_Below x n hn
 unfold srcH at CB
 unfold AObj srcH
 refine acall_ofW (nx := 64) (ne := 1) tysGood (DD_ok tysGood mixed _) Tryz.func82 (by rfl) (by rfl) (by simp [Tryz.ntmps82]) (by simp) ?_; rw [Tryz.ntmps82]; let tb := ord_82; let lv := live_82
 (have fa := zT; (repeat' first | refine zJ (tg [0]) (CB) ?_ | refine zQ ?_ | (refine zN ?_; intro K hC hK) | ((repeat clear hJo hJU hJC Jo JU JC); (repeat (fail_if_success (refine hK _ ?_)); clear hK hC K); refine hK _ ?_; clear hK hC K) | (refine zC ?_ ?_ <;> intro hb) | (refine zK ?_; intro Jo JU JC hJo hJU hJC)) <;> (try clear fa))
 refine AW_ret ?_; refine zU ?_; refine ⟨_, .rfl', .inr rfl, ?_, [(0, 0)], 2, ⟨by decide, by decide, by decide⟩, ?_⟩ <;> (have fa := zT; first | exact zE0 | (refine zE ?_; try clear fa))
theorem v_Range (x lo hi : Int) (h0 : -1000000000 ≤ lo) (h1 : lo ≤ hi) (h2 : hi ≤ 1000000000) : AObj Tryz.prog 84 [.ref 0 0 0 0, I lo, I hi] (srcH x) (I (lo + belX x (hi - lo + 1))) (srcH (nextX x)) := by
 have hr := belX_rg (x := x) (n := hi - lo + 1) (by omega) (by omega)
 have CB := v_Below x (hi - lo + 1) (by omega)
 unfold srcH at CB
 unfold AObj srcH
 refine acall_ofW (nx := 64) (ne := 1) tysGood (DD_ok tysGood mixed _) Tryz.func84 (by rfl) (by rfl) (by simp [Tryz.ntmps84]) (by simp) ?_; rw [Tryz.ntmps84]; let tb := ord_84; let lv := live_84
 (have fa := zT; (repeat' first | refine zJ (tg [0]) (CB) ?_ | refine zQ ?_ | (refine zN ?_; intro K hC hK) | ((repeat clear hJo hJU hJC Jo JU JC); (repeat (fail_if_success (refine hK _ ?_)); clear hK hC K); refine hK _ ?_; clear hK hC K) | (refine zC ?_ ?_ <;> intro hb) | (refine zK ?_; intro Jo JU JC hJo hJU hJC)) <;> (try clear fa))
 refine AW_ret ?_; refine zU ?_; refine ⟨_, .rfl', .inr rfl, ?_, [(0, 0)], 2, ⟨by decide, by decide, by decide⟩, ?_⟩ <;> (have fa := zT; first | exact zE0 | (refine zE ?_; try clear fa))
end Go.Proofs.YthblfhgofopcaaaGreat

namespace Go.Proofs.YthblfhgofopcaaaGreat
theorem risErr_snoc {many p k : Int} {l : List Int} (h : risErr many p l = 0) (hl : ∀ z ∈ l, z < k) (hp : p < k) (h0 : 0 ≤ k) (h1 : k < many) : risErr many p (l ++ [k]) = 0 := by
 induction l generalizing p with
 | nil =>
  show (if k < 0 ∨ many ≤ k then (2 : Int) else if k ≤ p then 11 else risErr many k []) = 0
  rw [if_neg (by omega), if_neg (by omega)]; rfl
 | cons x l ih =>
  obtain ⟨a, b, c⟩ := risErr_cons h
  show (if x < 0 ∨ many ≤ x then (2 : Int) else if x ≤ p then 11 else risErr many x (l ++ [k])) = 0
  rw [if_neg (by omega), if_neg (by omega)]
  exact ih c (fun z hz => hl z (by simp [hz])) (hl x (by simp))
structure LitNum (s : TSet) (m : Int) : Prop where
 pl : s.pl = 3
 su : ∀ z ∈ s.su, 3 ≤ z ∧ z ≤ 5
 su2 : s.su.length ≤ 2
 wi : 0 ≤ s.wi ∧ s.wi ≤ 4
 dr : 0 ≤ s.dr ∧ s.dr ≤ 3
 fl : 0 ≤ s.fl ∧ s.fl ≤ 1
 co : 2 ≤ s.co ∧ s.co ≤ 4
 me : s.me = m
 de : 0 ≤ s.de ∧ s.de ≤ 2
theorem LitNum.ok {s : TSet} {m : Int} (h : LitNum s m) (hm : 1 ≤ m ∧ m ≤ 3) (h1 : 1 ≤ s.su.length) (hr : risErr (plainI s) (-1) s.re = 0) (hf : ¬ plainI s * s.co + s.fl < 3 * (3 * m + 1) + 1 + s.de) : chkErr s = 0 := by
 have hs := sumI_bound (l := s.su) fun z hz => by have := h.su z hz; omega
 have hp : plainI s = s.wi + s.dr + sumI s.su := rfl
 have a := h.pl
 have b := h.me
 have c := h.wi
 have d := h.dr
 have e := h.fl
 have f := h.co
 have g := h.de
 have hR : rowsB s = false := by
  unfold rowsB
  simp
  omega
 unfold chkErr
 rw [if_neg (by omega), if_neg (by have := h.su2; omega), if_neg, hR, if_neg (by simp), if_neg (by omega), if_neg (by simpa using hr), if_neg]
 ·rw [a, b]; omega
 ·intro hb
  obtain ⟨z, hz, hb⟩ := List.any_eq_true.1 hb
  have := h.su z hz
  unfold sutB at hb
  simp at hb
  omega
structure MadeS (s : TSet) : Prop where
 ok : chkErr s = 0
 fl : s.fl ≤ 1
end Go.Proofs.YthblfhgofopcaaaGreat

namespace Go.Proofs.YthblfhgofopcaaaGreat
open Go.RowKit
def bigT : TSet := ⟨4, [9, 9, 9], 4, 3, 0, 4, 4, 14, [4, 13, 22]⟩
def tinyT : TSet := ⟨3, [3], 0, 1, 0, 4, 1, 2, [1]⟩
end Go.Proofs.YthblfhgofopcaaaGreat

namespace Go.Proofs.YthblfhgofopcaaaGreat
open Go.RowKit
set_option maxRecDepth 100000
set_option maxHeartbeats 2000000
theorem says_kTotal (zs : List Int) (hz : zs.length ≤ 1000000) : ASays Tryz.prog 97 [eInts false zs] (I (sumW zs)) := by
 refine acall_ofW (nx := 0) (ne := 0) tysGood (DD_ok tysGood mixed _) Tryz.func97 (by rfl) (by rfl) (by simp [Tryz.ntmps97]) (fun p hp => by cases hp) ?_; rw [Tryz.ntmps97]; let tb := ord_97; let lv := live_97
 (have fa := zT; (repeat' first | refine zQ ?_ | (refine zN ?_; intro K hC hK) | ((repeat clear hJo hJU hJC Jo JU JC); (repeat (fail_if_success (refine hK _ ?_)); clear hK hC K); refine hK _ ?_; clear hK hC K) | (refine zC ?_ ?_ <;> intro hb) | (refine zK ?_; intro Jo JU JC hJo hJU hJC)) <;> (try clear fa))
 refine AW_forC zs.length (fun k σ => σ = ⟨900, [(0, eInts false zs), (3, I (sumW (zs.take k))), (4, I k)], []⟩) [] [] 0 [0, 3, 4] 900 (finOk0 (by decide) (by decide)) (finOk0 (by decide) (by decide)) (by (have fa := zT; exact zV)) ?_
 rintro k σ' hk rfl J hcJ hJ
 by_cases h : k < zs.length
 ·have hs := sumW_take zs h
  (have fa := hs; (repeat' first | refine zQ ?_ | (refine zN ?_; intro K hC hK) | ((repeat clear hJo hJU hJC Jo JU JC); (repeat (fail_if_success (refine hK _ ?_)); clear hK hC K); refine hK _ ?_; clear hK hC K) | (refine zC ?_ ?_ <;> intro hb) | (refine zK ?_; intro Jo JU JC hJo hJU hJC)) <;> (try clear fa))
  exact hJ _ h (by (have fa := zT; exact zV))
 ·(have fa := zT; (repeat' first | refine zQ ?_ | (refine zN ?_; intro K hC hK) | ((repeat clear hJo hJU hJC Jo JU JC); (repeat (fail_if_success (refine hK _ ?_)); clear hK hC K); refine hK _ ?_; clear hK hC K) | (refine zC ?_ ?_ <;> intro hb) | (refine zK ?_; intro Jo JU JC hJo hJU hJC)) <;> (try clear fa))
  refine AW_ret ?_; refine zU ?_; refine ⟨_, .rfl', .inr rfl, ?_, [], 2, finOk_nil, ?_⟩ <;> (have fa := zT; first | exact zE0 | (refine zE ?_; try clear fa))
  obtain rfl : k = zs.length := by omega
  rw [List.take_length]
def plainW (s : TSet) : Int := IntKind.i64.wrap (IntKind.i64.wrap (sumW s.su + s.wi) + s.dr)
theorem says_Plain (s : TSet) (hz : s.su.length ≤ 1000000) : ASays Tryz.prog 108 [eSet s] (I (plainW s)) := by
 have CT := says_kTotal s.su hz
 refine acall_ofW (nx := 0) (ne := 0) tysGood (DD_ok tysGood mixed _) Tryz.func108 (by rfl) (by rfl) (by simp [Tryz.ntmps108]) (fun p hp => by cases hp) ?_; rw [Tryz.ntmps108]; let tb := ord_108; let lv := live_108
 (have fa := zT; (repeat' first | refine zS (CT) ?_ | refine zQ ?_ | (refine zN ?_; intro K hC hK) | ((repeat clear hJo hJU hJC Jo JU JC); (repeat (fail_if_success (refine hK _ ?_)); clear hK hC K); refine hK _ ?_; clear hK hC K) | (refine zC ?_ ?_ <;> intro hb) | (refine zK ?_; intro Jo JU JC hJo hJU hJC)) <;> (try clear fa))
 refine AW_ret ?_; refine zU ?_; refine ⟨_, .rfl', .inr rfl, ?_, [], 2, finOk_nil, ?_⟩ <;> (have fa := zT; first | exact zE0 | (refine zE ?_; try clear fa))
 rfl
theorem plainW_eq {s : TSet} (hz : ∀ z ∈ s.su, 0 ≤ z ∧ z ≤ 9) (hl : s.su.length ≤ 20) (hw : 0 ≤ s.wi ∧ s.wi ≤ 9) (hd : 0 ≤ s.dr ∧ s.dr ≤ 9) : plainW s = plainI s := by
 have h1 := sumW_eq (m := 9) hz (by omega) (by omega)
 have h2 := sum_bound (m := 9) hz
 have h3 := sumI_sum s.su
 unfold plainW plainI
 rw [h1, h3, vwrap_in (n := s.su.sum + s.wi) (by omega) (by omega), vwrap_in (by omega) (by omega)]; omega
set_option maxHeartbeats 4000000 in
theorem v_Little (x m : Int) (hm : 1 ≤ m ∧ m ≤ 3) : AEx Tryz.prog 83 [.ref 0 0 0 0, I m] (srcH x) (fun a : TSet × Int => eSet a.1) (fun a => srcH a.2) (fun a => LitNum a.1 m ∧ chkErr a.1 = 0) := by
 unfold AEx srcH
 refine acall_le ?_
 refine acall_ofW (nx := 64) (ne := 1) tysGood (DD_ok tysGood mixed _) Tryz.func83 (by rfl) (by rfl) (by simp [Tryz.ntmps83]) (by simp) ?_; rw [Tryz.ntmps83]; let tb := ord_83; let lv := live_83
 (have fa := @srcH.eq_1; (repeat' first | refine zJ (tg [0]) (v_Range _ 2 4 (by omega) (by omega) (by omega)) ?_ | refine zJ (tg [0]) (v_Below _ 3 (by omega)) ?_ | refine zJ (tg [0]) (v_Below _ 2 (by omega)) ?_ | refine zJ (tg [0]) (v_Range _ 1 2 (by omega) (by omega) (by omega)) ?_ | refine zQ ?_ | (refine zN ?_; intro K hC hK) | ((repeat clear hJo hJU hJC Jo JU JC); (repeat (fail_if_success (refine hK _ ?_)); clear hK hC K); refine hK _ ?_; clear hK hC K) | (refine zC ?_ ?_ <;> intro hb) | (refine zK ?_; intro Jo JU JC hJo hJU hJC)) <;> (try clear fa))
 have b1 := belX_rg (x := x) (n := 3) (by omega) (by omega)
 have b2 := belX_rg (x := nextX x) (n := 3) (by omega) (by omega)
 have b3 := belX_rg (x := nextX (nextX x)) (n := 3) (by omega) (by omega)
 have b4 := belX_rg (x := nextX (nextX (nextX x))) (n := 2) (by omega) (by omega)
 have b5 := belX_rg (x := nextX (nextX (nextX (nextX x)))) (n := 3) (by omega) (by omega)
 have b6 := belX_rg (x := nextX (nextX (nextX (nextX (nextX x))))) (n := 2) (by omega) (by omega)
 generalize belX x 3 = co at *
 generalize belX (nextX x) 3 = wi at *
 generalize belX (nextX (nextX x)) 3 = dr at *
 generalize belX (nextX (nextX (nextX x))) 2 = fl at *
 generalize belX (nextX (nextX (nextX (nextX x)))) 3 = de at *
 generalize belX (nextX (nextX (nextX (nextX (nextX x))))) 2 = n0 at *
 generalize nextX (nextX (nextX (nextX (nextX (nextX x))))) = x1 at *
 refine AW_loopGV (wk_virtA 272 0 9 500 0 1 1 (by rfl) (by rfl) (by rfl)) (α := Int × Nat × List Int × Int) (fun a => [(0, .ref 0 0 0 0), (1, I m), (4, .ref 1 0 0 0), (5, .ref 2 0 0 0), (6, I a.1)])
  (fun a => [(0, .arr 0 1 [U a.2.2.2]), (1, .arr 0 9 [.agg [I 0, nilA, I 0, I 0, I 0, I 0, I 0, I 0, nilA]]), (2, .arr 0 9 [.agg [I 3, .rsl 3 a.2.1 0 a.2.2.1.length, I wi, I dr, I fl, I (2 + co), I m, I de, nilA]]), (3, .arr a.2.1 1 (a.2.2.1.map I))])
  (fun a => a.1.toNat) (fun a => 0 ≤ a.1 ∧ a.1 + a.2.2.1.length ≤ 2 ∧ 1 ≤ a.1 + a.2.2.1.length ∧ ∀ z ∈ a.2.2.1, 3 ≤ z ∧ z ≤ 5) [(0, 0), (64, 1), (272, 2), (500, 3)] [(0, 0), (1, 1), (2, 2), (3, 3)] 0 [0, 1, 4, 5, 6] 900 (⟨by decide, by decide, by decide⟩) (⟨by decide, by decide, by decide⟩) (1 + n0, 0, [], x1) ⟨by dsimp only; omega, by simp; omega, by simp; omega, by simp⟩ (by (have fa := (And.intro @virtE.eq_1 @nilA.eq_1); exact zSF)) ?_
 rintro ⟨i, g, su, x2⟩ ⟨i0, i1, i2, hsu⟩ J hcJ hJ
 dsimp only at i0 i1 i2 hsu hJ ⊢
 by_cases h : 0 < i
 ·(have fa := @srcH.eq_1; (repeat' first | refine zJ (tg [0]) (v_Range _ 3 5 (by omega) (by omega) (by omega)) ?_ | refine zQ ?_ | (refine zN ?_; intro K hC hK) | ((repeat clear hJo hJU hJC Jo JU JC); (repeat (fail_if_success (refine hK _ ?_)); clear hK hC K); refine hK _ ?_; clear hK hC K) | (refine zC ?_ ?_ <;> intro hb) | (refine zK ?_; intro Jo JU JC hJo hJU hJC)) <;> (try clear fa))
  have b7 := belX_rg (x := x2) (n := 3) (by omega) (by omega)
  refine hJ _ (i - 1, g + 1, su ++ [3 + belX x2 3], nextX x2) (by dsimp only; omega) ⟨by dsimp only; omega, by simp; omega, by simp; omega, fun z hz => ?_⟩ (by (have fa := @List.length_append.{0}; exact zSF))
  rcases List.mem_append.1 hz with hz | hz
  ·exact hsu z hz
  ·simp at hz; omega
 ·(have fa := zT; (repeat' first | refine zQ ?_ | (refine zN ?_; intro K hC hK) | ((repeat clear hJo hJU hJC Jo JU JC); (repeat (fail_if_success (refine hK _ ?_)); clear hK hC K); refine hK _ ?_; clear hK hC K) | (refine zC ?_ ?_ <;> intro hb) | (refine zK ?_; intro Jo JU JC hJo hJU hJC)) <;> (try clear fa))
  have hsl : 1 ≤ su.length ∧ su.length ≤ 2 := by omega
  clear h i0 i1 i2
  have hs1 := sum_bound (zs := su) (m := 5) fun z hz => by have := hsu z hz; omega
  have hs3 : 3 ≤ su.sum := by
   cases su with
   | nil => simp at hsl
   | cons a l =>
    have h1 := hsu a (by simp)
    have h2 := sum_bound (zs := l) (m := 5) fun z hz => by have := hsu z (by simp [hz]); omega
    simp; omega
  have hP : ∀ co wi dr re, 0 ≤ wi ∧ wi ≤ 4 → 0 ≤ dr ∧ dr ≤ 3 → plainW ⟨3, su, wi, dr, fl, co, m, de, re⟩ = wi + dr + su.sum := fun co wi dr re h1 h2 => by
   rw [plainW_eq (fun z hz => by have := hsu z hz; omega) (by dsimp only; omega) (by dsimp only; omega) (by dsimp only; omega)]
   unfold plainI; rw [sumI_sum]
  refine AW_loopGV (wk_virtA 2 0 9 500 0 1 8 (by rfl) (by rfl) (by rfl)) (α := Int × Int × Int) (fun a => [(0, .ref 0 0 0 0), (4, .ref 1 0 0 0), (5, .ref 2 0 0 0), (7, I (3 * (3 * m + 1) + 1 + de))])
   (fun a => [(0, .arr 0 1 [U x2]), (1, .arr 0 9 [.agg [I 0, nilA, I 0, I 0, I 0, I 0, I 0, I 0, nilA]]), (2, .arr 0 9 [.agg [I 3, .rsl 3 g 0 su.length, I a.2.1, I a.2.2, I fl, I a.1, I m, I de, .rsl 4 0 0 0]]), (3, .arr g 1 (su.map I)), (4, .arr 0 1 [])])
   (fun a => (4 - a.1).toNat + (4 - a.2.1).toNat + (3 - a.2.2).toNat) (fun a => (2 ≤ a.1 ∧ a.1 ≤ 4) ∧ (0 ≤ a.2.1 ∧ a.2.1 ≤ 4) ∧ (0 ≤ a.2.2 ∧ a.2.2 ≤ 3)) [(0, 0), (1, 1), (2, 2), (3, 3), (500, 4)] [(0, 0), (1, 1), (2, 2), (3, 3), (4, 4)] 0 [0, 4, 5, 7] 900 (⟨by decide, by decide, by decide⟩) (⟨by decide, by decide, by decide⟩) (2 + co, wi, dr) ⟨by dsimp only; omega, by dsimp only; omega, by dsimp only; omega⟩ (by (have fa := (And.intro @virtE.eq_1 @nilA.eq_1); exact zSF)) ?_
  clear hJ hcJ J b1 b2 b3 co wi dr
  rintro ⟨co, wi, dr⟩ ⟨b1, b2, b3⟩ J hcJ hJ
  dsimp only at b1 b2 b3 hJ ⊢
  have CP := says_Plain ⟨3, su, wi, dr, fl, co, m, de, []⟩ (by dsimp only; omega)
  rw [hP co wi dr [] b2 b3] at CP
  obtain ⟨P, hPe⟩ : ∃ P, wi + dr + su.sum = P := ⟨_, rfl⟩
  rw [hPe] at CP
  have hPc : 0 ≤ P * co ∧ P * co ≤ 100 := by
   rcases (show co = 2 ∨ co = 3 ∨ co = 4 by omega) with h | h | h <;> rw [h] <;> omega
  have hP4 : co = 4 → P * co = 4 * P := fun h => by rw [h]; omega
  by_cases h : P * co + fl < 3 * (3 * m + 1) + 1 + de
  ·by_cases h1 : co < 4
   ·(have fa := @eSet.eq_1; (repeat' first | refine zS (CP) ?_ | refine zQ ?_ | (refine zN ?_; intro K hC hK) | ((repeat clear hJo hJU hJC Jo JU JC); (repeat (fail_if_success (refine hK _ ?_)); clear hK hC K); refine hK _ ?_; clear hK hC K) | (refine zC ?_ ?_ <;> intro hb) | (refine zK ?_; intro Jo JU JC hJo hJU hJC)) <;> (try clear fa))
    refine hJ _ (co + 1, wi, dr) (by dsimp only; omega) ⟨by dsimp only; omega, b2, b3⟩ (by (have fa := zT; exact zSF))
   ·by_cases h2 : wi < 4
    ·(have fa := @eSet.eq_1; (repeat' first | refine zS (CP) ?_ | refine zQ ?_ | (refine zN ?_; intro K hC hK) | ((repeat clear hJo hJU hJC Jo JU JC); (repeat (fail_if_success (refine hK _ ?_)); clear hK hC K); refine hK _ ?_; clear hK hC K) | (refine zC ?_ ?_ <;> intro hb) | (refine zK ?_; intro Jo JU JC hJo hJU hJC)) <;> (try clear fa))
     refine hJ _ (co, wi + 1, dr) (by dsimp only; omega) ⟨b1, by dsimp only; omega, b3⟩ (by (have fa := zT; exact zSF))
    ·by_cases h3 : dr < 3
     ·(have fa := @eSet.eq_1; (repeat' first | refine zS (CP) ?_ | refine zQ ?_ | (refine zN ?_; intro K hC hK) | ((repeat clear hJo hJU hJC Jo JU JC); (repeat (fail_if_success (refine hK _ ?_)); clear hK hC K); refine hK _ ?_; clear hK hC K) | (refine zC ?_ ?_ <;> intro hb) | (refine zK ?_; intro Jo JU JC hJo hJU hJC)) <;> (try clear fa))
      refine hJ _ (co, wi, dr + 1) (by dsimp only; omega) ⟨b1, b2, by dsimp only; omega⟩ (by (have fa := zT; exact zSF))
     ·exfalso
      have := hP4 (by omega)
      omega
  ·(have fa := @eSet.eq_1; (repeat' first | refine zS (CP) ?_ | refine zQ ?_ | (refine zN ?_; intro K hC hK) | ((repeat clear hJo hJU hJC Jo JU JC); (repeat (fail_if_success (refine hK _ ?_)); clear hK hC K); refine hK _ ?_; clear hK hC K) | (refine zC ?_ ?_ <;> intro hb) | (refine zK ?_; intro Jo JU JC hJo hJU hJC)) <;> (try clear fa))
   clear hJ hcJ J hP4
   have hPe' : ∀ re, plainW ⟨3, su, wi, dr, fl, co, m, de, re⟩ = P := fun re => by rw [hP co wi dr re b2 b3, hPe]
   refine AW_loopG (α := Nat × Nat × List Int × Int) (fun a => [(0, .ref 0 0 0 0), (4, .ref 1 0 0 0), (5, .ref 2 0 0 0), (8, I a.1)])
    (fun a => [(0, .arr 0 1 [U a.2.2.2]), (1, .arr 0 9 [.agg [I 0, nilA, I 0, I 0, I 0, I 0, I 0, I 0, nilA]]), (2, .arr 0 9 [.agg [I 3, .rsl 3 g 0 su.length, I wi, I dr, I fl, I co, I m, I de, .rsl 4 a.2.1 0 a.2.2.1.length]]), (3, .arr g 1 (su.map I)), (4, .arr a.2.1 1 (a.2.2.1.map I))])
    (fun a => (P - a.1).toNat) (fun a => (a.1 : Int) ≤ P ∧ a.2.2.1.length ≤ a.1 ∧ risErr P (-1) a.2.2.1 = 0 ∧ ∀ z ∈ a.2.2.1, z < (a.1 : Int)) [(0, 0), (1, 1), (2, 2), (3, 3), (4, 4)] [(0, 0), (1, 1), (2, 2), (3, 3), (4, 4)] 0 [0, 4, 5, 8] 900 (⟨by decide, by decide, by decide⟩) (⟨by decide, by decide, by decide⟩) (0, 0, [], x2) ⟨by dsimp only; omega, by simp, rfl, by simp⟩ (by (have fa := zT; exact zSF)) ?_
   clear x2
   rintro ⟨k, g4, re, x2⟩ ⟨k0, k1, k2, k3⟩ J hcJ hJ
   dsimp only at k0 k1 k2 k3 hJ ⊢
   have CP := says_Plain ⟨3, su, wi, dr, fl, co, m, de, re⟩ (by dsimp only; omega)
   rw [hPe' re] at CP
   by_cases hk : (k : Int) < P
   ·by_cases ho : belX x2 6 = 0
    ·(have fa := (And.intro @eSet.eq_1 @srcH.eq_1); (repeat' first | refine zS (CP) ?_ | refine zJ (tg [0]) (v_Odds _ 6 (by omega)) ?_ | refine zQ ?_ | (refine zN ?_; intro K hC hK) | ((repeat clear hJo hJU hJC Jo JU JC); (repeat (fail_if_success (refine hK _ ?_)); clear hK hC K); refine hK _ ?_; clear hK hC K) | (refine zC ?_ ?_ <;> intro hb) | (refine zK ?_; intro Jo JU JC hJo hJU hJC)) <;> (try clear fa))
     refine hJ _ (k + 1, g4 + 1, re ++ [(k : Int)], nextX x2) (by dsimp only; omega) ⟨by dsimp only; omega, by simp; omega, risErr_snoc k2 k3 (by omega) (by omega) hk, fun z hz => ?_⟩ (by (have fa := @List.length_append.{0}; exact zSF))
     rcases List.mem_append.1 hz with hz | hz
     ·have := k3 z hz; dsimp only; omega
     ·simp at hz; dsimp only; omega
    ·(have fa := (And.intro @eSet.eq_1 @srcH.eq_1); (repeat' first | refine zS (CP) ?_ | refine zJ (tg [0]) (v_Odds _ 6 (by omega)) ?_ | refine zQ ?_ | (refine zN ?_; intro K hC hK) | ((repeat clear hJo hJU hJC Jo JU JC); (repeat (fail_if_success (refine hK _ ?_)); clear hK hC K); refine hK _ ?_; clear hK hC K) | (refine zC ?_ ?_ <;> intro hb) | (refine zK ?_; intro Jo JU JC hJo hJU hJC)) <;> (try clear fa))
     refine hJ _ (k + 1, g4, re, nextX x2) (by dsimp only; omega) ⟨by dsimp only; omega, by dsimp only; omega, k2, fun z hz => ?_⟩ (by (have fa := zT; exact zSF))
     have := k3 z hz; dsimp only; omega
   ·(have fa := @eSet.eq_1; (repeat' first | refine zS (CP) ?_ | refine zQ ?_ | (refine zN ?_; intro K hC hK) | ((repeat clear hJo hJU hJC Jo JU JC); (repeat (fail_if_success (refine hK _ ?_)); clear hK hC K); refine hK _ ?_; clear hK hC K) | (refine zC ?_ ?_ <;> intro hb) | (refine zK ?_; intro Jo JU JC hJo hJU hJC)) <;> (try clear fa))
    refine AW_ret ?_; refine zU ?_; refine ⟨_, .rfl', .inr rfl, ?_, [(0, 0)], 2, ⟨by decide, by decide, by decide⟩, ?_⟩ <;> (have fa := zT; first | exact zE0 | (refine zE ?_; try clear fa))
    have HN : LitNum ⟨3, su, wi, dr, fl, co, m, de, re⟩ m := ⟨rfl, hsu, hsl.2, b2, b3, by dsimp only; omega, b1, rfl, by dsimp only; omega⟩
    have hPI : plainI ⟨3, su, wi, dr, fl, co, m, de, re⟩ = P := by unfold plainI; rw [sumI_sum]; exact hPe
    refine ⟨eSet ⟨3, su, wi, dr, fl, co, m, de, re⟩, ?_, (⟨3, su, wi, dr, fl, co, m, de, re⟩, x2), ⟨HN, HN.ok hm hsl.1 (by rw [hPI]; exact k2) (by rw [hPI]; exact h)⟩, rfl, rfl⟩
    unfold eSet
    refine LeV.agg ?_
    (repeat first | exact LeL.nil | (refine LeL.cons ?_ ?_; (· (first | exact LeV.nil _ _ | exact LeV.rfl' | exact LeV.eq rfl | exact LeV.sl _ _ _ | (simpa only [AV.low, lowL, lowL_eGps, lowL_I, lowL_eGp, lowL_eGps] using LeV.low _)))))
theorem says_Big : ASays Tryz.prog 66 [] (eSet bigT) := by
 refine asays_lo ?_
 refine acall_ofW (nx := 0) (ne := 0) tysGood (DD_ok tysGood mixed _) Tryz.func66 (by rfl) (by rfl) (by simp [Tryz.ntmps66]) (fun p hp => by cases hp) ?_; rw [Tryz.ntmps66]; let tb := ord_66; let lv := live_66
 (have fa := zT; (repeat' first | refine zQ ?_ | (refine zN ?_; intro K hC hK) | ((repeat clear hJo hJU hJC Jo JU JC); (repeat (fail_if_success (refine hK _ ?_)); clear hK hC K); refine hK _ ?_; clear hK hC K) | (refine zC ?_ ?_ <;> intro hb) | (refine zK ?_; intro Jo JU JC hJo hJU hJC)) <;> (try clear fa))
 refine AW_ret ?_; refine zU ?_; refine ⟨_, .rfl', .inr rfl, ?_, [], 2, finOk_nil, ?_⟩ <;> (have fa := zT; first | exact zE0 | (refine zE ?_; try clear fa))
 rfl
theorem says_Tiny : ASays Tryz.prog 67 [] (eSet tinyT) := by
 refine asays_lo ?_
 refine acall_ofW (nx := 0) (ne := 0) tysGood (DD_ok tysGood mixed _) Tryz.func67 (by rfl) (by rfl) (by simp [Tryz.ntmps67]) (fun p hp => by cases hp) ?_; rw [Tryz.ntmps67]; let tb := ord_67; let lv := live_67
 (have fa := zT; (repeat' first | refine zQ ?_ | (refine zN ?_; intro K hC hK) | ((repeat clear hJo hJU hJC Jo JU JC); (repeat (fail_if_success (refine hK _ ?_)); clear hK hC K); refine hK _ ?_; clear hK hC K) | (refine zC ?_ ?_ <;> intro hb) | (refine zK ?_; intro Jo JU JC hJo hJU hJC)) <;> (try clear fa))
 refine AW_ret ?_; refine zU ?_; refine ⟨_, .rfl', .inr rfl, ?_, [], 2, finOk_nil, ?_⟩ <;> (have fa := zT; first | exact zE0 | (refine zE ?_; try clear fa))
 rfl
theorem big_made : MadeS bigT := ⟨by decide +kernel, by decide⟩
theorem v_SetOf (x : Int) : AEx Tryz.prog 45 [.ref 0 0 0 0] (srcH x) (fun a : TSet × Int => eSet a.1) (fun a => srcH a.2) (fun a => MadeS a.1) := by
 have CL := fun x' => v_Little x' (1 + belX (nextX x) 2) (by have := belX_rg (x := nextX x) (n := 2) (by omega) (by omega); omega)
 unfold AEx srcH
 by_cases ho : belX x 6 = 0
 ·refine acall_ofW (nx := 64) (ne := 1) tysGood (DD_ok tysGood mixed _) Tryz.func45 (by rfl) (by rfl) (by simp [Tryz.ntmps45]) (by simp) ?_; rw [Tryz.ntmps45]; let tb := ord_45; let lv := live_45
  (have fa := @srcH.eq_1; (repeat' first | refine zJ (tg [0]) (v_Odds _ 6 (by omega)) ?_ | refine zS (says_Big) ?_ | refine zQ ?_ | (refine zN ?_; intro K hC hK) | ((repeat clear hJo hJU hJC Jo JU JC); (repeat (fail_if_success (refine hK _ ?_)); clear hK hC K); refine hK _ ?_; clear hK hC K) | (refine zC ?_ ?_ <;> intro hb) | (refine zK ?_; intro Jo JU JC hJo hJU hJC)) <;> (try clear fa))
  refine AW_ret ?_; refine zU ?_; refine ⟨_, .rfl', .inr rfl, ?_, [(0, 0)], 2, ⟨by decide, by decide, by decide⟩, ?_⟩ <;> (have fa := zT; first | exact zE0 | (refine zE ?_; try clear fa))
  exact ⟨(bigT, _), big_made, rfl, rfl⟩
 ·refine acall_ofW (nx := 64) (ne := 1) tysGood (DD_ok tysGood mixed _) Tryz.func45 (by rfl) (by rfl) (by simp [Tryz.ntmps45]) (by simp) ?_; rw [Tryz.ntmps45]; let tb := ord_45; let lv := live_45
  (have fa := @srcH.eq_1; (repeat' first | refine zJ (tg [0]) (v_Odds _ 6 (by omega)) ?_ | refine zJ (tg [0]) (v_Range _ 1 2 (by omega) (by omega) (by omega)) ?_ | refine zQ ?_ | (refine zN ?_; intro K hC hK) | ((repeat clear hJo hJU hJC Jo JU JC); (repeat (fail_if_success (refine hK _ ?_)); clear hK hC K); refine hK _ ?_; clear hK hC K) | (refine zC ?_ ?_ <;> intro hb) | (refine zK ?_; intro Jo JU JC hJo hJU hJC)) <;> (try clear fa))
  (have fa := @srcH.eq_1; refine zX (tg [0]) (CL _) ?_; clear hJo hJU hJC Jo JU JC; (try clear fa)); intro xr hxr
  (have fa := zT; (repeat' first | refine zQ ?_ | (refine zN ?_; intro K hC hK) | ((repeat clear hJo hJU hJC Jo JU JC); (repeat (fail_if_success (refine hK _ ?_)); clear hK hC K); refine hK _ ?_; clear hK hC K) | (refine zC ?_ ?_ <;> intro hb) | (refine zK ?_; intro Jo JU JC hJo hJU hJC)) <;> (try clear fa))
  refine AW_ret ?_; refine zU ?_; refine ⟨_, .rfl', .inr rfl, ?_, [(0, 0)], 2, ⟨by decide, by decide, by decide⟩, ?_⟩ <;> (have fa := zT; first | exact zE0 | (refine zE ?_; try clear fa))
  exact ⟨xr, ⟨hxr.2, hxr.1.fl.2⟩, rfl, rfl⟩
end Go.Proofs.YthblfhgofopcaaaGreat
