/-
  Parts of the proof: WSplits.
-/
import Derived.Test.YthblfhgofopcaaaGreatSP16
import Derived.Test.YthblfhgofopcaaaGreatSP42
import Derived.Test.YthblfhgofopcaaaGreatSP50
set_option linter.all false
namespace Go.Proofs.YthblfhgofopcaaaGreat
open Go.RowKit
set_option maxRecDepth 100000
set_option maxHeartbeats 2000000
theorem splitsM_small (s : TSet) (bag : List Int) : (splitsM s bag).length ≤ 1000000000 ∧ ∀ x ∈ splitsM s bag, x.length ≤ 1000000 := by
 unfold splitsM
 by_cases h : chkErr s = 0 ∧ cntErr s bag = 0 ∧ bag.sum % 3 = 2 ∧ bag.sum ≤ 3 * s.me + 2
 ·rw [if_pos h]
  obtain ⟨_, b2, _⟩ := cnt_sb h.1 h.2.1
  have hK := kinds_bound s
  have hl : bag.length ≤ 60 := by omega
  obtain ⟨a1, a2⟩ := foldS_small (rn := runsB s) (f := 20) (bag := bag) (by omega) bag.length (by omega)
  have h2 : (2 : Nat) ^ 20 = 1048576 := by decide
  refine ⟨Nat.le_trans a1 (by have := Nat.mul_le_mul_right (2 ^ 20) hl; omega), fun x hx => by have := (a2 x hx).2; omega⟩
 ·rw [if_neg h]; exact ⟨by simp, fun x hx => by cases hx⟩
theorem says_eqT (a : List Int) (ha : a.length ≤ 1000000) : ASays Tryz.prog 35 [eInts false a, eInts false a] (B true) := by
 have := says_kEqual a a ha
 rw [decide_eq_true rfl] at this; exact this
theorem says_spT (s : TSet) (bag : List Int) : ASays Tryz.prog 62 [eLL false (splitsM s bag), eLL false (splitsM s bag)] (B true) := by
 have := says_sameSplits (splitsM s bag) (splitsM s bag) (splitsM_small s bag).1 (splitsM_small s bag).2
 rw [decide_eq_true rfl] at this; exact this
theorem tilesI_len (s : TSet) (a b : Int) : (tilesI s a b).length ≤ 4 := by
 unfold tilesI; split
 ·exact tilesL_len _ _
 ·simp
set_option maxHeartbeats 8000000 in
theorem says_WSplits (s : TSet) (g : Gp) (bag nums : List Int) (hn : nums.length ≤ 9223372036854775807) : ASays Tryz.prog 14 [eSet s, eGp g, eInts false bag, eInts false nums] (B true) := by
 have CB : ASays Tryz.prog 17 [eSet s, nilA, .agg [eInts false bag, nilA]] (B (bigB s [] ⟨bag, []⟩)) := asays_arg (.cons .rfl' (.cons (LeV.nil false 3) (.cons (LeV.agg (.cons .rfl' (.cons (LeV.nil false 3) .nil))) .nil))) (says_big s [] ⟨bag, []⟩)
 cases c : bigB s [] ⟨bag, []⟩ with
 | true =>
  rw [c] at CB
  refine acall_ofW (nx := 0) (ne := 0) tysGood (DD_ok tysGood mixed _) Tryz.func14 (by rfl) (by rfl) (by simp [Tryz.ntmps14]) (fun p hp => by cases hp) ?_; rw [Tryz.ntmps14]; let tb := ord_14; let lv := live_14
  (have fa := zT; (repeat' first | refine zS (CB) ?_ | refine zS (says_awake) ?_ | refine zQ ?_ | (refine zN ?_; intro K hC hK) | ((repeat clear hJo hJU hJC Jo JU JC); (repeat (fail_if_success (refine hK _ ?_)); clear hK hC K); refine hK _ ?_; clear hK hC K) | (refine zC ?_ ?_ <;> intro hb) | (refine zK ?_; intro Jo JU JC hJo hJU hJC)) <;> (try clear fa))
  refine AW_ret ?_; refine zU ?_; refine ⟨_, .rfl', .inr rfl, ?_, [], 2, finOk_nil, ?_⟩ <;> (have fa := zT; first | exact zE0 | (refine zE ?_; try clear fa))
 | false =>
  rw [c] at CB
  have hbl : bag.length ≤ 60 := by
   unfold bigB at c
   simp at c
   omega
  clear c
  refine acall_ofW (nx := 0) (ne := 0) tysGood (DD_ok tysGood mixed _) Tryz.func14 (by rfl) (by rfl) (by simp [Tryz.ntmps14]) (fun p hp => by cases hp) ?_; rw [Tryz.ntmps14]; let tb := ord_14; let lv := live_14
  (have fa := zT; (repeat' first | refine zS (CB) ?_ | refine zQ ?_ | (refine zN ?_; intro K hC hK) | ((repeat clear hJo hJU hJC Jo JU JC); (repeat (fail_if_success (refine hK _ ?_)); clear hK hC K); refine hK _ ?_; clear hK hC K) | (refine zC ?_ ?_ <;> intro hb) | (refine zK ?_; intro Jo JU JC hJo hJU hJC)) <;> (try clear fa))
  (have fa := zT; refine zX (tg []) (v_Shape nums hn) ?_; clear hJo hJU hJC Jo JU JC; (try clear fa)); intro xr hxr
  have V := hxr.made.ok
  have hxl := hxr.xl
  have hpl := (plain_kinds V).2.2.2
  obtain ⟨y, t, fs, ms, X, g0⟩ := xr
  dsimp only at V hxl hpl ⊢
  clear hxr
  have hTX : List.take X.length X = X := List.take_length
  (have fa := zT; (repeat' first | refine zQ ?_ | (refine zN ?_; intro K hC hK) | ((repeat clear hJo hJU hJC Jo JU JC); (repeat (fail_if_success (refine hK _ ?_)); clear hK hC K); refine hK _ ?_; clear hK hC K) | (refine zC ?_ ?_ <;> intro hb) | (refine zK ?_; intro Jo JU JC hJo hJU hJC)) <;> (try clear fa))
  refine AW_forC 3 (fun j σ => σ = ⟨900, [(5, .ref 0 0 0 0), (13, .rsl 1 0 0 3), (14, .rsl 2 0 0 3), (15, I j)], [(0, .arr 0 3 [eGp g]), (1, .arr 0 9 [eSet s, eSet t, eSet t]), (2, .arr 0 1 [eInts false bag, eInts true X, eInts false bag])]⟩) [(16, 0), (368, 1), (448, 2)] [(0, 0), (1, 1), (2, 2)] 1 [5, 13, 14, 15] 900 (finOk0 (by decide) (by decide)) (finOk0 (by decide) (by decide)) (by (have fa := hTX; exact zV)) ?_
  rintro j σ' hj rfl J hcJ hJ
  have hj3 : j = 0 ∨ j = 1 ∨ j = 2 ∨ j = 3 := by omega
  rcases hj3 with hj0 | hj0 | hj0 | rfl
  ·
   have CT := says_Tiles s g
   have CRT := says_rTiles s g
   have CE1 := says_eqT (tilesI s g.wh g.kd) (by have := tilesI_len s g.wh g.kd; omega)
   have CSp := says_Splits s bag (by omega)
   have CRS := says_rSplits s bag (by omega)
   have Cs := says_spT s bag
   have CE2 := says_eqT bag (by omega)
   have hTB : List.take bag.length bag = bag := List.take_length
   (have fa := zT; (repeat' first | refine zQs ?_ | (refine zN ?_; intro K hC hK) | ((repeat clear hJo hJU hJC Jo JU JC); (repeat (fail_if_success (refine hK _ ?_)); clear hK hC K); refine hK _ ?_; clear hK hC K) | (refine zK ?_; intro Jo JU JC hJo hJU hJC)) <;> (try clear fa))
   refine AW_isT rfl (by simp; omega) ?_
   refine AW_skip ?_
   repeat first | (with_reducible refine then_normal ?_) | (with_reducible refine block_normal ?_)
   refine hK _ ?_
   clear hK hC K
   with_reducible refine AW_seqC ?_
   intro K hC hK
   with_reducible refine AW_block ?_
   with_reducible refine AW_seqC ?_
   intro K1 hC1 hK1
   have hF := ClK.frz hC1 hK1 [(0, 0), (1, 1), (2, 2)] 1 [5, 13, 14, 15, 16] 990 (finOk0 (by decide) (by decide))
   clear hK1
   (have fa := (And.intro hTB hj0); (repeat' first | refine zQ ?_ | (refine zN ?_; intro K hC hK) | ((repeat clear hJo hJU hJC Jo JU JC); (repeat (fail_if_success (refine hK _ ?_)); clear hK hC K); refine hK _ ?_; clear hK hC K) | (refine zC ?_ ?_ <;> intro hb) | (refine zK ?_; intro Jo JU JC hJo hJU hJC)) <;> (try clear fa))
   refine hF _ [(5, .ref 0 0 0 0), (13, .rsl 1 0 0 3), (14, .rsl 2 0 0 3), (15, I j), (16, eInts true bag)] [(0, .arr 0 3 [eGp g]), (1, .arr 0 9 [eSet s, eSet t, eSet t]), (2, .arr 0 1 [eInts false bag, eInts true X, eInts false bag])] (by (have fa := (And.intro hTB hj0); exact zSE)) ?_
   (have fa := (And.intro hTB (And.intro hj0 @stepDE_cL)); (repeat' first | refine zS (CT) ?_ | refine zS (CRT) ?_ | refine zS (CE1) ?_ | refine zS (CSp) ?_ | refine zS (CRS) ?_ | refine zS (Cs) ?_ | refine zS (CE2) ?_ | refine zQ ?_ | (refine zN ?_; intro K hC hK) | ((repeat clear hJo hJU hJC Jo JU JC); (repeat (fail_if_success (refine hK _ ?_)); clear hK hC K); refine hK _ ?_; clear hK hC K) | (refine zC ?_ ?_ <;> intro hb) | (refine zK ?_; intro Jo JU JC hJo hJU hJC)) <;> (try clear fa))
   first | refine hK _ ?_ | skip
   (have fa := zT; (repeat' first | refine zQ ?_ | (refine zN ?_; intro K hC hK) | ((repeat clear hJo hJU hJC Jo JU JC); (repeat (fail_if_success (refine hK _ ?_)); clear hK hC K); refine hK _ ?_; clear hK hC K) | (refine zC ?_ ?_ <;> intro hb) | (refine zK ?_; intro Jo JU JC hJo hJU hJC)) <;> (try clear fa))
   exact hJ _ (by omega) (by (have fa := hj0; exact zV))
  ·
   have CT := says_Tiles t g
   have CRT := says_rTiles t g
   have CE1 := says_eqT (tilesI t g.wh g.kd) (by have := tilesI_len t g.wh g.kd; omega)
   have CSp := says_Splits t X (by omega)
   have CRS := says_rSplits t X (by omega)
   have Ct := says_spT t X
   have CE2 := says_eqT X (by omega)
   have hTB : List.take X.length X = X := List.take_length
   (have fa := zT; (repeat' first | refine zQs ?_ | (refine zN ?_; intro K hC hK) | ((repeat clear hJo hJU hJC Jo JU JC); (repeat (fail_if_success (refine hK _ ?_)); clear hK hC K); refine hK _ ?_; clear hK hC K) | (refine zK ?_; intro Jo JU JC hJo hJU hJC)) <;> (try clear fa))
   refine AW_isT rfl (by simp; omega) ?_
   refine AW_skip ?_
   repeat first | (with_reducible refine then_normal ?_) | (with_reducible refine block_normal ?_)
   refine hK _ ?_
   clear hK hC K
   with_reducible refine AW_seqC ?_
   intro K hC hK
   with_reducible refine AW_block ?_
   with_reducible refine AW_seqC ?_
   intro K1 hC1 hK1
   have hF := ClK.frz hC1 hK1 [(0, 0), (1, 1), (2, 2)] 1 [5, 13, 14, 15, 16] 990 (finOk0 (by decide) (by decide))
   clear hK1
   (have fa := (And.intro hTB hj0); (repeat' first | refine zQ ?_ | (refine zN ?_; intro K hC hK) | ((repeat clear hJo hJU hJC Jo JU JC); (repeat (fail_if_success (refine hK _ ?_)); clear hK hC K); refine hK _ ?_; clear hK hC K) | (refine zC ?_ ?_ <;> intro hb) | (refine zK ?_; intro Jo JU JC hJo hJU hJC)) <;> (try clear fa))
   refine hF _ [(5, .ref 0 0 0 0), (13, .rsl 1 0 0 3), (14, .rsl 2 0 0 3), (15, I j), (16, eInts true X)] [(0, .arr 0 3 [eGp g]), (1, .arr 0 9 [eSet s, eSet t, eSet t]), (2, .arr 0 1 [eInts false bag, eInts true X, eInts false bag])] (by (have fa := (And.intro hTB hj0); exact zSE)) ?_
   (have fa := (And.intro hTB (And.intro hj0 @stepDE_cL)); (repeat' first | refine zS (CT) ?_ | refine zS (CRT) ?_ | refine zS (CE1) ?_ | refine zS (CSp) ?_ | refine zS (CRS) ?_ | refine zS (Ct) ?_ | refine zS (CE2) ?_ | refine zQ ?_ | (refine zN ?_; intro K hC hK) | ((repeat clear hJo hJU hJC Jo JU JC); (repeat (fail_if_success (refine hK _ ?_)); clear hK hC K); refine hK _ ?_; clear hK hC K) | (refine zC ?_ ?_ <;> intro hb) | (refine zK ?_; intro Jo JU JC hJo hJU hJC)) <;> (try clear fa))
   first | refine hK _ ?_ | skip
   (have fa := zT; (repeat' first | refine zQ ?_ | (refine zN ?_; intro K hC hK) | ((repeat clear hJo hJU hJC Jo JU JC); (repeat (fail_if_success (refine hK _ ?_)); clear hK hC K); refine hK _ ?_; clear hK hC K) | (refine zC ?_ ?_ <;> intro hb) | (refine zK ?_; intro Jo JU JC hJo hJU hJC)) <;> (try clear fa))
   exact hJ _ (by omega) (by (have fa := hj0; exact zV))
  ·
   have CT := says_Tiles t g
   have CRT := says_rTiles t g
   have CE1 := says_eqT (tilesI t g.wh g.kd) (by have := tilesI_len t g.wh g.kd; omega)
   have CSp := says_Splits t bag (by omega)
   have CRS := says_rSplits t bag (by omega)
   have Ct := says_spT t bag
   have CE2 := says_eqT bag (by omega)
   have hTB : List.take bag.length bag = bag := List.take_length
   (have fa := zT; (repeat' first | refine zQs ?_ | (refine zN ?_; intro K hC hK) | ((repeat clear hJo hJU hJC Jo JU JC); (repeat (fail_if_success (refine hK _ ?_)); clear hK hC K); refine hK _ ?_; clear hK hC K) | (refine zK ?_; intro Jo JU JC hJo hJU hJC)) <;> (try clear fa))
   refine AW_isT rfl (by simp; omega) ?_
   refine AW_skip ?_
   repeat first | (with_reducible refine then_normal ?_) | (with_reducible refine block_normal ?_)
   refine hK _ ?_
   clear hK hC K
   with_reducible refine AW_seqC ?_
   intro K hC hK
   with_reducible refine AW_block ?_
   with_reducible refine AW_seqC ?_
   intro K1 hC1 hK1
   have hF := ClK.frz hC1 hK1 [(0, 0), (1, 1), (2, 2)] 1 [5, 13, 14, 15, 16] 990 (finOk0 (by decide) (by decide))
   clear hK1
   (have fa := (And.intro hTB hj0); (repeat' first | refine zQ ?_ | (refine zN ?_; intro K hC hK) | ((repeat clear hJo hJU hJC Jo JU JC); (repeat (fail_if_success (refine hK _ ?_)); clear hK hC K); refine hK _ ?_; clear hK hC K) | (refine zC ?_ ?_ <;> intro hb) | (refine zK ?_; intro Jo JU JC hJo hJU hJC)) <;> (try clear fa))
   refine hF _ [(5, .ref 0 0 0 0), (13, .rsl 1 0 0 3), (14, .rsl 2 0 0 3), (15, I j), (16, eInts true bag)] [(0, .arr 0 3 [eGp g]), (1, .arr 0 9 [eSet s, eSet t, eSet t]), (2, .arr 0 1 [eInts false bag, eInts true X, eInts false bag])] (by (have fa := (And.intro hTB hj0); exact zSE)) ?_
   (have fa := (And.intro hTB (And.intro hj0 @stepDE_cL)); (repeat' first | refine zS (CT) ?_ | refine zS (CRT) ?_ | refine zS (CE1) ?_ | refine zS (CSp) ?_ | refine zS (CRS) ?_ | refine zS (Ct) ?_ | refine zS (CE2) ?_ | refine zQ ?_ | (refine zN ?_; intro K hC hK) | ((repeat clear hJo hJU hJC Jo JU JC); (repeat (fail_if_success (refine hK _ ?_)); clear hK hC K); refine hK _ ?_; clear hK hC K) | (refine zC ?_ ?_ <;> intro hb) | (refine zK ?_; intro Jo JU JC hJo hJU hJC)) <;> (try clear fa))
   first | refine hK _ ?_ | skip
   (have fa := zT; (repeat' first | refine zQ ?_ | (refine zN ?_; intro K hC hK) | ((repeat clear hJo hJU hJC Jo JU JC); (repeat (fail_if_success (refine hK _ ?_)); clear hK hC K); refine hK _ ?_; clear hK hC K) | (refine zC ?_ ?_ <;> intro hb) | (refine zK ?_; intro Jo JU JC hJo hJU hJC)) <;> (try clear fa))
   exact hJ _ (by omega) (by (have fa := hj0; exact zV))
  ·(have fa := zT; (repeat' first | refine zS (says_awake) ?_ | refine zQ ?_ | (refine zN ?_; intro K hC hK) | ((repeat clear hJo hJU hJC Jo JU JC); (repeat (fail_if_success (refine hK _ ?_)); clear hK hC K); refine hK _ ?_; clear hK hC K) | (refine zC ?_ ?_ <;> intro hb) | (refine zK ?_; intro Jo JU JC hJo hJU hJC)) <;> (try clear fa))
   refine AW_ret ?_; refine zU ?_; refine ⟨_, .rfl', .inr rfl, ?_, [], 2, finOk_nil, ?_⟩ <;> (have fa := zT; first | exact zE0 | (refine zE ?_; try clear fa))
theorem ints_len {W : World} {v : Value} {zs : List Int} (h : IsInts W v zs) : zs.length ≤ 9223372036854775807 := by
 obtain ⟨_, _, _, h1, h2, _⟩ := h
 unfold maxLen at h2
 omega
theorem walkShapeSplits (v0 : Value) (s : TSet) (g : Gp) (v2 : Value) (bag : List Int) (v3 : Value) (nums : List Int) (W : World) (w0 : IsSet W v0 s) (_x0 : SetIn s) (w2 : IsInts W v2 bag) (_x2 : ∀ z ∈ bag, (Lit.int .i64 z).wf = true) (w3 : IsInts W v3 nums) (_x3 : ∀ z ∈ nums, (Lit.int .i64 z).wf = true) :
  Calls Tryz.prog 14 #[v0, .agg #[.int .i64 g.wh, .int .i64 g.kd, .bool g.op], v2, v3] W (Gives W (.bool true)) := by
 refine walk_of (says_WSplits s g bag nums (ints_len w3)) ⟨rfl, fun i x y hx hy => ?_⟩
 match i, hx, hy with
 | 0, hx, hy => simp at hx hy; subst hx hy; exact rel_of_set w0
 | 1, hx, hy => simp at hx hy; subst hx hy; exact rel_of_gp W g
 | 2, hx, hy => simp at hx hy; subst hx hy; exact rel_of_ints w2
 | 3, hx, hy => simp at hx hy; subst hx hy; exact rel_of_ints w3
 | n + 4, hx, hy => simp at hx
end Go.Proofs.YthblfhgofopcaaaGreat
