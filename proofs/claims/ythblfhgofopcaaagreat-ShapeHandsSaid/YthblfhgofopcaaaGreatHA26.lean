/-
  Parts of the proof: LibB, LibC.
-/
import Derived.Test.YthblfhgofopcaaaGreatHA14
import Derived.Test.YthblfhgofopcaaaGreatHA25
set_option linter.all false
namespace Go.Proofs.YthblfhgofopcaaaGreat
open Go.RowKit
set_option maxRecDepth 100000
set_option maxHeartbeats 2000000
theorem eq_of_get {α : Type} {a b : List α} (hl : a.length = b.length) (h : ∀ i, (h1 : i < a.length) → (h2 : i < b.length) → a[i] = b[i]) : a = b := List.ext_getElem hl h
theorem says_EqualI (a b : List Int) (ha : a.length ≤ 1000000) : ASays Tryz.prog 77 [eInts false a, eInts false b] (B (decide (a = b))) := by
 refine acall_of (nx := 0) (ne := 0) tysGood (DD_ok tysGood mixed _) Tryz.func77 (by rfl) (by rfl) (by simp [Tryz.ntmps77]) (fun p hp => by cases hp) ?_; rw [Tryz.ntmps77]; let tb := ord_77
 (have fa := zT; (repeat first | refine zG ?_ | ((with_reducible refine AW_seq ?_); intro K hK) | ((repeat (fail_if_success (refine hK _ ?_)); clear hK K); refine hK _ ?_; clear hK K)); (try clear fa))
 refine AW_cond rfl ⟨fun h => ?_, fun h => ?_⟩
 ·have hne : ¬ a.length = b.length := by simp at h; omega
  (have fa := zT; (repeat first | refine zG ?_ | ((with_reducible refine AW_seq ?_); intro K hK) | ((repeat (fail_if_success (refine hK _ ?_)); clear hK K); refine hK _ ?_; clear hK K)); (try clear fa))
  refine AW_ret ?_; refine ⟨.inr rfl, ?_, [], 2, finOk_nil, ?_⟩ <;> (have fa := zT; first | exact zE0 | (refine zE ?_; try clear fa))
  have : a ≠ b := fun e => hne (by rw [e])
  simp [this]
 ·have he : a.length = b.length := by simp at h; omega
  clear h
  (have fa := zT; (repeat first | refine zG ?_ | ((with_reducible refine AW_seq ?_); intro K hK) | ((repeat (fail_if_success (refine hK _ ?_)); clear hK K); refine hK _ ?_; clear hK K)); (try clear fa))
  refine AW_for a.length (fun k => ∀ i, (h1 : i < a.length) → (h2 : i < b.length) → i < k → a[i] = b[i]) (fun k => ⟨80, [(0, eInts false a), (1, eInts false b), (12, I a.length), (13, I k)], []⟩) [] 0 [0, 1, 12, 13] 80 finOk_nil (fun i _ _ h => absurd h (Nat.not_lt_zero i)) (by (have fa := zT; exact zV)) ?_
  intro k hk hR J hJ
  (have fa := zT; (repeat first | refine zG ?_ | ((with_reducible refine AW_seq ?_); intro K hK) | ((repeat (fail_if_success (refine hK _ ?_)); clear hK K); refine hK _ ?_; clear hK K)); (try clear fa))
  refine AW_cond rfl ⟨fun h => ?_, fun h => ?_⟩
  ·have hlt : k < a.length := by simpa using h
   have hlt' : k < b.length := by omega
   clear h
   (have fa := (And.intro hlt hlt'); (repeat first | refine zG ?_ | ((with_reducible refine AW_seq ?_); intro K hK) | ((repeat (fail_if_success (refine hK _ ?_)); clear hK K); refine hK _ ?_; clear hK K)); (try clear fa))
   refine AW_cond rfl ⟨fun h => ?_, fun h => ?_⟩
   ·have hne : a[k] ≠ b[k] := by simpa using h
    (have fa := zT; (repeat first | refine zG ?_ | ((with_reducible refine AW_seq ?_); intro K hK) | ((repeat (fail_if_success (refine hK _ ?_)); clear hK K); refine hK _ ?_; clear hK K)); (try clear fa))
    refine AW_ret ?_; refine ⟨.inr rfl, ?_, [], 2, finOk_nil, ?_⟩ <;> (have fa := zT; first | exact zE0 | (refine zE ?_; try clear fa))
    have : a ≠ b := fun e => hne (by simp [e])
    simp [this]
   ·have he' : a[k] = b[k] := by simpa using h
    clear h
    (have fa := (vwrap_succ (show k < 9223372036854775807 by omega)); (repeat first | refine zG ?_ | ((with_reducible refine AW_seq ?_); intro K hK) | ((repeat (fail_if_success (refine hK _ ?_)); clear hK K); refine hK _ ?_; clear hK K)); (try clear fa))
    refine hJ _ hlt (fun i h1 h2 h3 => ?_) (by (have fa := zT; exact zV))
    by_cases hi : i = k
    ·subst hi; exact he'
    ·exact hR i h1 h2 (by omega)
  ·have hk' : k = a.length := by have : ¬ k < a.length := by simpa using h
                                 omega
   subst hk'
   clear h
   (have fa := zT; (repeat first | refine zG ?_ | ((with_reducible refine AW_seq ?_); intro K hK) | ((repeat (fail_if_success (refine hK _ ?_)); clear hK K); refine hK _ ?_; clear hK K)); (try clear fa))
   refine AW_ret ?_; refine ⟨.inr rfl, ?_, [], 2, finOk_nil, ?_⟩ <;> (have fa := zT; first | exact zE0 | (refine zE ?_; try clear fa))
   have : a = b := eq_of_get he fun i h1 h2 => hR i h1 h2 h1
   simp [this]
theorem gp_beq (x y : Gp) : (x.wh == y.wh && (x.kd == y.kd && (x.op == y.op && true))) = decide (x = y) := by
 cases x; cases y; simp only [Bool.and_true, Gp.mk.injEq]
 rw [Bool.eq_iff_iff]; simp
theorem says_EqualG (a b : List Gp) (ha : a.length ≤ 1000000) : ASays Tryz.prog 117 [eGps false a, eGps false b] (B (decide (a = b))) := by
 refine acall_of (nx := 0) (ne := 0) tysGood (DD_ok tysGood mixed _) Tryz.func117 (by rfl) (by rfl) (by simp [Tryz.ntmps117]) (fun p hp => by cases hp) ?_; rw [Tryz.ntmps117]; let tb := ord_117
 (have fa := zT; (repeat first | refine zG ?_ | ((with_reducible refine AW_seq ?_); intro K hK) | ((repeat (fail_if_success (refine hK _ ?_)); clear hK K); refine hK _ ?_; clear hK K)); (try clear fa))
 refine AW_cond rfl ⟨fun h => ?_, fun h => ?_⟩
 ·have hne : ¬ a.length = b.length := by simp at h; omega
  (have fa := zT; (repeat first | refine zG ?_ | ((with_reducible refine AW_seq ?_); intro K hK) | ((repeat (fail_if_success (refine hK _ ?_)); clear hK K); refine hK _ ?_; clear hK K)); (try clear fa))
  refine AW_ret ?_; refine ⟨.inr rfl, ?_, [], 2, finOk_nil, ?_⟩ <;> (have fa := zT; first | exact zE0 | (refine zE ?_; try clear fa))
  have : a ≠ b := fun e => hne (by rw [e])
  simp [this]
 ·have he : a.length = b.length := by simp at h; omega
  clear h
  (have fa := zT; (repeat first | refine zG ?_ | ((with_reducible refine AW_seq ?_); intro K hK) | ((repeat (fail_if_success (refine hK _ ?_)); clear hK K); refine hK _ ?_; clear hK K)); (try clear fa))
  refine AW_for a.length (fun k => ∀ i, (h1 : i < a.length) → (h2 : i < b.length) → i < k → a[i] = b[i]) (fun k => ⟨80, [(0, eGps false a), (1, eGps false b), (12, I a.length), (13, I k)], []⟩) [] 0 [0, 1, 12, 13] 80 finOk_nil (fun i _ _ h => absurd h (Nat.not_lt_zero i)) (by (have fa := zT; exact zV)) ?_
  intro k hk hR J hJ
  (have fa := zT; (repeat first | refine zG ?_ | ((with_reducible refine AW_seq ?_); intro K hK) | ((repeat (fail_if_success (refine hK _ ?_)); clear hK K); refine hK _ ?_; clear hK K)); (try clear fa))
  refine AW_cond rfl ⟨fun h => ?_, fun h => ?_⟩
  ·have hlt : k < a.length := by simpa using h
   have hlt' : k < b.length := by omega
   clear h
   (have fa := (And.intro hlt (And.intro hlt' (And.intro @eGp.eq_1 (And.intro @bne.eq_1.{0} @gp_beq)))); (repeat first | refine zG ?_ | ((with_reducible refine AW_seq ?_); intro K hK) | ((repeat (fail_if_success (refine hK _ ?_)); clear hK K); refine hK _ ?_; clear hK K)); (try clear fa))
   refine AW_cond rfl ⟨fun h => ?_, fun h => ?_⟩
   ·have hne : a[k] ≠ b[k] := by simpa [gp_beq] using h
    (have fa := zT; (repeat first | refine zG ?_ | ((with_reducible refine AW_seq ?_); intro K hK) | ((repeat (fail_if_success (refine hK _ ?_)); clear hK K); refine hK _ ?_; clear hK K)); (try clear fa))
    refine AW_ret ?_; refine ⟨.inr rfl, ?_, [], 2, finOk_nil, ?_⟩ <;> (have fa := zT; first | exact zE0 | (refine zE ?_; try clear fa))
    have : a ≠ b := fun e => hne (by simp [e])
    simp [this]
   ·have he' : a[k] = b[k] := by simpa [gp_beq] using h
    clear h
    (have fa := (vwrap_succ (show k < 9223372036854775807 by omega)); (repeat first | refine zG ?_ | ((with_reducible refine AW_seq ?_); intro K hK) | ((repeat (fail_if_success (refine hK _ ?_)); clear hK K); refine hK _ ?_; clear hK K)); (try clear fa))
    refine hJ _ hlt (fun i h1 h2 h3 => ?_) (by (have fa := zT; exact zV))
    by_cases hi : i = k
    ·subst hi; exact he'
    ·exact hR i h1 h2 (by omega)
  ·have hk' : k = a.length := by have : ¬ k < a.length := by simpa using h
                                 omega
   subst hk'
   clear h
   (have fa := zT; (repeat first | refine zG ?_ | ((with_reducible refine AW_seq ?_); intro K hK) | ((repeat (fail_if_success (refine hK _ ?_)); clear hK K); refine hK _ ?_; clear hK K)); (try clear fa))
   refine AW_ret ?_; refine ⟨.inr rfl, ?_, [], 2, finOk_nil, ?_⟩ <;> (have fa := zT; first | exact zE0 | (refine zE ?_; try clear fa))
   have : a = b := eq_of_get he fun i h1 h2 => hR i h1 h2 h1
   simp [this]
def idxB {α : Type} (p : α → Bool) : List α → Int
 | [] => -1
 | x :: l => if p x = true then 0 else if idxB p l < 0 then -1 else idxB p l + 1
theorem idxB_none {α : Type} {p : α → Bool} {l : List α} (h : ∀ i, (h1 : i < l.length) → p l[i] = false) : idxB p l = -1 := by
 induction l with
 | nil => rfl
 | cons x l ih =>
  have h0 := h 0 (by simp)
  simp only [List.getElem_cons_zero] at h0
  have := ih fun i h1 => by have := h (i + 1) (by simpa using h1); simpa using this
  simp only [idxB, h0, this]; rfl
theorem idxB_some {α : Type} {p : α → Bool} : ∀ {l : List α} {k : Nat} (hk : k < l.length), (∀ i, (h1 : i < l.length) → i < k → p l[i] = false) → p l[k] = true → idxB p l = k
 | x :: l, 0, _, _, h => by simp only [List.getElem_cons_zero] at h; simp [idxB, h]
 | x :: l, k + 1, hk, h, hp => by
  have h0 := h 0 (by simp) (by omega)
  simp only [List.getElem_cons_zero] at h0
  have := idxB_some (l := l) (k := k) (by simpa using hk) (fun i h1 h2 => by have := h (i + 1) (by simpa using h1) (by omega); simpa using this) (by simpa using hp)
  simp only [idxB, h0, this]
  rw [if_neg (by simp), if_neg (by omega)]; omega
theorem idxB_iff {α : Type} (p : α → Bool) (l : List α) : idxB p l ≥ 0 ↔ l.any p = true := by
 induction l with
 | nil => simp [idxB]
 | cons x l ih =>
  simp only [idxB, List.any_cons, Bool.or_eq_true]
  by_cases h : p x = true
  ·simp [h]
  ·rw [if_neg h]
   split
   ·rename_i h2
    constructor
    ·intro h3; omega
    ·rintro (h3 | h3)
     ·exact absurd h3 h
     ·exact absurd (ih.2 h3) (by omega)
   ·rename_i h2
    exact ⟨fun _ => .inr (ih.1 (by omega)), fun _ => by omega⟩
theorem idxB_any {α : Type} (p : α → Bool) (l : List α) : decide (idxB p l ≥ 0) = l.any p := by
 rw [Bool.eq_iff_iff, decide_eq_true_iff]; exact idxB_iff p l
theorem says_Index (a : List Int) (x : Int) (ha : a.length ≤ 1000000) : ASays Tryz.prog 140 [eInts false a, I x] (I (idxB (fun y => x == y) a)) := by
 refine acall_of (nx := 0) (ne := 0) tysGood (DD_ok tysGood mixed _) Tryz.func140 (by rfl) (by rfl) (by simp [Tryz.ntmps140]) (fun p hp => by cases hp) ?_; rw [Tryz.ntmps140]; let tb := ord_140
 (have fa := zT; (repeat first | refine zG ?_ | ((with_reducible refine AW_seq ?_); intro K hK) | ((repeat (fail_if_success (refine hK _ ?_)); clear hK K); refine hK _ ?_; clear hK K)); (try clear fa))
 refine AW_for a.length (fun k => ∀ i, (h1 : i < a.length) → i < k → (x == a[i]) = false) (fun k => ⟨80, [(0, eInts false a), (1, I x), (7, I a.length), (8, I k)], []⟩) [] 0 [0, 1, 7, 8] 80 finOk_nil (fun i _ h => absurd h (Nat.not_lt_zero i)) (by (have fa := zT; exact zV)) ?_
 intro k hk hR J hJ
 (have fa := zT; (repeat first | refine zG ?_ | ((with_reducible refine AW_seq ?_); intro K hK) | ((repeat (fail_if_success (refine hK _ ?_)); clear hK K); refine hK _ ?_; clear hK K)); (try clear fa))
 refine AW_cond rfl ⟨fun h => ?_, fun h => ?_⟩
 ·have hlt : k < a.length := by simpa using h
  clear h
  (have fa := hlt; (repeat first | refine zG ?_ | ((with_reducible refine AW_seq ?_); intro K hK) | ((repeat (fail_if_success (refine hK _ ?_)); clear hK K); refine hK _ ?_; clear hK K)); (try clear fa))
  refine AW_cond rfl ⟨fun h => ?_, fun h => ?_⟩
  ·(have fa := zT; (repeat first | refine zG ?_ | ((with_reducible refine AW_seq ?_); intro K hK) | ((repeat (fail_if_success (refine hK _ ?_)); clear hK K); refine hK _ ?_; clear hK K)); (try clear fa))
   refine AW_ret ?_; refine ⟨.inr rfl, ?_, [], 2, finOk_nil, ?_⟩ <;> (have fa := zT; first | exact zE0 | (refine zE ?_; try clear fa))
   rw [idxB_some hlt hR h]
  ·(have fa := (vwrap_succ (show k < 9223372036854775807 by omega)); (repeat first | refine zG ?_ | ((with_reducible refine AW_seq ?_); intro K hK) | ((repeat (fail_if_success (refine hK _ ?_)); clear hK K); refine hK _ ?_; clear hK K)); (try clear fa))
   refine hJ _ hlt (fun i h1 h3 => ?_) (by (have fa := zT; exact zV))
   by_cases hi : i = k
   ·subst hi; exact h
   ·exact hR i h1 (by omega)
 ·have hk' : k = a.length := by have : ¬ k < a.length := by simpa using h
                                omega
  subst hk'
  clear h
  (have fa := zT; (repeat first | refine zG ?_ | ((with_reducible refine AW_seq ?_); intro K hK) | ((repeat (fail_if_success (refine hK _ ?_)); clear hK K); refine hK _ ?_; clear hK K)); (try clear fa))
  refine AW_ret ?_; refine ⟨.inr rfl, ?_, [], 2, finOk_nil, ?_⟩ <;> (have fa := zT; first | exact zE0 | (refine zE ?_; try clear fa))
  rw [idxB_none fun i h1 => hR i h1 h1]
theorem says_Contains (a : List Int) (x : Int) (ha : a.length ≤ 1000000) : ASays Tryz.prog 90 [eInts false a, I x] (B (a.any fun y => x == y)) := by
 refine acall_of (nx := 0) (ne := 0) tysGood (DD_ok tysGood mixed _) Tryz.func90 (by rfl) (by rfl) (by simp [Tryz.ntmps90]) (fun p hp => by cases hp) ?_; rw [Tryz.ntmps90]; let tb := ord_90
 (have fa := zT; (repeat first | refine zG ?_ | ((with_reducible refine AW_seq ?_); intro K hK) | ((repeat (fail_if_success (refine hK _ ?_)); clear hK K); refine hK _ ?_; clear hK K)); (try clear fa))
 (have fa := zT; refine zW (says_Index a x ha) ?_; (try clear fa))
 (have fa := zT; (repeat first | refine zG ?_ | ((with_reducible refine AW_seq ?_); intro K hK) | ((repeat (fail_if_success (refine hK _ ?_)); clear hK K); refine hK _ ?_; clear hK K)); (try clear fa))
 refine AW_ret ?_; refine ⟨.inr rfl, ?_, [], 2, finOk_nil, ?_⟩ <;> (have fa := zT; first | exact zE0 | (refine zE ?_; try clear fa))
 rw [idxB_any]
end Go.Proofs.YthblfhgofopcaaaGreat

namespace Go.Proofs.YthblfhgofopcaaaGreat
open Go.RowKit
set_option maxRecDepth 100000
set_option maxHeartbeats 2000000
theorem asays_tup2 {P : Program} {f : Nat} {ys : List AV} {x y : Value} (hE : Ent P f) (h : ∀ (c : Cx) (vals : Array Value), RelL c (fun _ => .nil) ys vals → Calls P f vals c.w fun e w' => e = .returned (.tuple #[x, y]) ∧ Grow c.w w') : ASays P f ys (.tup [.v x, .v y]) := by
 refine ⟨hE, fun c vals _ _ hx => (h c vals hx).mono ?_⟩
 rintro e w' ⟨rfl, g⟩
 refine ⟨_, _, [], { c with w := w' }, rfl, rfl, ⟨rfl, rfl⟩, Keep.grow g (.inl rfl), ⟨(fun r g sz es hr => by cases hr), (fun r g sz es hr => by cases hr), (fun r r1 g g1 sz sz1 es es1 hr => by cases hr)⟩, .tup _ _ rfl fun i u v hu hv => ?_⟩
 match i, hu, hv with
 | 0, hu, hv => simp at hu hv; subst hu hv; exact .v _
 | 1, hu, hv => simp at hu hv; subst hu hv; exact .v _
 | i + 2, hu, hv => simp at hu
theorem says_Mul (n : Nat) (hn : n ≤ 1000000) : ASays Tryz.prog 154 [.v (.int .u64 1), .v (.int .u64 n)] (.tup [.v (.int .u64 0), .v (.int .u64 n)]) := asays_tup2 ⟨_, _, Tryz.func154, rfl, rfl⟩ fun c vals hx => by
 obtain ⟨v, v', rfl, k1, k2⟩ := relL_2 hx
 have := inv_v k1; subst this
 have := inv_v k2; subst this
 refine (Tryz.bits_Mul 1 n (by omega) (by omega) c.w).mono ?_
 rintro e w' h
 obtain ⟨rfl, rfl⟩ := h
 rw [Nat.one_mul, Nat.div_eq_of_lt (by omega), Nat.mod_eq_of_lt (by omega)]
 exact ⟨rfl, Grow.refl _⟩
def repW (x z : AV) (n c : Nat) : List AV := List.replicate c x ++ List.replicate (n - c) z
theorem repW_len {x z : AV} {n c : Nat} (h : c ≤ n) : (repW x z n c).length = n := by simp [repW]; omega
theorem repW_zero (x z : AV) (n : Nat) : repW x z n 0 = List.replicate n z := by simp [repW]
theorem repW_full (x z : AV) (n : Nat) : repW x z n n = List.replicate n x := by simp [repW]
theorem repW_take {x z : AV} {n c : Nat} : (repW x z n c).take c = List.replicate c x := by simp [repW]
theorem repW_step {x z : AV} {n c m : Nat} (h : c + m ≤ n) (hm : m ≤ c) : List.replicate c x ++ ((List.replicate c x).take m ++ (repW x z n c).drop (c + m)) = repW x z n (c + m) := by
 unfold repW
 rw [List.take_replicate, Nat.min_eq_left hm, ← List.append_assoc, List.replicate_append_replicate, List.drop_append, List.drop_of_length_le (by simp), List.nil_append, List.drop_replicate]
 congr 2
 simp; omega
theorem finL_rep {inv : Nat → Option Nat} {F : Nat → Nat → Nat → Nat → AV} {x : AV} (hx : x.fin inv F = x) (n : Nat) : finL inv F (List.replicate n x) = List.replicate n x := by
 rw [finL_map, List.map_replicate, hx]
theorem finL_repW {inv : Nat → Option Nat} {F : Nat → Nat → Nat → Nat → AV} {x z : AV} (hx : x.fin inv F = x) (hz : z.fin inv F = z) (n c : Nat) : finL inv F (repW x z n c) = repW x z n c := by
 unfold repW; rw [finL_append, finL_rep hx, finL_rep hz]
theorem one_rep {x : AV} {n : Nat} (hx : ∀ v ∈ x.cs, v.one = true) : (∀ u ∈ List.replicate n x, ∀ v ∈ u.cs, v.one = true) = True := by
 simp only [eq_iff_iff, iff_true]
 intro u hu
 rw [List.eq_of_mem_replicate hu]; exact hx
theorem repeatI (X : AV) (n : Nat) (hs : X.cs.length = 1) (ox : ∀ v ∈ X.cs, v.one = true) (fx : ∀ inv F, X.fin inv F = X) (hn : n ≤ 1000000) : ASays Tryz.prog 113 [.sl false 1 [X], I n] (.sl true 1 (List.replicate n X)) := by
 refine acall_of (nx := 0) (ne := 0) tysGood (DD_ok tysGood mixed _) Tryz.func113 (by rfl) (by rfl) (by simp [Tryz.ntmps113]) (fun p hp => by cases hp) ?_; rw [Tryz.ntmps113]; let tb := ord_113
 have n0 : ¬ (n : Int) < 0 := by omega
 have n1 : IntKind.u64.wrap (n : Int) = n := by simp only [IntKind.wrap, IntKind.bits, IntKind.signed]; simp; omega
 have n2 : IntKind.i64.wrap (n : Int) = n := vwrap_in (by omega) (by omega)
 have n3 : ¬ (9223372036854775807 : Int) < n := by omega
 have n4 : (8 : Int) * n ≤ 281474976710656 := by omega
 have n5 : (n : Int) ≤ 9223372036854775807 := by omega
 have n6 : IntKind.u64.wrap 1 = 1 := rfl
 (have fa := (And.intro n0 @gt_iff_lt.{0}); (repeat first | refine zG ?_ | ((with_reducible refine AW_seq ?_); intro K hK) | ((repeat (fail_if_success (refine hK _ ?_)); clear hK K); refine hK _ ?_; clear hK K)); (try clear fa))
 (have fa := (And.intro n1 n6); refine zW (says_Mul n hn) ?_; (try clear fa))
 obtain ⟨z, hz⟩ : ∃ z : AV, z = (.v (.int .i64 0)) := ⟨_, rfl⟩
 have fz : ∀ inv F, z.fin inv F = z := fun _ _ => by rw [hz]; rfl
 have oz : ∀ v ∈ z.cs, v.one = true := by rw [hz]; intro v hv; simp [AV.cs] at hv; subst hv; rfl
 have ox' := eq_true ox
 by_cases h0 : n = 0
 ·subst h0
  have m0 : min 1 0 = 0 := rfl
  (have fa := (And.intro n1 (And.intro n2 (And.intro n3 (And.intro n4 (And.intro n5 (And.intro @gt_iff_lt.{0} (And.intro m0 (And.intro Int.mul_zero ox')))))))); (repeat first | refine zG ?_ | ((with_reducible refine AW_seq ?_); intro K hK) | ((repeat (fail_if_success (refine hK _ ?_)); clear hK K); refine hK _ ?_; clear hK K)); (try clear fa))
  refine AW_for2 0 (fun _ => True) (fun _ => ⟨80, [(7, .rsl 1 0 0 0), (8, I 0)], [(1, .arr 0 1 [])]⟩) [(352, 1)] [(1, 1)] 0 [7, 8] 80 (finOk0 (by decide) (by decide)) (finOk0 (by decide) (by decide)) trivial (by (have fa := zT; exact zV)) ?_
  intro k hk _ J hJ
  (have fa := zT; (repeat first | refine zG ?_ | ((with_reducible refine AW_seq ?_); intro K hK) | ((repeat (fail_if_success (refine hK _ ?_)); clear hK K); refine hK _ ?_; clear hK K)); (try clear fa))
  refine AW_ret ?_; refine ⟨.inr rfl, ?_, [], 2, finOk_nil, ?_⟩ <;> (have fa := zT; first | exact zE0 | (refine zE ?_; try clear fa))
 ·have m1 : min 1 n = 1 := by omega
  have e0 : List.replicate n (.v (.int .i64 0)) = repW X z n 0 := by rw [repW_zero, hz]
  have e1 : X :: (repW X z n 0).drop 1 = repW X z n 1 := by
   rw [repW_zero]; simp [repW, List.drop_replicate]
  have l0 : 1 ≤ n := by omega
  (have fa := (And.intro n1 (And.intro n2 (And.intro n3 (And.intro n4 (And.intro n5 (And.intro @gt_iff_lt.{0} (And.intro m1 (And.intro e0 (And.intro (fun x z => repW_len (x := x) (z := z) (Nat.zero_le n)) (And.intro ox' (And.intro e1 (fun x z => repW_len (x := x) (z := z) l0)))))))))))); (repeat first | refine zG ?_ | ((with_reducible refine AW_seq ?_); intro K hK) | ((repeat (fail_if_success (refine hK _ ?_)); clear hK K); refine hK _ ?_; clear hK K)); (try clear fa))
  refine AW_loop2 (fun m σ => ∃ c, 1 ≤ c ∧ c ≤ n ∧ m = n - c ∧ σ = ⟨80, [(7, .rsl 1 0 0 n), (8, I c)], [(1, .arr 0 1 (repW X z n c))]⟩) [(352, 1)] [(1, 1)] 0 [7, 8] 80 (finOk0 (by decide) (by decide)) (finOk0 (by decide) (by decide)) ⟨_, 1, Nat.le_refl _, l0, rfl, ?_⟩ ?_
  ·(have fa := (fun i f => finL_repW (fx i f) (fz i f)); first | exact zE0 | (refine zE ?_; try clear fa))
  ·rintro m σ ⟨c, hc1, hc2, rfl, rfl⟩ J hJ
   (have fa := zT; (repeat first | refine zG ?_ | ((with_reducible refine AW_seq ?_); intro K hK) | ((repeat (fail_if_success (refine hK _ ?_)); clear hK K); refine hK _ ?_; clear hK K)); (try clear fa))
   refine AW_cond rfl ⟨fun h => ?_, fun h => ?_⟩
   ·have hlt : c < n := by simpa using h
    clear h
    have hc0 : (c : Int) ≤ n := by omega
    have c0 : (0 : Int) ≤ c := by omega
    have q1 : ((n : Int) - (c : Int)).toNat = n - c := by omega
    have q2 : ((c : Int) - 0).toNat = c := by omega
    have q3 : c + (n - c) ≤ n := by omega
    have q4 : min (min c n) (n - c) = min c (n - c) := by omega
    have q5 : List.take c (repW X z n c) = List.replicate c X := repW_take
    have q6 := repW_step (x := X) (z := z) (n := n) (c := c) (m := min c (n - c)) (by omega) (by omega)
    rw [List.take_replicate] at q6
    have q7 : IntKind.i64.wrap ((c : Int) + ((min c (n - c) : Nat) : Int)) = ((c + min c (n - c) : Nat) : Int) := by rw [vwrap_in (by omega) (by omega)]; omega
    (have fa := (And.intro hc0 (And.intro c0 (And.intro q1 (And.intro q2 (And.intro (fun x z => repW_len (x := x) (z := z) hc2) (And.intro q3 (And.intro q4 (And.intro q5 (And.intro hc2 (And.intro @List.length_replicate.{0} (And.intro (fun n => one_rep (n := n) ox) (And.intro Int.sub_zero (And.intro @List.take_replicate.{0} (And.intro q6 q7)))))))))))))); (repeat first | refine zG ?_ | ((with_reducible refine AW_seq ?_); intro K hK) | ((repeat (fail_if_success (refine hK _ ?_)); clear hK K); refine hK _ ?_; clear hK K)); (try clear fa))
    refine hJ _ _ ?_ ⟨c + min c (n - c), by omega, by omega, rfl, ?_⟩
    ·omega
    ·(have fa := (fun i f => finL_repW (fx i f) (fz i f)); first | exact zE0 | (refine zE ?_; try clear fa))
   ·have hc : c = n := by have : ¬ c < n := by simpa using h
                          omega
    subst hc
    clear h
    (have fa := zT; (repeat first | refine zG ?_ | ((with_reducible refine AW_seq ?_); intro K hK) | ((repeat (fail_if_success (refine hK _ ?_)); clear hK K); refine hK _ ?_; clear hK K)); (try clear fa))
    refine AW_ret ?_; refine ⟨.inr rfl, ?_, [], 2, finOk_nil, ?_⟩ <;> (have fa := zT; first | exact zE0 | (refine zE ?_; try clear fa))
    rw [repW_full, List.take_of_length_le (by simp), finL_rep (fx _ _), if_pos (by simp)]
theorem says_RepeatI (x : Int) (n : Nat) (hn : n ≤ 1000000) : ASays Tryz.prog 113 [.sl false 1 [I x], I n] (eInts true (List.replicate n x)) := by
 have := repeatI (I x) n rfl (by intro v hv; simp [AV.cs] at hv; subst hv; rfl) (fun _ _ => rfl) hn
 rw [eInts, List.map_replicate]; exact this
end Go.Proofs.YthblfhgofopcaaaGreat
