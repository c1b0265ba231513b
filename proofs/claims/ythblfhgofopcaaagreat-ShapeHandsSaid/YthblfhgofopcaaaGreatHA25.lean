/-
  Parts of the proof: SplA, LibA.
-/
import Derived.Test.YthblfhgofopcaaaGreatHA24
import Derived.Test.YthblfhgofopcaaaGreatHA14
set_option linter.all false
namespace Go.Proofs.YthblfhgofopcaaaGreat
instance gpDec : DecidableEq Gp := fun a b => if h : a.wh = b.wh ∧ a.kd = b.kd ∧ a.op = b.op then isTrue (by cases a; cases b; simp_all) else isFalse (by rintro rfl; simp at h)
def gcmp (a b : Gp) : Int := if a.wh < b.wh then -1 else if b.wh < a.wh then 1 else if a.kd < b.kd then -1 else if b.kd < a.kd then 1 else 0
def lcmp : List Gp → List Gp → Int
 | [], [] => 0
 | [], _ :: _ => -1
 | _ :: _, [] => 1
 | a :: l, b :: m => if gcmp a b = 0 then lcmp l m else gcmp a b
theorem gcmp_cases (a b : Gp) : (gcmp a b = -1 ∧ (a.wh < b.wh ∨ a.wh = b.wh ∧ a.kd < b.kd)) ∨ (gcmp a b = 0 ∧ a.wh = b.wh ∧ a.kd = b.kd) ∨ (gcmp a b = 1 ∧ (b.wh < a.wh ∨ a.wh = b.wh ∧ b.kd < a.kd)) := by
 unfold gcmp; repeat' split
 all_goals omega
theorem gcmp_swap (a b : Gp) : gcmp b a = - gcmp a b := by
 have h1 := gcmp_cases a b; have h2 := gcmp_cases b a; omega
theorem gcmp_refl (a : Gp) : gcmp a a = 0 := by have h1 := gcmp_cases a a; omega
theorem gcmp_trans {a b c : Gp} (h1 : gcmp a b ≤ 0) (h2 : gcmp b c ≤ 0) : gcmp a c ≤ 0 ∧ (gcmp a c = 0 → gcmp a b = 0 ∧ gcmp b c = 0) := by
 have := gcmp_cases a b; have := gcmp_cases b c; have := gcmp_cases a c; omega
theorem gcmp_zero {a b : Gp} (h : gcmp a b = 0) : a.wh = b.wh ∧ a.kd = b.kd := by have := gcmp_cases a b; omega
theorem lcmp_swap : ∀ a b : List Gp, lcmp b a = - lcmp a b
 | [], [] => rfl
 | [], _ :: _ => rfl
 | _ :: _, [] => rfl
 | a :: l, b :: m => by
  have h := lcmp_swap l m
  have h2 := gcmp_swap a b
  simp only [lcmp]
  split <;> split <;> omega
theorem lcmp_refl : ∀ a : List Gp, lcmp a a = 0
 | [] => rfl
 | a :: l => by simp only [lcmp, gcmp_refl, if_true]; exact lcmp_refl l
theorem lcmp_trans : ∀ {a b c : List Gp}, lcmp a b ≤ 0 → lcmp b c ≤ 0 → lcmp a c ≤ 0 ∧ (lcmp a c = 0 → lcmp a b = 0 ∧ lcmp b c = 0)
 | [], [], [], _, _ => by simp [lcmp]
 | [], [], _ :: _, _, _ => by simp [lcmp]
 | [], _ :: _, [], _, h => by simp [lcmp] at h
 | [], _ :: _, _ :: _, _, _ => by simp [lcmp]
 | _ :: _, [], _, h, _ => by simp [lcmp] at h
 | _ :: _, _ :: _, [], _, h => by simp [lcmp] at h
 | a :: l, b :: m, c :: n, h1, h2 => by
  have k1 := gcmp_cases a b; have k2 := gcmp_cases b c; have k3 := gcmp_cases a c
  simp only [lcmp] at *
  by_cases e1 : gcmp a b = 0 <;> by_cases e2 : gcmp b c = 0
  ·rw [if_pos e1] at h1 ⊢; rw [if_pos e2] at h2 ⊢
   rw [if_pos (show gcmp a c = 0 by omega)]
   exact lcmp_trans h1 h2
  ·rw [if_neg e2] at h2
   rw [if_neg (show ¬ gcmp a c = 0 by omega)]
   refine ⟨by omega, fun h => absurd h (by omega)⟩
  ·rw [if_neg e1] at h1
   rw [if_neg (show ¬ gcmp a c = 0 by omega)]
   refine ⟨by omega, fun h => absurd h (by omega)⟩
  ·rw [if_neg e1] at h1; rw [if_neg e2] at h2
   rw [if_neg (show ¬ gcmp a c = 0 by omega)]
   refine ⟨by omega, fun h => absurd h (by omega)⟩
def Cl (l : List Gp) : Prop := ∀ g ∈ l, g.op = false
theorem gp_eq {a b : Gp} (h : gcmp a b = 0) (ha : a.op = false) (hb : b.op = false) : a = b := by
 obtain ⟨h1, h2⟩ := gcmp_zero h
 cases a; cases b; simp_all
theorem lcmp_eq : ∀ {a b : List Gp}, lcmp a b = 0 → Cl a → Cl b → a = b
 | [], [], _, _, _ => rfl
 | [], _ :: _, h, _, _ => by simp [lcmp] at h
 | _ :: _, [], h, _, _ => by simp [lcmp] at h
 | a :: l, b :: m, h, ha, hb => by
  simp only [lcmp] at h
  split at h
  ·rename_i e
   rw [gp_eq e (ha a (by simp)) (hb b (by simp)), lcmp_eq h (fun g hg => ha g (by simp [hg])) (fun g hg => hb g (by simp [hg]))]
  ·rename_i e; exact absurd h e
def SG (l : List Gp) : Prop := l.Pairwise fun a b => gcmp a b ≤ 0
def SL (l : List (List Gp)) : Prop := l.Pairwise fun a b => lcmp a b < 0
theorem perm_sorted {α : Type} {r : α → α → Prop} (anti : ∀ a b, r a b → r b a → a = b) : ∀ {l m : List α}, l.Perm m → l.Pairwise r → m.Pairwise r → l = m
 | [], m, h, _, _ => (List.nil_perm.1 h).symm ▸ rfl
 | a :: l, [], h, _, _ => absurd h.length_eq (by simp)
 | a :: l, b :: m, h, hl, hm => by
  rw [List.pairwise_cons] at hl hm
  have hab : a = b := by
   have h1 : a ∈ b :: m := h.subset (by simp)
   have h2 : b ∈ a :: l := h.symm.subset (by simp)
   rcases List.mem_cons.1 h1 with e | h1
   ·exact e
   ·rcases List.mem_cons.1 h2 with e | h2
    ·exact e.symm
    ·exact anti a b (hl.1 b h2) (hm.1 a h1)
  subst hab
  rw [perm_sorted anti (List.perm_cons a |>.1 h) hl.2 hm.2]
theorem sg_perm {l m : List Gp} (h : l.Perm m) (hl : SG l) (hm : SG m) (hc : Cl l) : l = m := by
 refine perm_sorted (r := fun a b => gcmp a b ≤ 0 ∧ a.op = false ∧ b.op = false) (fun a b h1 h2 => gp_eq (by have := gcmp_swap a b; omega) h1.2.1 h1.2.2) h ?_ ?_
 ·exact hl.imp_of_mem fun {a b} ha hb k => ⟨k, hc a ha, hc b hb⟩
 ·exact hm.imp_of_mem fun {a b} ha hb k => ⟨k, hc a (h.symm.subset ha), hc b (h.symm.subset hb)⟩
theorem sl_ext : ∀ {l m : List (List Gp)}, SL l → SL m → (∀ x, x ∈ l ↔ x ∈ m) → l = m
 | [], [], _, _, _ => rfl
 | [], b :: m, _, _, h => absurd ((h b).2 (by simp)) (by simp)
 | a :: l, [], _, _, h => absurd ((h a).1 (by simp)) (by simp)
 | a :: l, b :: m, hl, hm, h => by
  have hl' := List.pairwise_cons.1 hl
  have hm' := List.pairwise_cons.1 hm
  have hab : a = b := by
   rcases List.mem_cons.1 ((h a).1 (by simp)) with e | h1
   ·exact e
   ·rcases List.mem_cons.1 ((h b).2 (by simp)) with e | h2
    ·exact e.symm
    ·have k1 := hm'.1 a h1
     have k2 := hl'.1 b h2
     have := lcmp_swap a b
     omega
  subst hab
  rw [sl_ext hl'.2 hm'.2 fun x => ⟨fun hx => ?_, fun hx => ?_⟩]
  ·rcases List.mem_cons.1 ((h x).1 (by simp [hx])) with e | h1
   ·subst e; have := hl'.1 x hx; have := lcmp_refl x; omega
   ·exact h1
  ·rcases List.mem_cons.1 ((h x).2 (by simp [hx])) with e | h1
   ·subst e; have := hm'.1 x hx; have := lcmp_refl x; omega
   ·exact h1
def atG (l : List Gp) (g : Gp) : Nat → Nat
 | 0 => 0
 | n + 1 => match l[n]? with
  | some x => if gcmp g x < 0 then atG l g n else n + 1
  | none => n + 1
def withL (l : List Gp) (g : Gp) : List Gp := l.take (atG l g l.length) ++ g :: l.drop (atG l g l.length)
theorem atG_succ (l : List Gp) (g : Gp) {n : Nat} (h : n < l.length) : atG l g (n + 1) = if gcmp g l[n] < 0 then atG l g n else n + 1 := by
 rw [atG, List.getElem?_eq_getElem h]
theorem atG_le (l : List Gp) (g : Gp) : ∀ n, atG l g n ≤ n
 | 0 => Nat.le_refl _
 | n + 1 => by
  unfold atG
  split
  ·split
   ·exact Nat.le_succ_of_le (atG_le l g n)
   ·exact Nat.le_refl _
  ·exact Nat.le_refl _
theorem withL_perm (l : List Gp) (g : Gp) : (withL l g).Perm (g :: l) := by
 unfold withL
 refine List.perm_middle.trans ?_
 rw [List.take_append_drop]
theorem atG_gt (l : List Gp) (g : Gp) : ∀ n, n ≤ l.length → ∀ i x, atG l g n ≤ i → i < n → l[i]? = some x → gcmp g x < 0
 | 0, _, i, x, _, h, _ => absurd h (Nat.not_lt_zero i)
 | n + 1, hn, i, x, h1, h2, h3 => by
  rw [atG_succ l g (show n < l.length by omega)] at h1
  split at h1
  ·rename_i hg
   by_cases hi : i = n
   ·subst hi
    rw [List.getElem?_eq_getElem (by omega)] at h3
    injection h3 with h3; rw [← h3]; exact hg
   ·exact atG_gt l g n (by omega) i x h1 (by omega) h3
  ·omega
theorem atG_le_of (l : List Gp) (g : Gp) : ∀ n, n ≤ l.length → ∀ x, 0 < atG l g n → l[atG l g n - 1]? = some x → ¬ gcmp g x < 0
 | 0, _, x, h, _ => absurd h (Nat.not_lt_zero _)
 | n + 1, hn, x, h1, h2 => by
  rw [atG_succ l g (show n < l.length by omega)] at h1 h2
  split at h1
  ·rename_i hg
   rw [if_pos hg] at h2
   exact atG_le_of l g n (by omega) x h1 h2
  ·rename_i hg
   rw [if_neg hg] at h2
   simp only [Nat.add_sub_cancel] at h2
   rw [List.getElem?_eq_getElem (by omega)] at h2
   injection h2 with h2
   rw [← h2]; exact hg
theorem withL_sorted {l : List Gp} (g : Gp) (h : SG l) : SG (withL l g) := by
 unfold withL SG
 have h' := h
 unfold SG at h'
 rw [← List.take_append_drop (atG l g l.length) l, List.pairwise_append] at h'
 obtain ⟨h1, h2, h3⟩ := h'
 have hle := atG_le l g l.length
 rw [List.pairwise_append, List.pairwise_cons]
 refine ⟨h1, ⟨fun b hb => ?_, h2⟩, fun a ha b hb => ?_⟩
 ·obtain ⟨i, hi, rfl⟩ := List.mem_iff_getElem.1 hb
  have := atG_gt l g l.length (Nat.le_refl _) (atG l g l.length + i) _ (by omega) (by simp at hi; omega) (by rw [← List.getElem?_drop, List.getElem?_eq_getElem hi])
  omega
 ·rcases List.mem_cons.1 hb with rfl | hb
  ·have hn : 0 < atG l b l.length := by
    rcases Nat.eq_zero_or_pos (atG l b l.length) with e | e
    ·rw [e] at ha; simp at ha
    ·exact e
   have hlt : atG l b l.length - 1 < l.length := by omega
   have k1 := atG_le_of l b l.length (Nat.le_refl _) _ hn (List.getElem?_eq_getElem hlt)
   have k2 := gcmp_swap b (l[atG l b l.length - 1])
   obtain ⟨i, hi, rfl⟩ := List.mem_iff_getElem.1 ha
   rw [List.getElem_take]
   simp at hi
   by_cases he : i = atG l b l.length - 1
   ·subst he; omega
   ·have k3 := List.pairwise_iff_getElem.1 h i (atG l b l.length - 1) (by omega) hlt (by omega)
    exact (gcmp_trans k3 (by omega)).1
  ·exact h3 a ha b hb
def atL (l : List (List Gp)) (g : List Gp) : Nat → Nat
 | 0 => 0
 | n + 1 => match l[n]? with
  | some x => if lcmp g x < 0 then atL l g n else n + 1
  | none => n + 1
def addL (l : List (List Gp)) (g : List Gp) : List (List Gp) :=
 if 0 < atL l g l.length ∧ lcmp g ((l[atL l g l.length - 1]?).getD []) = 0 then l else l.take (atL l g l.length) ++ g :: l.drop (atL l g l.length)
theorem atL_succ (l : List (List Gp)) (g : List Gp) {n : Nat} (h : n < l.length) : atL l g (n + 1) = if lcmp g l[n] < 0 then atL l g n else n + 1 := by
 rw [atL, List.getElem?_eq_getElem h]
theorem atL_le (l : List (List Gp)) (g : List Gp) : ∀ n, atL l g n ≤ n
 | 0 => Nat.le_refl _
 | n + 1 => by
  unfold atL
  split
  ·split
   ·exact Nat.le_succ_of_le (atL_le l g n)
   ·exact Nat.le_refl _
  ·exact Nat.le_refl _
theorem atL_gt (l : List (List Gp)) (g : List Gp) : ∀ n, n ≤ l.length → ∀ i x, atL l g n ≤ i → i < n → l[i]? = some x → lcmp g x < 0
 | 0, _, i, x, _, h, _ => absurd h (Nat.not_lt_zero i)
 | n + 1, hn, i, x, h1, h2, h3 => by
  rw [atL_succ l g (show n < l.length by omega)] at h1
  split at h1
  ·rename_i hg
   by_cases hi : i = n
   ·subst hi
    rw [List.getElem?_eq_getElem (by omega)] at h3
    injection h3 with h3; rw [← h3]; exact hg
   ·exact atL_gt l g n (by omega) i x h1 (by omega) h3
  ·omega
theorem atL_le_of (l : List (List Gp)) (g : List Gp) : ∀ n, n ≤ l.length → ∀ x, 0 < atL l g n → l[atL l g n - 1]? = some x → ¬ lcmp g x < 0
 | 0, _, x, h, _ => absurd h (Nat.not_lt_zero _)
 | n + 1, hn, x, h1, h2 => by
  rw [atL_succ l g (show n < l.length by omega)] at h1 h2
  split at h1
  ·rename_i hg
   rw [if_pos hg] at h2
   exact atL_le_of l g n (by omega) x h1 h2
  ·rename_i hg
   rw [if_neg hg] at h2
   simp only [Nat.add_sub_cancel] at h2
   rw [List.getElem?_eq_getElem (by omega)] at h2
   injection h2 with h2
   rw [← h2]; exact hg
theorem addL_ok {l : List (List Gp)} {g : List Gp} (h : SL l) (hc : ∀ x ∈ l, Cl x) (hg : Cl g) : SL (addL l g) ∧ ∀ x, x ∈ addL l g ↔ x = g ∨ x ∈ l := by
 unfold addL
 have hle := atL_le l g l.length
 split
 ·rename_i hz
  obtain ⟨h0, hz⟩ := hz
  have hlt : atL l g l.length - 1 < l.length := by omega
  rw [List.getElem?_eq_getElem hlt, Option.getD_some] at hz
  have he : g = l[atL l g l.length - 1] := lcmp_eq hz hg (hc _ (List.getElem_mem hlt))
  refine ⟨h, fun x => ⟨.inr, fun hx => ?_⟩⟩
  rcases hx with rfl | hx
  ·rw [he]; exact List.getElem_mem hlt
  ·exact hx
 ·rename_i hz
  have h' := h
  unfold SL at h'
  rw [← List.take_append_drop (atL l g l.length) l, List.pairwise_append] at h'
  obtain ⟨h1, h2, h3⟩ := h'
  constructor
  ·unfold SL
   rw [List.pairwise_append, List.pairwise_cons]
   refine ⟨h1, ⟨fun b hb => ?_, h2⟩, fun a ha b hb => ?_⟩
   ·obtain ⟨i, hi, rfl⟩ := List.mem_iff_getElem.1 hb
    exact atL_gt l g l.length (Nat.le_refl _) (atL l g l.length + i) _ (by omega) (by simp at hi; omega) (by rw [← List.getElem?_drop, List.getElem?_eq_getElem hi])
   ·rcases List.mem_cons.1 hb with rfl | hb
    ·have hn : 0 < atL l b l.length := by
      rcases Nat.eq_zero_or_pos (atL l b l.length) with e | e
      ·rw [e] at ha; simp at ha
      ·exact e
     have hlt : atL l b l.length - 1 < l.length := by omega
     have k1 := atL_le_of l b l.length (Nat.le_refl _) _ hn (List.getElem?_eq_getElem hlt)
     have k2 := lcmp_swap b (l[atL l b l.length - 1])
     have k0 : lcmp b (l[atL l b l.length - 1]) ≠ 0 := fun e => hz ⟨hn, by rw [List.getElem?_eq_getElem hlt]; exact e⟩
     obtain ⟨i, hi, rfl⟩ := List.mem_iff_getElem.1 ha
     rw [List.getElem_take]
     simp at hi
     by_cases he : i = atL l b l.length - 1
     ·subst he; omega
     ·have k3 := List.pairwise_iff_getElem.1 h i (atL l b l.length - 1) (by omega) hlt (by omega)
      have k4 := lcmp_trans (Int.le_of_lt k3) (show lcmp (l[atL l b l.length - 1]) b ≤ 0 by omega)
      rcases Int.lt_or_eq_of_le k4.1 with k5 | k5
      ·exact k5
      ·have := (k4.2 k5).1; omega
    ·exact h3 a ha b hb
  ·intro x
   rw [List.mem_append, List.mem_cons]
   have : x ∈ l ↔ x ∈ l.take (atL l g l.length) ∨ x ∈ l.drop (atL l g l.length) := by rw [← List.mem_append, List.take_append_drop]
   rw [this]
   constructor
   ·rintro (h | h | h) <;> simp [h]
   ·rintro (h | h | h) <;> simp [h]
end Go.Proofs.YthblfhgofopcaaaGreat

namespace Go.Proofs.YthblfhgofopcaaaGreat
open Go.RowKit
variable [DM]
set_option maxRecDepth 100000
set_option maxHeartbeats 2000000
theorem clone_ints (zs : List Int) (hz : zs.length ≤ 1000000) : ASays Tryz.prog 121 [eInts false zs] (eInts true zs) := by
 have h1 : zs.length ≤ 1000000000000 := by omega
 by_cases he : zs = []
 ·subst he
  refine asays_arg0 fun A cap hc => ?_
  cases A with
  | none =>
   refine asays_res (x := .v (.slice none 0 0)) (fun _ _ _ => rel_nil) ?_
   refine acall_of (nx := 0) (ne := 0) tysGood (DD_ok tysGood mixed _) Tryz.func121 (by rfl) (by rfl) (by simp [Tryz.ntmps121]) (fun p hp => by cases hp) ?_; rw [Tryz.ntmps121]; let tb := ord_121
   (have fa := zT; (repeat first | refine zG ?_ | ((with_reducible refine AW_seq ?_); intro K hK) | ((repeat (fail_if_success (refine hK _ ?_)); clear hK K); refine hK _ ?_; clear hK K)); (try clear fa))
   refine AW_ret ?_; refine ⟨.inr rfl, ?_, [], 2, finOk_nil, ?_⟩ <;> (have fa := zT; first | exact zE0 | (refine zE ?_; try clear fa))
  | some a =>
   refine acall_of (nx := 0) (ne := 0) tysGood (DD_ok tysGood mixed _) Tryz.func121 (by rfl) (by rfl) (by simp [Tryz.ntmps121]) (fun p hp => by cases hp) ?_; rw [Tryz.ntmps121]; let tb := ord_121
   (have fa := zT; (repeat first | refine zG ?_ | ((with_reducible refine AW_seq ?_); intro K hK) | ((repeat (fail_if_success (refine hK _ ?_)); clear hK K); refine hK _ ?_; clear hK K)); (try clear fa))
   refine AW_ret ?_; refine ⟨.inr rfl, ?_, [], 2, finOk_nil, ?_⟩ <;> (have fa := zT; first | exact zE0 | (refine zE ?_; try clear fa))
   rfl
 ·refine acall_of (nx := 0) (ne := 0) tysGood (DD_ok tysGood mixed _) Tryz.func121 (by rfl) (by rfl) (by simp [Tryz.ntmps121]) (fun p hp => by cases hp) ?_; rw [Tryz.ntmps121]; let tb := ord_121
  have he' : (zs.map I ≠ []) = True := by simp [he]
  (have fa := (And.intro he' h1); (repeat first | refine zG ?_ | ((with_reducible refine AW_seq ?_); intro K hK) | ((repeat (fail_if_success (refine hK _ ?_)); clear hK K); refine hK _ ?_; clear hK K)); (try clear fa))
  refine AW_ret ?_; refine ⟨.inr rfl, ?_, [], 2, finOk_nil, ?_⟩ <;> (have fa := zT; first | exact zE0 | (refine zE ?_; try clear fa))
theorem says_isNaN (x : Int) : ASays Tryz.prog 199 [I x] (B false) := by
 refine acall_of (nx := 0) (ne := 0) tysGood (DD_ok tysGood mixed _) Tryz.func199 (by rfl) (by rfl) (by simp [Tryz.ntmps199]) (fun p hp => by cases hp) ?_; rw [Tryz.ntmps199]; let tb := ord_199
 (have fa := @bne_self_eq_false.{0}; (repeat first | refine zG ?_ | ((with_reducible refine AW_seq ?_); intro K hK) | ((repeat (fail_if_success (refine hK _ ?_)); clear hK K); refine hK _ ?_; clear hK K)); (try clear fa))
 refine AW_ret ?_; refine ⟨.inr rfl, ?_, [], 2, finOk_nil, ?_⟩ <;> (have fa := zT; first | exact zE0 | (refine zE ?_; try clear fa))
def sgn (a b : Int) : Int := if a < b then -1 else if b < a then 1 else 0
theorem says_Compare (x y : Int) : ASays Tryz.prog 184 [I x, I y] (I (sgn x y)) := by
 refine acall_of (nx := 0) (ne := 0) tysGood (DD_ok tysGood mixed _) Tryz.func184 (by rfl) (by rfl) (by simp [Tryz.ntmps184]) (fun p hp => by cases hp) ?_; rw [Tryz.ntmps184]; let tb := ord_184
 (have fa := zT; (repeat first | refine zG ?_ | ((with_reducible refine AW_seq ?_); intro K hK) | ((repeat (fail_if_success (refine hK _ ?_)); clear hK K); refine hK _ ?_; clear hK K)); (try clear fa))
 (have fa := zT; refine zW (says_isNaN x) ?_; (try clear fa))
 (have fa := zT; (repeat first | refine zG ?_ | ((with_reducible refine AW_seq ?_); intro K hK) | ((repeat (fail_if_success (refine hK _ ?_)); clear hK K); refine hK _ ?_; clear hK K)); (try clear fa))
 (have fa := zT; refine zW (says_isNaN y) ?_; (try clear fa))
 (have fa := zT; (repeat first | refine zG ?_ | ((with_reducible refine AW_seq ?_); intro K hK) | ((repeat (fail_if_success (refine hK _ ?_)); clear hK K); refine hK _ ?_; clear hK K)); (try clear fa))
 refine AW_cond rfl ⟨fun hb => ?_, fun hb => ?_⟩
 ·have h : x < y := by simpa using hb
  (have fa := zT; (repeat first | refine zG ?_ | ((with_reducible refine AW_seq ?_); intro K hK) | ((repeat (fail_if_success (refine hK _ ?_)); clear hK K); refine hK _ ?_; clear hK K)); (try clear fa))
  refine AW_ret ?_; refine ⟨.inr rfl, ?_, [], 2, finOk_nil, ?_⟩ <;> (have fa := zT; first | exact zE0 | (refine zE ?_; try clear fa))
  simp [sgn, h]
 ·have h : ¬ x < y := by simpa using hb
  (have fa := zT; (repeat first | refine zG ?_ | ((with_reducible refine AW_seq ?_); intro K hK) | ((repeat (fail_if_success (refine hK _ ?_)); clear hK K); refine hK _ ?_; clear hK K)); (try clear fa))
  refine AW_cond rfl ⟨fun hb => ?_, fun hb => ?_⟩
  ·have h' : y < x := by simpa using hb
   (have fa := zT; (repeat first | refine zG ?_ | ((with_reducible refine AW_seq ?_); intro K hK) | ((repeat (fail_if_success (refine hK _ ?_)); clear hK K); refine hK _ ?_; clear hK K)); (try clear fa))
   refine AW_ret ?_; refine ⟨.inr rfl, ?_, [], 2, finOk_nil, ?_⟩ <;> (have fa := zT; first | exact zE0 | (refine zE ?_; try clear fa))
   simp [sgn, h, h']
  ·have h' : ¬ y < x := by simpa using hb
   (have fa := zT; (repeat first | refine zG ?_ | ((with_reducible refine AW_seq ?_); intro K hK) | ((repeat (fail_if_success (refine hK _ ?_)); clear hK K); refine hK _ ?_; clear hK K)); (try clear fa))
   refine AW_ret ?_; refine ⟨.inr rfl, ?_, [], 2, finOk_nil, ?_⟩ <;> (have fa := zT; first | exact zE0 | (refine zE ?_; try clear fa))
   simp [sgn, h, h']
theorem says_Or2 (x y : Int) : ASays Tryz.prog 183 [.sl false 1 [I x, I y]] (I (if x ≠ 0 then x else y)) := by
 refine acall_of (nx := 0) (ne := 0) tysGood (DD_ok tysGood mixed _) Tryz.func183 (by rfl) (by rfl) (by simp [Tryz.ntmps183]) (fun p hp => by cases hp) ?_; rw [Tryz.ntmps183]; let tb := ord_183
 (have fa := zT; (repeat first | refine zG ?_ | ((with_reducible refine AW_seq ?_); intro K hK) | ((repeat (fail_if_success (refine hK _ ?_)); clear hK K); refine hK _ ?_; clear hK K)); (try clear fa))
 refine AW_for 2 (fun k => (0 < k → x = 0) ∧ (1 < k → y = 0)) (fun k => ⟨80, [(3, I 0), (6, .sl false 1 [I x, I y]), (7, I 2), (8, I k)], []⟩) [] 0 [3, 6, 7, 8] 80 finOk_nil ⟨fun h => absurd h (by omega), fun h => absurd h (by omega)⟩ (by (have fa := zT; exact zV)) ?_
 intro k hk hR J hJ
 rcases (show k = 0 ∨ k = 1 ∨ k = 2 by omega) with rfl | rfl | rfl
 ·(have fa := zT; (repeat first | refine zG ?_ | ((with_reducible refine AW_seq ?_); intro K hK) | ((repeat (fail_if_success (refine hK _ ?_)); clear hK K); refine hK _ ?_; clear hK K)); (try clear fa))
  refine AW_cond rfl ⟨fun hb => ?_, fun hb => ?_⟩
  ·(have fa := zT; (repeat first | refine zG ?_ | ((with_reducible refine AW_seq ?_); intro K hK) | ((repeat (fail_if_success (refine hK _ ?_)); clear hK K); refine hK _ ?_; clear hK K)); (try clear fa))
   refine AW_ret ?_; refine ⟨.inr rfl, ?_, [], 2, finOk_nil, ?_⟩ <;> (have fa := zT; first | exact zE0 | (refine zE ?_; try clear fa))
   simp at hb; simp [hb]
  ·have hx : x = 0 := by simpa using hb
   subst hx
   (have fa := zT; (repeat first | refine zG ?_ | ((with_reducible refine AW_seq ?_); intro K hK) | ((repeat (fail_if_success (refine hK _ ?_)); clear hK K); refine hK _ ?_; clear hK K)); (try clear fa))
   refine hJ _ (by omega) ⟨fun _ => rfl, fun h => by first | rfl | exact absurd h (by omega)⟩ (by (have fa := zT; exact zV))
 ·have hx : x = 0 := hR.1 (by omega)
  subst hx
  have e1 : ((1 : Nat) : Int) = 1 := rfl
  (have fa := e1; (repeat first | refine zG ?_ | ((with_reducible refine AW_seq ?_); intro K hK) | ((repeat (fail_if_success (refine hK _ ?_)); clear hK K); refine hK _ ?_; clear hK K)); (try clear fa))
  refine AW_cond rfl ⟨fun hb => ?_, fun hb => ?_⟩
  ·(have fa := e1; (repeat first | refine zG ?_ | ((with_reducible refine AW_seq ?_); intro K hK) | ((repeat (fail_if_success (refine hK _ ?_)); clear hK K); refine hK _ ?_; clear hK K)); (try clear fa))
   refine AW_ret ?_; refine ⟨.inr rfl, ?_, [], 2, finOk_nil, ?_⟩ <;> (have fa := zT; first | exact zE0 | (refine zE ?_; try clear fa))
  ·have hy : y = 0 := by simpa using hb
   subst hy
   (have fa := e1; (repeat first | refine zG ?_ | ((with_reducible refine AW_seq ?_); intro K hK) | ((repeat (fail_if_success (refine hK _ ?_)); clear hK K); refine hK _ ?_; clear hK K)); (try clear fa))
   refine hJ _ (by omega) ⟨fun _ => rfl, fun h => by first | rfl | exact absurd h (by omega)⟩ (by (have fa := zT; exact zV))
 ·have hx : x = 0 := hR.1 (by omega)
  subst hx
  have e1 : ((2 : Nat) : Int) = 2 := rfl
  have hy : y = 0 := hR.2 (by omega)
  subst hy
  (have fa := e1; (repeat first | refine zG ?_ | ((with_reducible refine AW_seq ?_); intro K hK) | ((repeat (fail_if_success (refine hK _ ?_)); clear hK K); refine hK _ ?_; clear hK K)); (try clear fa))
  refine AW_ret ?_; refine ⟨.inr rfl, ?_, [], 2, finOk_nil, ?_⟩ <;> (have fa := zT; first | exact zE0 | (refine zE ?_; try clear fa))
theorem sgn_gcmp (x y : Gp) : (if sgn x.wh y.wh ≠ 0 then sgn x.wh y.wh else sgn x.kd y.kd) = gcmp x y := by
 have := gcmp_cases x y
 unfold sgn
 repeat' split
 all_goals omega
theorem says_order1 (x y : Gp) : ASays Tryz.prog 182 [eGp x, eGp y] (I (gcmp x y)) := by
 refine acall_of (nx := 0) (ne := 0) tysGood (DD_ok tysGood mixed _) Tryz.func182 (by rfl) (by rfl) (by simp [Tryz.ntmps182]) (fun p hp => by cases hp) ?_; rw [Tryz.ntmps182]; let tb := ord_182
 (have fa := zT; (repeat first | refine zG ?_ | ((with_reducible refine AW_seq ?_); intro K hK) | ((repeat (fail_if_success (refine hK _ ?_)); clear hK K); refine hK _ ?_; clear hK K)); (try clear fa))
 (have fa := zT; refine zD (says_Compare x.wh y.wh) ?_; (try clear fa))
 (have fa := zT; (repeat first | refine zG ?_ | ((with_reducible refine AW_seq ?_); intro K hK) | ((repeat (fail_if_success (refine hK _ ?_)); clear hK K); refine hK _ ?_; clear hK K)); (try clear fa))
 (have fa := zT; refine zD (says_Compare x.kd y.kd) ?_; (try clear fa))
 (have fa := zT; (repeat first | refine zG ?_ | ((with_reducible refine AW_seq ?_); intro K hK) | ((repeat (fail_if_success (refine hK _ ?_)); clear hK K); refine hK _ ?_; clear hK K)); (try clear fa))
 (have fa := zT; refine zD (says_Or2 (sgn x.wh y.wh) (sgn x.kd y.kd)) ?_; (try clear fa))
 (have fa := zT; (repeat first | refine zG ?_ | ((with_reducible refine AW_seq ?_); intro K hK) | ((repeat (fail_if_success (refine hK _ ?_)); clear hK K); refine hK _ ?_; clear hK K)); (try clear fa))
 refine AW_ret ?_; refine ⟨.inr rfl, ?_, [], 2, finOk_nil, ?_⟩ <;> (have fa := zT; first | exact zE0 | (refine zE ?_; try clear fa))
 rw [sgn_gcmp]
theorem lcmp_drop (a b : List Gp) (k : Nat) (ha : k < a.length) (hb : k < b.length) : lcmp (a.drop k) (b.drop k) = if gcmp a[k] b[k] = 0 then lcmp (a.drop (k + 1)) (b.drop (k + 1)) else gcmp a[k] b[k] := by
 rw [List.drop_eq_getElem_cons ha, List.drop_eq_getElem_cons hb, lcmp]
theorem says_CompareFunc (a b : List Gp) (ha : a.length ≤ 1000000) (hb : b.length ≤ 1000000) : ASays Tryz.prog 181 [eGps false a, eGps false b, .clo 182 []] (I (lcmp a b)) := by
 refine acall_of (nx := 0) (ne := 0) tysGood (DD_ok tysGood mixed _) Tryz.func181 (by rfl) (by rfl) (by simp [Tryz.ntmps181]) (fun p hp => by cases hp) ?_; rw [Tryz.ntmps181]; let tb := ord_181
 (have fa := zT; (repeat first | refine zG ?_ | ((with_reducible refine AW_seq ?_); intro K hK) | ((repeat (fail_if_success (refine hK _ ?_)); clear hK K); refine hK _ ?_; clear hK K)); (try clear fa))
 refine AW_for a.length (fun k => k ≤ b.length ∧ lcmp a b = lcmp (a.drop k) (b.drop k)) (fun k => ⟨80, [(0, eGps false a), (1, eGps false b), (2, .clo 182 []), (11, eGps false a), (12, I a.length), (13, I k)], []⟩) [] 0 [0, 1, 2, 11, 12, 13] 80 finOk_nil ⟨Nat.zero_le _, rfl⟩ (by (have fa := zT; exact zV)) ?_
 rintro k hk ⟨hkb, hR⟩ J hJ
 (have fa := zT; (repeat first | refine zG ?_ | ((with_reducible refine AW_seq ?_); intro K hK) | ((repeat (fail_if_success (refine hK _ ?_)); clear hK K); refine hK _ ?_; clear hK K)); (try clear fa))
 refine AW_cond rfl ⟨fun h => ?_, fun h => ?_⟩
 ·have hlt : k < a.length := by simpa using h
  clear h
  (have fa := hlt; (repeat first | refine zG ?_ | ((with_reducible refine AW_seq ?_); intro K hK) | ((repeat (fail_if_success (refine hK _ ?_)); clear hK K); refine hK _ ?_; clear hK K)); (try clear fa))
  refine AW_cond rfl ⟨fun h => ?_, fun h => ?_⟩
  ·have hge : b.length ≤ k := by simpa using h
   (have fa := zT; (repeat first | refine zG ?_ | ((with_reducible refine AW_seq ?_); intro K hK) | ((repeat (fail_if_success (refine hK _ ?_)); clear hK K); refine hK _ ?_; clear hK K)); (try clear fa))
   refine AW_ret ?_; refine ⟨.inr rfl, ?_, [], 2, finOk_nil, ?_⟩ <;> (have fa := zT; first | exact zE0 | (refine zE ?_; try clear fa))
   rw [hR, List.drop_eq_nil_of_le hge, List.drop_eq_getElem_cons hlt, lcmp]
  ·have hlt' : k < b.length := by simpa using h
   clear h
   (have fa := hlt'; (repeat first | refine zG ?_ | ((with_reducible refine AW_seq ?_); intro K hK) | ((repeat (fail_if_success (refine hK _ ?_)); clear hK K); refine hK _ ?_; clear hK K)); (try clear fa))
   (have fa := zT; refine zW (says_order1 a[k] b[k]) ?_; (try clear fa))
   (have fa := zT; (repeat first | refine zG ?_ | ((with_reducible refine AW_seq ?_); intro K hK) | ((repeat (fail_if_success (refine hK _ ?_)); clear hK K); refine hK _ ?_; clear hK K)); (try clear fa))
   refine AW_cond rfl ⟨fun h => ?_, fun h => ?_⟩
   ·have hne : gcmp a[k] b[k] ≠ 0 := by simpa using h
    (have fa := zT; (repeat first | refine zG ?_ | ((with_reducible refine AW_seq ?_); intro K hK) | ((repeat (fail_if_success (refine hK _ ?_)); clear hK K); refine hK _ ?_; clear hK K)); (try clear fa))
    refine AW_ret ?_; refine ⟨.inr rfl, ?_, [], 2, finOk_nil, ?_⟩ <;> (have fa := zT; first | exact zE0 | (refine zE ?_; try clear fa))
    rw [hR, lcmp_drop a b k hlt hlt', if_neg hne]
   ·have he : gcmp a[k] b[k] = 0 := by simpa using h
    clear h
    (have fa := (vwrap_succ (show k < 9223372036854775807 by omega)); (repeat first | refine zG ?_ | ((with_reducible refine AW_seq ?_); intro K hK) | ((repeat (fail_if_success (refine hK _ ?_)); clear hK K); refine hK _ ?_; clear hK K)); (try clear fa))
    refine hJ _ hlt ⟨hlt', ?_⟩ (by (have fa := zT; exact zV))
    rw [hR, lcmp_drop a b k hlt hlt', if_pos he]
 ·have hk' : k = a.length := by have : ¬ k < a.length := by simpa using h
                                omega
  subst hk'
  clear h
  (have fa := zT; (repeat first | refine zG ?_ | ((with_reducible refine AW_seq ?_); intro K hK) | ((repeat (fail_if_success (refine hK _ ?_)); clear hK K); refine hK _ ?_; clear hK K)); (try clear fa))
  refine AW_cond rfl ⟨fun h => ?_, fun h => ?_⟩
  ·have hlt : a.length < b.length := by simpa using h
   (have fa := zT; (repeat first | refine zG ?_ | ((with_reducible refine AW_seq ?_); intro K hK) | ((repeat (fail_if_success (refine hK _ ?_)); clear hK K); refine hK _ ?_; clear hK K)); (try clear fa))
   refine AW_ret ?_; refine ⟨.inr rfl, ?_, [], 2, finOk_nil, ?_⟩ <;> (have fa := zT; first | exact zE0 | (refine zE ?_; try clear fa))
   rw [hR, List.drop_length, List.drop_eq_getElem_cons hlt, lcmp]
  ·have hge : ¬ a.length < b.length := by simpa using h
   (have fa := zT; (repeat first | refine zG ?_ | ((with_reducible refine AW_seq ?_); intro K hK) | ((repeat (fail_if_success (refine hK _ ?_)); clear hK K); refine hK _ ?_; clear hK K)); (try clear fa))
   refine AW_ret ?_; refine ⟨.inr rfl, ?_, [], 2, finOk_nil, ?_⟩ <;> (have fa := zT; first | exact zE0 | (refine zE ?_; try clear fa))
   have : b.length = a.length := by omega
   rw [hR, List.drop_length, ← this, List.drop_length, lcmp]
theorem says_order (a b : List Gp) (ha : a.length ≤ 1000000) (hb : b.length ≤ 1000000) : ASays Tryz.prog 162 [eGps false a, eGps false b] (I (lcmp a b)) := by
 refine acall_of (nx := 0) (ne := 0) tysGood (DD_ok tysGood mixed _) Tryz.func162 (by rfl) (by rfl) (by simp [Tryz.ntmps162]) (fun p hp => by cases hp) ?_; rw [Tryz.ntmps162]; let tb := ord_162
 (have fa := zT; (repeat first | refine zG ?_ | ((with_reducible refine AW_seq ?_); intro K hK) | ((repeat (fail_if_success (refine hK _ ?_)); clear hK K); refine hK _ ?_; clear hK K)); (try clear fa))
 (have fa := zT; refine zW (says_CompareFunc a b ha hb) ?_; (try clear fa))
 (have fa := zT; (repeat first | refine zG ?_ | ((with_reducible refine AW_seq ?_); intro K hK) | ((repeat (fail_if_success (refine hK _ ?_)); clear hK K); refine hK _ ?_; clear hK K)); (try clear fa))
 refine AW_ret ?_; refine ⟨.inr rfl, ?_, [], 2, finOk_nil, ?_⟩ <;> (have fa := zT; first | exact zE0 | (refine zE ?_; try clear fa))
theorem says_ordered1 (x y : Gp) : ASays Tryz.prog 178 [eGp x, eGp y] (I (gcmp x y)) := by
 refine acall_of (nx := 0) (ne := 0) tysGood (DD_ok tysGood mixed _) Tryz.func178 (by rfl) (by rfl) (by simp [Tryz.ntmps178]) (fun p hp => by cases hp) ?_; rw [Tryz.ntmps178]; let tb := ord_178
 (have fa := zT; (repeat first | refine zG ?_ | ((with_reducible refine AW_seq ?_); intro K hK) | ((repeat (fail_if_success (refine hK _ ?_)); clear hK K); refine hK _ ?_; clear hK K)); (try clear fa))
 (have fa := zT; refine zW (says_order [x] [y] (by simp) (by simp)) ?_; (try clear fa))
 (have fa := zT; (repeat first | refine zG ?_ | ((with_reducible refine AW_seq ?_); intro K hK) | ((repeat (fail_if_success (refine hK _ ?_)); clear hK K); refine hK _ ?_; clear hK K)); (try clear fa))
 refine AW_ret ?_; refine ⟨.inr rfl, ?_, [], 2, finOk_nil, ?_⟩ <;> (have fa := zT; first | exact zE0 | (refine zE ?_; try clear fa))
 simp only [lcmp]
 split
 ·rename_i h; rw [h]
 ·rfl
end Go.Proofs.YthblfhgofopcaaaGreat
