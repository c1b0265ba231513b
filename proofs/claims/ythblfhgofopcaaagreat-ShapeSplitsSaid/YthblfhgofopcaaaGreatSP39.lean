/-
  Parts of the proof: SplZ, RefM.
-/
import Derived.Test.YthblfhgofopcaaaGreatSP16
import Derived.Test.YthblfhgofopcaaaGreatSP38
import Derived.Shelf.SlSortCmp.NoneTotal
import Derived.Test.YthblfhgofopcaaaGreatSP30
import Derived.Test.YthblfhgofopcaaaGreatSP31
import Derived.Test.YthblfhgofopcaaaGreatSP15
set_option linter.all false
namespace Go.Proofs.YthblfhgofopcaaaGreat
open Go.RowKit
set_option maxRecDepth 100000
set_option maxHeartbeats 2000000
theorem obj_sort0 (g : Nat) : AObj Tryz.prog 161 [.rsl 0 g 0 0, .clo 162 []] [(0, .arr g 1 [])] (.v (.tuple #[])) [(0, .arr g 1 [])] := by
 refine ⟨⟨_, _, Tryz.func161, rfl, rfl⟩, fun c vals hn hh hx => ?_⟩
 obtain ⟨v, v', rfl, k1, k2⟩ := relL_2 hx
 have e0 : lk [(0, Ob.arr g 1 [])] .nil 0 = .arr g 1 [] := rfl
 have hsl : SlAt c 0 0 0 v 1 := by
  cases k1 with
  | rsl _ _ _ _ _ _ hg => rw [e0] at hg; exact hg.2 rfl
 obtain ⟨A, cap, rfl, hcap, hmax, hpos⟩ := hsl
 refine (AnyF.slices_SortFunc_none (P := Tryz.prog) (ρ := Tryz.laysSortL_ren) { Tryz.laysSortL with } A cap v' c.w).mono ?_
 rintro e w' ⟨rfl, rfl⟩
 exact ⟨.tuple #[], _, _, c, rfl, rfl, ⟨rfl, rfl⟩, Keep.refl _ _, hh, .v _⟩
theorem splR_fuel {n : Nat} {rn : Int → Bool} (hr : RunsOk n rn) {f f' : Nat} {bag : List Int} (hb : Bg n bag) (h1 : bag.sum < (f : Int)) (h2 : bag.sum < (f' : Int)) : splR rn f bag = splR rn f' bag := by
 obtain ⟨a1, a2⟩ := splR_ok hr hb h1
 obtain ⟨b1, b2⟩ := splR_ok hr hb h2
 exact sl_ext a1 b1 fun x => (a2 x).trans (b2 x).symm
theorem splP_small (rn : Int → Bool) : ∀ (f : Nat) (left : List Int) (pr : Option Gp) (pd : Bool), ∀ r ∈ splP rn f left pr pd, r.length ≤ f
 | 0, _, _, _, r, h => by simp [splP] at h
 | f + 1, left, pr, pd, r, h => by
  have ih := splP_small rn f
  have h1 : ∀ (c : Prop) [Decidable c] (g : Gp) (l : List (List Gp)), (∀ x ∈ l, x.length ≤ f) → r ∈ (if c then l.map (g :: ·) else []) → r.length ≤ f + 1 := fun c _ g l hl hr => by
   split at hr
   ·obtain ⟨y, hy, rfl⟩ := List.mem_map.1 hr
    have := hl y hy; simp; omega
   ·cases hr
  rw [splP] at h
  split at h
  ·split at h
   ·simp at h; subst h; simp
   ·cases h
  ·rcases List.mem_append.1 h with h | h
   ·exact h1 _ _ _ (ih _ _ _) h
   ·rcases List.mem_append.1 h with h | h
    ·exact h1 _ _ _ (ih _ _ _) h
    ·exact h1 _ _ _ (ih _ _ _) h
theorem runs_ok (s : TSet) {n : Nat} (hn : (n : Int) = kindsI s) : RunsOk n (runsB s) := fun k h => by have := runs_in h; omega
set_option maxHeartbeats 4000000 in
theorem says_splits (s : TSet) (hv : chkErr s = 0) (bag : List Int) (hb : Sb bag) (hn : (bag.length : Int) = kindsI s) (hs : bag.sum ≤ 14) : ASays Tryz.prog 124 [eSet s, eInts false bag] (eLL false (splR (runsB s) 20 bag)) := by
 have hK : kindsI s ≤ 60 := by have := kinds_co s; omega
 have CC := own_clone_ints bag (by omega)
 have CF := from_F s hv 15 0 ⟨bag, false, [], [], 0, 0⟩ [] ⟨hb, hn, by dsimp only; omega, Nat.zero_le _, fun i h => absurd h (Nat.not_lt_zero i), by simp, (fun g h => by cases h), (fun h => by cases h)⟩ (by decide)
 unfold FromF at CF
 dsimp only at CF
 refine asays_lo ?_
 refine acall_ofW (nx := 0) (ne := 0) tysGood (DD_ok tysGood mixed _) Tryz.func124 (by rfl) (by rfl) (by simp [Tryz.ntmps124]) (fun p hp => by cases hp) ?_; rw [Tryz.ntmps124]; let tb := ord_124; let lv := live_124
 refine AW_join (upto_seq _ (upto_seq _ (upto_seq _ (upto_seq _ (upto_seq _ (upto_seq _ (upto_seq _ (upto_one _ _)))))))) fun K0 hC0 hKr => ?_
 (have fa := zT; (repeat' first | refine zO (CC) ?_ | refine zQ ?_ | (refine zN ?_; intro K hC hK) | ((repeat clear hJo hJU hJC Jo JU JC); (repeat (fail_if_success (refine hK _ ?_)); clear hK hC K); refine hK _ ?_; clear hK hC K) | (refine zC ?_ ?_ <;> intro hb) | (refine zK ?_; intro Jo JU JC hJo hJU hJC)) <;> (try clear fa))
 refine hC0.w _ _ (wk_virtO 96 0 1 600 0 3 (by rfl) (by rfl)) ?_
 refine hC0.w _ _ (wk_virtO 112 0 1 700 0 1 (by rfl) (by rfl)) ?_
 refine hKr _ ?_
 clear hKr hC0 K0
 (have fa := @virtO.eq_1; first | exact zE0 | (refine zE ?_; try clear fa))
 (have fa := zT; (repeat' first | refine zQ ?_ | (refine zN ?_; intro K hC hK) | ((repeat clear hJo hJU hJC Jo JU JC); (repeat (fail_if_success (refine hK _ ?_)); clear hK hC K); refine hK _ ?_; clear hK hC K) | (refine zC ?_ ?_ <;> intro hb) | (refine zK ?_; intro Jo JU JC hJo hJU hJC)) <;> (try clear fa))
 obtain ⟨N, hN⟩ : ∃ N, newL s 15 ⟨bag, false, [], [], 0, 0⟩ = N := ⟨_, rfl⟩
 rw [hN] at CF
 with_reducible apply CallW.obj [0, 64, 128, 112, 96, 208, 176, 48, 600, 700] CF
 ·first | rfl | ((have fa := (And.intro @fromC.eq_1 @putC.eq_1); first | exact zE0 | (refine zE ?_; try clear fa)); done) | ((have fa := (And.intro @fromC.eq_1 @putC.eq_1); first | exact zE0 | (refine zE ?_; try clear fa)); rfl)
 ·first | rfl | ((have fa := (And.intro @fromC.eq_1 @putC.eq_1); first | exact zE0 | (refine zE ?_; try clear fa)); done) | ((have fa := (And.intro @fromC.eq_1 @putC.eq_1); first | exact zE0 | (refine zE ?_; try clear fa)); rfl)
 ·decide
 ·intro r hr; simp at hr; rcases hr with rfl | rfl | rfl | rfl | rfl | rfl | rfl | rfl | rfl | rfl <;> exact ⟨_, _, _, rfl⟩
 ·refine ⟨by (have fa := zT; first | exact zE0 | (refine zE ?_; try clear fa)), ?_⟩
  intro r hr g sz es he
  simp at hr
  rcases hr with rfl | rfl | rfl | rfl | rfl | rfl | rfl | rfl | rfl | rfl
  all_goals
   injection he with h1 h2 h3
   subst h1 h2 h3
   first | rfl | ((have fa := zT; first | exact zE0 | (refine zE ?_; try clear fa)); done) | ((have fa := zT; first | exact zE0 | (refine zE ?_; try clear fa)); rfl)
 rintro v hl ⟨rfl, junk, gs, go, rfl⟩
 refine ⟨⟨by simp, by simp⟩, ?_, ?_⟩
 ·intro p hp; simp at hp; rcases hp with rfl | rfl | rfl | rfl | rfl | rfl | rfl | rfl | rfl | rfl <;> intro h <;> simp at h
 (have fa := (And.intro @fromC.eq_1 @putC.eq_1); first | exact zE0 | (refine zE ?_; try clear fa))
 refine hJC _ _ _ ?_
 clear hJo hJU hJC Jo JU JC
 have hp := newL_len s 15 ⟨bag, false, [], [], 0, 0⟩
 rw [hN] at hp
 have h3 : (3 : Nat) ^ 15 = 14348907 := by decide
 have hr := runs_ok s hn
 have hbg : Bg bag.length bag := ⟨rfl, fun i => (hb i).1⟩
 have key : ∀ S : List (List Gp), S.Perm N → (S.Pairwise fun a b => lcmp a b ≤ 0) → S = splR (runsB s) 20 bag := fun S h1 h2 => by
  rw [← splR_fuel hr hbg (show bag.sum < ((15 : Nat) : Int) by omega) (show bag.sum < ((20 : Nat) : Int) by omega)]
  refine spl_eq hr hbg (by omega) ?_ h2
  rw [← hN] at h1
  exact h1
 cases N with
 | nil =>
  have CS := obj_sort0 go
  (have fa := zT; (repeat' first | refine zJ (tg [700]) (CS) ?_ | refine zQ ?_ | (refine zN ?_; intro K hC hK) | ((repeat clear hJo hJU hJC Jo JU JC); (repeat (fail_if_success (refine hK _ ?_)); clear hK hC K); refine hK _ ?_; clear hK hC K) | (refine zC ?_ ?_ <;> intro hb) | (refine zK ?_; intro Jo JU JC hJo hJU hJC)) <;> (try clear fa))
  have e := key [] (List.Perm.refl _) List.Pairwise.nil
  rw [← e]
  refine AW_ret ?_; refine zU ?_; refine ⟨_, .rfl', .inr rfl, ?_, [], 2, finOk_nil, ?_⟩ <;> (have fa := zT; first | exact zE0 | (refine zE ?_; try clear fa))
  rfl
 | cons l0 N' =>
  have hN2 : (l0 :: N').length ≤ 1000000000 := by omega
  have hx : ∀ x ∈ l0 :: N', x.length ≤ 1000000 := fun x hx => by
   rw [← hN] at hx
   obtain ⟨r, hr1, rfl⟩ := List.mem_map.1 hx
   have := splP_small _ _ _ _ _ r hr1
   rw [(sortG_perm _).length_eq]; simp at this ⊢; omega
  have CE : AEx Tryz.prog 161 [.rsl 0 go 0 (l0 :: N').length, .clo 162 []] [(0, .arr go 1 ((l0 :: N').map (eGps false)))] (fun _ : List (List Gp) => .v (.tuple #[])) (fun l' => [(0, .arr go 1 (l'.map (eGps false)))]) (fun l' => l'.Perm (l0 :: N') ∧ l'.Pairwise fun a b => lcmp a b ≤ 0) :=
   acall_mono (own_sortL false go (l0 :: N') (by simp) hN2 hx) (by rintro x hl ⟨rfl, l', h1, h2, rfl⟩; exact ⟨l', ⟨h1, h2⟩, rfl, rfl⟩)
  obtain ⟨L, hL⟩ : ∃ L, l0 :: N' = L := ⟨_, rfl⟩
  rw [hL] at CE key ⊢
  (have fa := zT; (repeat' first | refine zQ ?_ | (refine zN ?_; intro K hC hK) | ((repeat clear hJo hJU hJC Jo JU JC); (repeat (fail_if_success (refine hK _ ?_)); clear hK hC K); refine hK _ ?_; clear hK hC K) | (refine zC ?_ ?_ <;> intro hb) | (refine zK ?_; intro Jo JU JC hJo hJU hJC)) <;> (try clear fa))
  (have fa := zT; refine zX (tg [700]) (CE) ?_; clear hJo hJU hJC Jo JU JC; (try clear fa)); intro xr hxr
  have e := key xr hxr.1 hxr.2
  have hl := hxr.1.length_eq
  have hT : xr.take L.length = xr := by rw [← hl, List.take_length]
  have hT2 : L.length ≤ xr.length := by omega
  (have fa := zT; (repeat' first | refine zQ ?_ | (refine zN ?_; intro K hC hK) | ((repeat clear hJo hJU hJC Jo JU JC); (repeat (fail_if_success (refine hK _ ?_)); clear hK hC K); refine hK _ ?_; clear hK hC K) | (refine zC ?_ ?_ <;> intro hb) | (refine zK ?_; intro Jo JU JC hJo hJU hJC)) <;> (try clear fa))
  rw [← e]
  refine AW_ret ?_; refine zU ?_; refine ⟨_, .rfl', .inr rfl, ?_, [], 2, finOk_nil, ?_⟩ <;> (have fa := (And.intro hT hT2); first | exact zE0 | (refine zE ?_; try clear fa))
end Go.Proofs.YthblfhgofopcaaaGreat

namespace Go.Proofs.YthblfhgofopcaaaGreat
open Go.RowKit
set_option maxRecDepth 100000
set_option maxHeartbeats 2000000
theorem mem_addL {l : List (List Gp)} {g x : List Gp} (h : x ∈ addL l g) : x = g ∨ x ∈ l := by
 unfold addL at h
 split at h
 ·exact .inr h
 ·rcases List.mem_append.1 h with h | h
  ·exact .inr (List.mem_of_mem_take h)
  ·rcases List.mem_cons.1 h with h | h
   ·exact .inl h
   ·exact .inr (List.mem_of_mem_drop h)
theorem len_addL (l : List (List Gp)) (g : List Gp) : (addL l g).length ≤ l.length + 1 := by
 unfold addL
 split
 ·omega
 ·have := atL_le l g l.length
  simp; omega
theorem mem_addAll {g : Gp} : ∀ {ls out : List (List Gp)} {x : List Gp}, x ∈ addAll g out ls → x ∈ out ∨ ∃ y ∈ ls, x = withL y g
 | [], _, _, h => .inl h
 | y :: ls, out, x, h => by
  rcases mem_addAll (ls := ls) h with h | ⟨z, hz, e⟩
  ·rcases mem_addL h with e | h
   ·exact .inr ⟨y, by simp, e⟩
   ·exact .inl h
  ·exact .inr ⟨z, by simp [hz], e⟩
theorem len_addAll {g : Gp} : ∀ (ls out : List (List Gp)), (addAll g out ls).length ≤ out.length + ls.length
 | [], out => by simp [addAll]
 | y :: ls, out => by
  have h1 := len_addAll (g := g) ls (addL out (withL y g))
  have h2 := len_addL out (withL y g)
  simp only [addAll, List.foldl_cons, List.length_cons] at *
  omega
theorem sg_with {l : List Gp} {g : Gp} (h : Sg l) (hg : Sg [g]) : Sg (withL l g) := fun x hx => by
 rcases (withL_perm l g).subset hx with _ | ⟨_, hx⟩
 ·exact hg _ (by simp)
 ·exact h _ ‹_›
theorem len_with (l : List Gp) (g : Gp) : (withL l g).length = l.length + 1 := by rw [(withL_perm l g).length_eq]; rfl
theorem grps_sg {rn : Int → Bool} {k : Nat} (hk : k ≤ 1000) {g : Gp} (h : g ∈ grps rn (k : Int)) : Sg [g] := fun x hx => by
 simp at hx; subst hx
 unfold grps at h
 split at h
 ·simp at h; rcases h with rfl | rfl <;> simp [gp] <;> omega
 ·simp at h; subst h; simp [gp]; omega
theorem meldsF_small {rn : Int → Bool} : ∀ (f : Nat) (bag : List Int), bag.length ≤ 1000 → (meldsF rn f bag).length ≤ 2 ^ f ∧ ∀ x ∈ meldsF rn f bag, Sg x ∧ x.length ≤ f
 | 0, _, _ => ⟨Nat.zero_le _, fun x h => by cases h⟩
 | f + 1, bag, hb => by
  unfold meldsF
  split
  ·exact ⟨Nat.one_le_two_pow, fun x hx => by simp at hx; subst hx; exact ⟨(fun y hy => by cases hy), Nat.zero_le _⟩⟩
  ·have hk := firstK_le bag
   have step : ∀ (g : Gp) (out : List (List Gp)), g ∈ grps rn (firstK bag) → (∀ x ∈ out, Sg x ∧ x.length ≤ f + 1) → (stepM rn f bag out g).length ≤ out.length + 2 ^ f ∧ ∀ x ∈ stepM rn f bag out g, Sg x ∧ x.length ≤ f + 1 := fun g out hg ho => by
    unfold stepM
    split
    ·exact ⟨Nat.le_add_right _ _, ho⟩
    ·rename_i r hr
     have hl : r.length ≤ 1000 := by
      have : ∀ (ks X : List Int) (r : List Int), lessO X ks = some r → r.length = X.length := by
       intro ks
       induction ks with
       | nil => intro X r h; simp [lessO] at h; rw [← h]
       | cons k ks ih =>
        intro X r h
        simp only [lessO] at h
        split at h
        ·cases h
        ·rw [ih _ _ h, dec1_len]
      rw [this _ _ _ hr]; exact hb
     have ih := meldsF_small (rn := rn) f r hl
     refine ⟨Nat.le_trans (len_addAll _ _) (by omega), fun x hx => ?_⟩
     rcases mem_addAll hx with hx | ⟨y, hy, rfl⟩
     ·exact ho x hx
     ·exact ⟨sg_with (ih.2 y hy).1 (grps_sg (by omega) hg), by rw [len_with]; have := (ih.2 y hy).2; omega⟩
   show (List.foldl (stepM rn f bag) [] (grps rn (firstK bag))).length ≤ _ ∧ ∀ x ∈ List.foldl (stepM rn f bag) [] (grps rn (firstK bag)), _
   have h2 : 2 ^ (f + 1) = 2 ^ f + 2 ^ f := by rw [Nat.pow_succ]; omega
   have gm : gp 2 (firstK bag) ∈ grps rn (firstK bag) := by simp [grps]
   have s1 := step (gp 2 (firstK bag)) [] gm (fun x h => by cases h)
   unfold grps at *
   split
   ·rename_i hr
    rw [if_pos hr] at step
    have s2 := step (gp 1 (firstK bag)) (stepM rn f bag [] (gp 2 (firstK bag))) (by simp) s1.2
    simp only [List.foldl_cons, List.foldl_nil]
    simp only [List.length_nil] at s1
    exact ⟨by omega, s2.2⟩
   ·simp only [List.foldl_cons, List.foldl_nil]
    simp only [List.length_nil] at s1
    exact ⟨by omega, s1.2⟩
theorem lessO_len : ∀ (ks X r : List Int), lessO X ks = some r → r.length = X.length
 | [], X, r, h => by simp [lessO] at h; rw [← h]
 | k :: ks, X, r, h => by
  simp only [lessO] at h
  split at h
  ·cases h
  ·rw [lessO_len ks _ _ h, dec1_len]
theorem stepM_small {rn : Int → Bool} {f : Nat} {bag : List Int} (hb : bag.length ≤ 1000) {g : Gp} {out : List (List Gp)} (hg : g ∈ grps rn (firstK bag)) (ho : ∀ x ∈ out, Sg x ∧ x.length ≤ f + 1) : (stepM rn f bag out g).length ≤ out.length + 2 ^ f ∧ ∀ x ∈ stepM rn f bag out g, Sg x ∧ x.length ≤ f + 1 := by
 have hk := firstK_le bag
 unfold stepM
 split
 ·exact ⟨Nat.le_add_right _ _, ho⟩
 ·rename_i r hr
  have hl : r.length ≤ 1000 := by rw [lessO_len _ _ _ hr]; exact hb
  have ih := meldsF_small (rn := rn) f r hl
  refine ⟨Nat.le_trans (len_addAll _ _) (by omega), fun x hx => ?_⟩
  rcases mem_addAll hx with hx | ⟨y, hy, rfl⟩
  ·exact ho x hx
  ·exact ⟨sg_with (ih.2 y hy).1 (grps_sg (by omega) hg), by rw [len_with]; have := (ih.2 y hy).2; omega⟩
theorem foldM_small {rn : Int → Bool} {f : Nat} {bag : List Int} (hb : bag.length ≤ 1000) : ∀ (L : List Gp) (out : List (List Gp)), (∀ g ∈ L, g ∈ grps rn (firstK bag)) → (∀ x ∈ out, Sg x ∧ x.length ≤ f + 1) → (L.foldl (stepM rn f bag) out).length ≤ out.length + L.length * 2 ^ f ∧ ∀ x ∈ L.foldl (stepM rn f bag) out, Sg x ∧ x.length ≤ f + 1
 | [], out, _, ho => ⟨by simp, ho⟩
 | g :: L, out, hL, ho => by
  have s1 := stepM_small hb (hL g (by simp)) ho
  have s2 := foldM_small hb L _ (fun g hg => hL g (by simp [hg])) s1.2
  refine ⟨?_, s2.2⟩
  rw [List.foldl_cons, List.length_cons, Nat.succ_mul]
  omega
theorem addAll_take (g : Gp) (out l : List (List Gp)) {k : Nat} (h : k < l.length) : addL (addAll g out (l.take k)) (withL l[k] g) = addAll g out (l.take (k + 1)) := by
 unfold addAll
 rw [List.take_succ_eq_append_getElem h, List.foldl_append]; rfl
theorem foldM_take (rn : Int → Bool) (f : Nat) (bag : List Int) (L : List Gp) {k : Nat} (h : k < L.length) : stepM rn f bag ((L.take k).foldl (stepM rn f bag) []) L[k] = (L.take (k + 1)).foldl (stepM rn f bag) [] := by
 rw [List.take_succ_eq_append_getElem h, List.foldl_append]; rfl
theorem meldsF_succ (rn : Int → Bool) (f : Nat) (bag : List Int) (h : ¬ firstK bag = bag.length) : meldsF rn (f + 1) bag = (grps rn (firstK bag)).foldl (stepM rn f bag) [] := by
 rw [meldsF, if_neg h]; rfl
theorem Sb.bg {X : List Int} (h : Sb X) : ∀ i, 0 ≤ X.getD i 0 := fun i => (h i).1
theorem less_ok {bag ks r : List Int} (hb : Sb bag) (hk : InB bag.length ks) (h : lessO bag ks = some r) : Sb r ∧ r.length = bag.length ∧ r.sum = bag.sum - ks.length := by
 rcases lessO_ok ks bag hk hb.bg with ⟨h1, h2⟩ | ⟨h1, _⟩
 ·rw [h1] at h
  injection h with h
  subst h
  refine ⟨fun i => ?_, decL_len _ _, decL_sum _ _ hk⟩
  have := h2 i; have := hb i; have := cntI_nonneg ks i
  rw [decL_get _ _ hk]; omega
 ·rw [h1] at h; cases h
theorem kinds_bound (s : TSet) : kindsI s ≤ 60 := by have := kinds_co s; omega
theorem grps_tiles {s : TSet} {bag : List Int} (hn : (bag.length : Int) = kindsI s) {k : Nat} (hk : k < bag.length) {g : Gp} (h : g ∈ grps (runsB s) (k : Int)) : 0 ≤ g.kd ∧ g.kd ≤ 1000000 ∧ g.kd = (k : Int) ∧ InB bag.length (tilesL g.wh g.kd) ∧ (tilesL g.wh g.kd).length = 3 := by
 have h2 := mem_grps.1 h
 have m := grps_meld (n := bag.length) h hk
 have hr : RunsOk bag.length (runsB s) := fun z hz => by have := runs_in hz; omega
 exact ⟨by omega, by have := kinds_bound s; omega, h2.2.1, m.tiles hr, m.len⟩
set_option maxHeartbeats 4000000 in
theorem says_rmelds (s : TSet) (hv : chkErr s = 0) : ∀ (f : Nat) (bag : List Int), f ≤ 20 → Sb bag → (bag.length : Int) = kindsI s → bag.sum < (f : Int) → ASays Tryz.prog 163 [eSet s, eInts false bag] (eLL false (meldsF (runsB s) f bag))
 | 0, bag, _, hb, _, hs => absurd hs (by have := sum_nonneg hb.bg; omega)
 | f + 1, bag, hf, hb, hn, hs => by
  have ih := fun (r : List Int) (h1 : Sb r) (h2 : (r.length : Int) = kindsI s) (h3 : r.sum < (f : Int)) => says_rmelds s hv f r (by omega) h1 h2 h3
  have hK := kinds_le hv
  have fk := firstK_le bag
  refine asays_low ?_
  refine acall_ofW (nx := 0) (ne := 0) tysGood (DD_ok tysGood mixed _) Tryz.func163 (by rfl) (by rfl) (by simp [Tryz.ntmps163]) (fun p hp => by cases hp) ?_; rw [Tryz.ntmps163]; let tb := ord_163; let lv := live_163
  (have fa := zT; (repeat' first | refine zQ ?_ | (refine zN ?_; intro K hC hK) | ((repeat clear hJo hJU hJC Jo JU JC); (repeat (fail_if_success (refine hK _ ?_)); clear hK hC K); refine hK _ ?_; clear hK hC K) | (refine zC ?_ ?_ <;> intro hb) | (refine zK ?_; intro Jo JU JC hJo hJU hJC)) <;> (try clear fa))
  refine AW_forC (firstK bag) (fun k σ => σ = ⟨900, [(1, eInts false bag), (2, .ref 0 0 0 0), (5, I k)], [(0, .arr 0 9 [eSet s])]⟩) [(0, 0)] [(0, 0)] 0 [1, 2, 5] 900 (finOk0 (by decide) (by decide)) (finOk0 (by decide) (by decide)) (by (have fa := zT; exact zV)) ?_
  rintro k σ' hk rfl J hcJ hJ
  by_cases h : k < firstK bag
  ·have h0 : bag[k]'(by omega) = 0 := by have := firstK_lt bag k h; simpa [show k < bag.length by omega] using this
   (have fa := zT; (repeat' first | refine zQ ?_ | (refine zN ?_; intro K hC hK) | ((repeat clear hJo hJU hJC Jo JU JC); (repeat (fail_if_success (refine hK _ ?_)); clear hK hC K); refine hK _ ?_; clear hK hC K) | (refine zC ?_ ?_ <;> intro hb) | (refine zK ?_; intro Jo JU JC hJo hJU hJC)) <;> (try clear fa))
   exact hJ _ h (by (have fa := zT; exact zV))
  ·obtain rfl : k = firstK bag := by omega
   by_cases he : firstK bag = bag.length
   ·(have fa := zT; (repeat' first | refine zQ ?_ | (refine zN ?_; intro K hC hK) | ((repeat clear hJo hJU hJC Jo JU JC); (repeat (fail_if_success (refine hK _ ?_)); clear hK hC K); refine hK _ ?_; clear hK hC K) | (refine zC ?_ ?_ <;> intro hb) | (refine zK ?_; intro Jo JU JC hJo hJU hJC)) <;> (try clear fa))
    refine AW_ret ?_; refine zU ?_; refine ⟨_, .rfl', .inr rfl, ?_, [], 2, finOk_nil, ?_⟩ <;> (have fa := zT; first | exact zE0 | (refine zE ?_; try clear fa))
    simp [meldsF, he, AV.low, lowL]
   ·have h0 : bag[firstK bag]'(by omega) ≠ 0 := by have := firstK_ne bag (by omega); simpa [show firstK bag < bag.length by omega] using this
    have hU := meldsF_succ (runsB s) f bag he
    obtain ⟨k, hkk⟩ : ∃ k, k = firstK bag := ⟨_, rfl⟩
    cases hr : runsB s (firstK bag)
    all_goals have CR := says_rRuns s (firstK bag)
    all_goals rw [hr] at CR
    ·(have fa := zT; (repeat' first | refine zS (CR) ?_ | refine zQ ?_ | (refine zN ?_; intro K hC hK) | ((repeat clear hJo hJU hJC Jo JU JC); (repeat (fail_if_success (refine hK _ ?_)); clear hK hC K); refine hK _ ?_; clear hK hC K) | (refine zC ?_ ?_ <;> intro hb) | (refine zK ?_; intro Jo JU JC hJo hJU hJC)) <;> (try clear fa))
     obtain ⟨G, hG⟩ : ∃ G, G = grps (runsB s) (firstK bag) := ⟨_, rfl⟩
     have hGe : G = [gp 2 (firstK bag)] := by rw [hG]; simp [grps, hr]
     rw [← hG] at hU
     have hGl : G.length ≤ 2 := by rw [hGe]; simp
     refine AW_loopG (α := Nat × List (List Gp)) (fun x => [(1, eInts false bag), (2, .ref 0 0 0 0), (6, .rsl 1 0 0 G.length), (7, eLL false x.2), (8, I x.1)]) (fun _ => [(0, .arr 0 9 [eSet s]), (1, .arr 0 3 (G.map eGp))]) (fun x => G.length - x.1) (fun x => x.1 ≤ G.length ∧ x.2 = (G.take x.1).foldl (stepM (runsB s) f bag) []) [(0, 0), (1172, 1)] [(0, 0), (1, 1)] 1 [1, 2, 6, 7, 8] 900 (finOk0 (by decide) (by decide)) (finOk0 (by decide) (by decide)) (0, []) ⟨Nat.zero_le _, rfl⟩ (by (have fa := hGe; exact zSF)) ?_
     rintro ⟨i, out⟩ ⟨hi, hout⟩ J hcJ hJ
     dsimp only at hi hout hJ ⊢
     have small := foldM_small (rn := runsB s) (f := f) (bag := bag) (by omega) (G.take i) [] (fun g hg => hG ▸ List.mem_of_mem_take hg) (fun x hx => by cases hx)
     rw [← hout] at small
     have hp2 : (2 : Nat) ^ f ≤ 2 ^ 20 := Nat.pow_le_pow_right (by omega) (by omega)
     by_cases h : i < G.length
     ·obtain ⟨g, hg⟩ : ∃ g, G[i] = g := ⟨_, rfl⟩
      have hgm : g ∈ grps (runsB s) (firstK bag) := by rw [← hG, ← hg]; exact List.getElem_mem h
      obtain ⟨k0, k1, k2, k3, k4⟩ := grps_tiles hn (by omega) hgm
      have hft := foldM_take (runsB s) f bag G h
      rw [← hout, hg] at hft
      have CT := says_rtiles g k0 (by omega)
      obtain ⟨tl, htl⟩ : ∃ tl, tilesL g.wh g.kd = tl := ⟨_, rfl⟩
      have hst : stepM (runsB s) f bag out g = match lessO bag tl with | none => out | some r => addAll g out (meldsF (runsB s) f r) := by rw [stepM, htl]; rfl
      rw [htl] at CT k3 k4
      have CL := says_less bag tl hb k3 (by omega) (by omega)
      cases hle : lessO bag tl with
      | none =>
       rw [hle] at CL hst
       have CL : ASays Tryz.prog 146 [eInts false bag, eInts false tl] (.v (.slice none 0 0)) := CL
       dsimp only at hst
       (have fa := (And.intro hg (And.intro @nilO.eq_1 @nilA.eq_1)); (repeat' first | refine zS (CT) ?_ | refine zS (CL) ?_ | refine zQ ?_ | (refine zN ?_; intro K hC hK) | ((repeat clear hJo hJU hJC Jo JU JC); (repeat (fail_if_success (refine hK _ ?_)); clear hK hC K); refine hK _ ?_; clear hK hC K) | (refine zC ?_ ?_ <;> intro hb) | (refine zK ?_; intro Jo JU JC hJo hJU hJC)) <;> (try clear fa))
       refine hJ _ (i + 1, out) (by simp; omega) ⟨by simp; omega, by rw [← hft, hst]⟩ (by (have fa := zT; exact zSF))
      | some r =>
       rw [hle] at CL hst
       have CL : ASays Tryz.prog 146 [eInts false bag, eInts false tl] (eInts true r) := CL
       dsimp only at hst
       obtain ⟨r1, r2, r3⟩ := less_ok hb k3 hle
       have CM := ih r r1 (by omega) (by omega)
       have sm := meldsF_small (rn := runsB s) f r (by omega)
       obtain ⟨ls, hls⟩ : ∃ ls, meldsF (runsB s) f r = ls := ⟨_, rfl⟩
       rw [hls] at CM sm hst
       have rne : r ≠ [] := fun h => by rw [h] at r2; simp at r2; omega
       (have fa := (And.intro hg (And.intro @nilO.eq_1 (And.intro rne (And.intro @List.map_eq_nil_iff.{0, 0} (And.intro @ne_eq.{1} @not_false_eq_true))))); (repeat' first | refine zS (CT) ?_ | refine zS (CL) ?_ | refine zS (CM) ?_ | refine zQ ?_ | (refine zN ?_; intro K hC hK) | ((repeat clear hJo hJU hJC Jo JU JC); (repeat (fail_if_success (refine hK _ ?_)); clear hK hC K); refine hK _ ?_; clear hK hC K) | (refine zC ?_ ?_ <;> intro hb) | (refine zK ?_; intro Jo JU JC hJo hJU hJC)) <;> (try clear fa))
       refine AW_loopG (α := Nat × List (List Gp)) (fun x => [(1, eInts false bag), (2, .ref 0 0 0 0), (6, .rsl 1 0 0 G.length), (7, eLL false x.2), (8, I i), (10, eLL false ls), (11, I x.1)]) (fun _ => [(0, .arr 0 9 [eSet s]), (1, .arr 0 3 (G.map eGp))]) (fun x => ls.length - x.1) (fun x => x.1 ≤ ls.length ∧ x.2 = addAll g out (ls.take x.1)) [(0, 0), (1, 1)] [(0, 0), (1, 1)] 1 [1, 2, 6, 7, 8, 10, 11] 900 (finOk0 (by decide) (by decide)) (finOk0 (by decide) (by decide)) (0, out) ⟨Nat.zero_le _, rfl⟩ (by (have fa := zT; exact zSF)) ?_
       rintro ⟨n, o2⟩ ⟨hn2, ho2⟩ J2 hcJ2 hJ2
       dsimp only at hn2 ho2 hJ2 ⊢
       have so : Sl o2 := fun x hx => by
        rw [ho2] at hx
        rcases mem_addAll hx with hx | ⟨y, hy, rfl⟩
        ·exact ⟨(small.2 x hx).1, by have := (small.2 x hx).2; omega⟩
        ·have hy := sm.2 y (List.mem_of_mem_take hy)
         exact ⟨sg_with hy.1 (grps_sg (by omega) hgm), by rw [len_with]; have := hy.2; omega⟩
       have lo : o2.length ≤ 1000000000 := by
        have h1 := len_addAll (g := g) (ls.take n) out
        rw [← ho2, List.length_take] at h1
        have h2 := small.1
        have h3 : (G.take i).length * 2 ^ f ≤ 2 * 2 ^ 20 := Nat.mul_le_mul (by rw [List.length_take]; omega) hp2
        simp only [List.length_nil] at h2
        omega
       by_cases h2 : n < ls.length
       ·have sy := sm.2 ls[n] (List.getElem_mem h2)
        have sgg := grps_sg (rn := runsB s) (k := firstK bag) (by omega) hgm
        have CW := says_with ls[n] g sy.1 sgg (by omega)
        have CA := says_add o2 (withL ls[n] g) so (sg_with sy.1 sgg) (by rw [len_with]; omega) lo
        have hl2 : ls.length ≤ 2 ^ 20 := by omega
        (have fa := hg; (repeat' first | refine zS (CW) ?_ | refine zS (CA) ?_ | refine zQ ?_ | (refine zN ?_; intro K hC hK) | ((repeat clear hJo hJU hJC Jo JU JC); (repeat (fail_if_success (refine hK _ ?_)); clear hK hC K); refine hK _ ?_; clear hK hC K) | (refine zC ?_ ?_ <;> intro hb) | (refine zK ?_; intro Jo JU JC hJo hJU hJC)) <;> (try clear fa))
        refine hJ2 _ (n + 1, addL o2 (withL ls[n] g)) (by simp; omega) ⟨by simp; omega, by rw [ho2]; exact addAll_take g out ls h2⟩ (by (have fa := zT; exact zSF))
       ·(have fa := zT; (repeat' first | refine zQ ?_ | (refine zN ?_; intro K hC hK) | ((repeat clear hJo hJU hJC Jo JU JC); (repeat (fail_if_success (refine hK _ ?_)); clear hK hC K); refine hK _ ?_; clear hK hC K) | (refine zC ?_ ?_ <;> intro hb) | (refine zK ?_; intro Jo JU JC hJo hJU hJC)) <;> (try clear fa))
        have e2 : ls.take n = ls := List.take_of_length_le (by omega)
        refine hJ _ (i + 1, o2) (by simp; omega) ⟨by simp; omega, by rw [← hft, hst, ho2, e2]⟩ (by (have fa := zT; exact zSF))
     ·(have fa := zT; (repeat' first | refine zQ ?_ | (refine zN ?_; intro K hC hK) | ((repeat clear hJo hJU hJC Jo JU JC); (repeat (fail_if_success (refine hK _ ?_)); clear hK hC K); refine hK _ ?_; clear hK hC K) | (refine zC ?_ ?_ <;> intro hb) | (refine zK ?_; intro Jo JU JC hJo hJU hJC)) <;> (try clear fa))
      refine AW_ret ?_; refine zU ?_; refine ⟨_, .rfl', .inr rfl, ?_, [], 2, finOk_nil, ?_⟩ <;> (have fa := zT; first | exact zE0 | (refine zE ?_; try clear fa))
      rw [hU, hout, List.take_of_length_le (by omega)]
    ·(have fa := zT; (repeat' first | refine zS (CR) ?_ | refine zQ ?_ | (refine zN ?_; intro K hC hK) | ((repeat clear hJo hJU hJC Jo JU JC); (repeat (fail_if_success (refine hK _ ?_)); clear hK hC K); refine hK _ ?_; clear hK hC K) | (refine zC ?_ ?_ <;> intro hb) | (refine zK ?_; intro Jo JU JC hJo hJU hJC)) <;> (try clear fa))
     obtain ⟨G, hG⟩ : ∃ G, G = grps (runsB s) (firstK bag) := ⟨_, rfl⟩
     have hGe : G = [gp 2 (firstK bag), gp 1 (firstK bag)] := by rw [hG]; simp [grps, hr]
     rw [← hG] at hU
     have hGl : G.length ≤ 2 := by rw [hGe]; simp
     refine AW_loopG (α := Nat × List (List Gp)) (fun x => [(1, eInts false bag), (2, .ref 0 0 0 0), (6, .rsl 1 1 0 G.length), (7, eLL false x.2), (8, I x.1)]) (fun _ => [(0, .arr 0 9 [eSet s]), (1, .arr 1 3 (G.map eGp))]) (fun x => G.length - x.1) (fun x => x.1 ≤ G.length ∧ x.2 = (G.take x.1).foldl (stepM (runsB s) f bag) []) [(0, 0), (1172, 1)] [(0, 0), (1, 1)] 1 [1, 2, 6, 7, 8] 900 (finOk0 (by decide) (by decide)) (finOk0 (by decide) (by decide)) (0, []) ⟨Nat.zero_le _, rfl⟩ (by (have fa := hGe; exact zSF)) ?_
     rintro ⟨i, out⟩ ⟨hi, hout⟩ J hcJ hJ
     dsimp only at hi hout hJ ⊢
     have small := foldM_small (rn := runsB s) (f := f) (bag := bag) (by omega) (G.take i) [] (fun g hg => hG ▸ List.mem_of_mem_take hg) (fun x hx => by cases hx)
     rw [← hout] at small
     have hp2 : (2 : Nat) ^ f ≤ 2 ^ 20 := Nat.pow_le_pow_right (by omega) (by omega)
     by_cases h : i < G.length
     ·obtain ⟨g, hg⟩ : ∃ g, G[i] = g := ⟨_, rfl⟩
      have hgm : g ∈ grps (runsB s) (firstK bag) := by rw [← hG, ← hg]; exact List.getElem_mem h
      obtain ⟨k0, k1, k2, k3, k4⟩ := grps_tiles hn (by omega) hgm
      have hft := foldM_take (runsB s) f bag G h
      rw [← hout, hg] at hft
      have CT := says_rtiles g k0 (by omega)
      obtain ⟨tl, htl⟩ : ∃ tl, tilesL g.wh g.kd = tl := ⟨_, rfl⟩
      have hst : stepM (runsB s) f bag out g = match lessO bag tl with | none => out | some r => addAll g out (meldsF (runsB s) f r) := by rw [stepM, htl]; rfl
      rw [htl] at CT k3 k4
      have CL := says_less bag tl hb k3 (by omega) (by omega)
      cases hle : lessO bag tl with
      | none =>
       rw [hle] at CL hst
       have CL : ASays Tryz.prog 146 [eInts false bag, eInts false tl] (.v (.slice none 0 0)) := CL
       dsimp only at hst
       (have fa := (And.intro hg (And.intro @nilO.eq_1 @nilA.eq_1)); (repeat' first | refine zS (CT) ?_ | refine zS (CL) ?_ | refine zQ ?_ | (refine zN ?_; intro K hC hK) | ((repeat clear hJo hJU hJC Jo JU JC); (repeat (fail_if_success (refine hK _ ?_)); clear hK hC K); refine hK _ ?_; clear hK hC K) | (refine zC ?_ ?_ <;> intro hb) | (refine zK ?_; intro Jo JU JC hJo hJU hJC)) <;> (try clear fa))
       refine hJ _ (i + 1, out) (by simp; omega) ⟨by simp; omega, by rw [← hft, hst]⟩ (by (have fa := zT; exact zSF))
      | some r =>
       rw [hle] at CL hst
       have CL : ASays Tryz.prog 146 [eInts false bag, eInts false tl] (eInts true r) := CL
       dsimp only at hst
       obtain ⟨r1, r2, r3⟩ := less_ok hb k3 hle
       have CM := ih r r1 (by omega) (by omega)
       have sm := meldsF_small (rn := runsB s) f r (by omega)
       obtain ⟨ls, hls⟩ : ∃ ls, meldsF (runsB s) f r = ls := ⟨_, rfl⟩
       rw [hls] at CM sm hst
       have rne : r ≠ [] := fun h => by rw [h] at r2; simp at r2; omega
       (have fa := (And.intro hg (And.intro @nilO.eq_1 (And.intro rne (And.intro @List.map_eq_nil_iff.{0, 0} (And.intro @ne_eq.{1} @not_false_eq_true))))); (repeat' first | refine zS (CT) ?_ | refine zS (CL) ?_ | refine zS (CM) ?_ | refine zQ ?_ | (refine zN ?_; intro K hC hK) | ((repeat clear hJo hJU hJC Jo JU JC); (repeat (fail_if_success (refine hK _ ?_)); clear hK hC K); refine hK _ ?_; clear hK hC K) | (refine zC ?_ ?_ <;> intro hb) | (refine zK ?_; intro Jo JU JC hJo hJU hJC)) <;> (try clear fa))
       refine AW_loopG (α := Nat × List (List Gp)) (fun x => [(1, eInts false bag), (2, .ref 0 0 0 0), (6, .rsl 1 1 0 G.length), (7, eLL false x.2), (8, I i), (10, eLL false ls), (11, I x.1)]) (fun _ => [(0, .arr 0 9 [eSet s]), (1, .arr 1 3 (G.map eGp))]) (fun x => ls.length - x.1) (fun x => x.1 ≤ ls.length ∧ x.2 = addAll g out (ls.take x.1)) [(0, 0), (1, 1)] [(0, 0), (1, 1)] 1 [1, 2, 6, 7, 8, 10, 11] 900 (finOk0 (by decide) (by decide)) (finOk0 (by decide) (by decide)) (0, out) ⟨Nat.zero_le _, rfl⟩ (by (have fa := zT; exact zSF)) ?_
       rintro ⟨n, o2⟩ ⟨hn2, ho2⟩ J2 hcJ2 hJ2
       dsimp only at hn2 ho2 hJ2 ⊢
       have so : Sl o2 := fun x hx => by
        rw [ho2] at hx
        rcases mem_addAll hx with hx | ⟨y, hy, rfl⟩
        ·exact ⟨(small.2 x hx).1, by have := (small.2 x hx).2; omega⟩
        ·have hy := sm.2 y (List.mem_of_mem_take hy)
         exact ⟨sg_with hy.1 (grps_sg (by omega) hgm), by rw [len_with]; have := hy.2; omega⟩
       have lo : o2.length ≤ 1000000000 := by
        have h1 := len_addAll (g := g) (ls.take n) out
        rw [← ho2, List.length_take] at h1
        have h2 := small.1
        have h3 : (G.take i).length * 2 ^ f ≤ 2 * 2 ^ 20 := Nat.mul_le_mul (by rw [List.length_take]; omega) hp2
        simp only [List.length_nil] at h2
        omega
       by_cases h2 : n < ls.length
       ·have sy := sm.2 ls[n] (List.getElem_mem h2)
        have sgg := grps_sg (rn := runsB s) (k := firstK bag) (by omega) hgm
        have CW := says_with ls[n] g sy.1 sgg (by omega)
        have CA := says_add o2 (withL ls[n] g) so (sg_with sy.1 sgg) (by rw [len_with]; omega) lo
        have hl2 : ls.length ≤ 2 ^ 20 := by omega
        (have fa := hg; (repeat' first | refine zS (CW) ?_ | refine zS (CA) ?_ | refine zQ ?_ | (refine zN ?_; intro K hC hK) | ((repeat clear hJo hJU hJC Jo JU JC); (repeat (fail_if_success (refine hK _ ?_)); clear hK hC K); refine hK _ ?_; clear hK hC K) | (refine zC ?_ ?_ <;> intro hb) | (refine zK ?_; intro Jo JU JC hJo hJU hJC)) <;> (try clear fa))
        refine hJ2 _ (n + 1, addL o2 (withL ls[n] g)) (by simp; omega) ⟨by simp; omega, by rw [ho2]; exact addAll_take g out ls h2⟩ (by (have fa := zT; exact zSF))
       ·(have fa := zT; (repeat' first | refine zQ ?_ | (refine zN ?_; intro K hC hK) | ((repeat clear hJo hJU hJC Jo JU JC); (repeat (fail_if_success (refine hK _ ?_)); clear hK hC K); refine hK _ ?_; clear hK hC K) | (refine zC ?_ ?_ <;> intro hb) | (refine zK ?_; intro Jo JU JC hJo hJU hJC)) <;> (try clear fa))
        have e2 : ls.take n = ls := List.take_of_length_le (by omega)
        refine hJ _ (i + 1, o2) (by simp; omega) ⟨by simp; omega, by rw [← hft, hst, ho2, e2]⟩ (by (have fa := zT; exact zSF))
     ·(have fa := zT; (repeat' first | refine zQ ?_ | (refine zN ?_; intro K hC hK) | ((repeat clear hJo hJU hJC Jo JU JC); (repeat (fail_if_success (refine hK _ ?_)); clear hK hC K); refine hK _ ?_; clear hK hC K) | (refine zC ?_ ?_ <;> intro hb) | (refine zK ?_; intro Jo JU JC hJo hJU hJC)) <;> (try clear fa))
      refine AW_ret ?_; refine zU ?_; refine ⟨_, .rfl', .inr rfl, ?_, [], 2, finOk_nil, ?_⟩ <;> (have fa := zT; first | exact zE0 | (refine zE ?_; try clear fa))
      rw [hU, hout, List.take_of_length_le (by omega)]
end Go.Proofs.YthblfhgofopcaaaGreat
