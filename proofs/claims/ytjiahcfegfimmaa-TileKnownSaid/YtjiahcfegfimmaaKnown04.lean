/-
  Parts of the proof: Lcg, Shuf, Src.
-/
import Derived.IntWalk
import Derived.Test.YtjiahcfegfimmaaKnown02
import Derived.BigQuiet
import Derived.Deep.QuietTactic
/-
  The words of a seed: a draw ends. Plain laws.
-/
namespace Go.Proofs.Ytjiahcfegfimmaa
open Go.RowKit

theorem u64_wrap (n : Int) : IntKind.u64.wrap n = n % 18446744073709551616 := by
  simp only [IntKind.wrap, IntKind.bits, IntKind.signed]
  simp
def stepZ (x : Int) : Int := IntKind.u64.wrap (IntKind.u64.wrap (x * 6364136223846793005) + 1442695040888963407)
def wordZ (y : Int) : Int := wrap64 (y / 8589934592)
def limZ (n : Int) : Int := wrap64 (2147483648 - 2147483648 % n)
def U64 (x : Int) : Prop := 0 ≤ x ∧ x < 18446744073709551616
theorem step_u64 (x : Int) : U64 (stepZ x) := by
  unfold stepZ U64
  rw [u64_wrap]
  omega
theorem stepZ_eq (x : Int) : stepZ x = (x * 6364136223846793005 + 1442695040888963407) % 18446744073709551616 := by
  unfold stepZ
  rw [u64_wrap, u64_wrap, Int.emod_add_emod]
theorem wordZ_eq {y : Int} (h : U64 y) : wordZ y = y / 8589934592 ∧ 0 ≤ wordZ y ∧ wordZ y < 2147483648 := by
  unfold U64 at h
  have e : wordZ y = y / 8589934592 := by unfold wordZ wrap64; omega
  rw [e]
  omega
theorem limZ_eq {n : Int} (h0 : 2 ≤ n) (h1 : n ≤ 1000) : limZ n = 2147483648 - 2147483648 % n ∧ 2147482648 < limZ n ∧ limZ n ≤ 2147483648 := by
  have m0 := Int.emod_nonneg 2147483648 (show n ≠ 0 by omega)
  have m1 := Int.emod_lt_of_pos 2147483648 (show 0 < n by omega)
  have e : limZ n = 2147483648 - 2147483648 % n := by unfold limZ wrap64; omega
  rw [e]
  omega
def iterZ : Nat → Int → Int
  | 0, x => x
  | k + 1, x => iterZ k (stepZ x)
theorem iterZ_add (a b : Nat) (x : Int) : iterZ (a + b) x = iterZ b (iterZ a x) := by
  induction a generalizing x with
  | zero => rw [Nat.zero_add]; rfl
  | succ a ih => rw [Nat.succ_add]; exact ih (stepZ x)
theorem iterZ_succ (k : Nat) (x : Int) : iterZ (k + 1) x = stepZ (iterZ k x) := iterZ_add k 1 x
/-- The factor and the summand of 2^k steps. -/
def pwN : Nat → Nat × Nat
  | 0 => (6364136223846793005, 1442695040888963407)
  | k + 1 => ((pwN k).1 * (pwN k).1 % 18446744073709551616, ((pwN k).2 * (pwN k).1 + (pwN k).2) % 18446744073709551616)
theorem aff_twice (x a c : Int) : ((x * a + c) % 18446744073709551616 * a + c) % 18446744073709551616 = (x * (a * a % 18446744073709551616) + (c * a + c) % 18446744073709551616) % 18446744073709551616 := by
  have e1 := Int.mul_ediv_add_emod (x * a + c) 18446744073709551616
  have e2 := Int.mul_ediv_add_emod (a * a) 18446744073709551616
  have e3 := Int.mul_ediv_add_emod (c * a + c) 18446744073709551616
  refine Int.emod_eq_emod_iff_emod_sub_eq_zero.2 (Int.emod_eq_zero_of_dvd ?_)
  refine ⟨- ((x * a + c) / 18446744073709551616) * a + x * (a * a / 18446744073709551616) + (c * a + c) / 18446744073709551616, ?_⟩
  generalize (x * a + c) % 18446744073709551616 = r1 at *
  generalize (x * a + c) / 18446744073709551616 = q1 at *
  generalize a * a % 18446744073709551616 = r2 at *
  generalize a * a / 18446744073709551616 = q2 at *
  generalize (c * a + c) % 18446744073709551616 = r3 at *
  generalize (c * a + c) / 18446744073709551616 = q3 at *
  obtain rfl : r1 = x * a + c - 18446744073709551616 * q1 := by omega
  obtain rfl : r2 = a * a - 18446744073709551616 * q2 := by omega
  obtain rfl : r3 = c * a + c - 18446744073709551616 * q3 := by omega
  grind
theorem iterZ_pw (k : Nat) (x : Int) : iterZ (2 ^ k) x = (x * (pwN k).1 + (pwN k).2) % 18446744073709551616 := by
  induction k generalizing x with
  | zero => exact stepZ_eq x
  | succ k ih =>
    rw [Nat.pow_succ, Nat.mul_two, iterZ_add, ih, ih, aff_twice]
    simp [pwN]
theorem pwN_63 : pwN 63 = (1, 9223372036854775808) := by decide +kernel
/-- Half of all states; hidden, for it is large. -/
structure Half (k : Nat) : Prop where
  eq : k = 2 ^ 63
theorem half_is : ∃ k, Half k := ⟨2 ^ 63, ⟨rfl⟩⟩
theorem iterZ_63 {k : Nat} (hk : Half k) {y : Int} (h : U64 y) (hy : 9223372036854775808 ≤ y) : iterZ k y = y - 9223372036854775808 := by
  unfold U64 at h
  rw [hk.eq]
  rw [iterZ_pw, pwN_63]
  simp
  omega
/-- The next word is taken. -/
def okZ (n x : Int) : Prop := wordZ (stepZ x) < limZ n
theorem draw_ends {n : Int} (h0 : 2 ≤ n) (h1 : n ≤ 1000) (x : Int) : ∃ k, okZ n (iterZ k x) := by
  by_cases h : okZ n x
  · exact ⟨0, h⟩
  · have hl := limZ_eq h0 h1
    have hu := step_u64 x
    have hw := wordZ_eq hu
    unfold okZ at h
    have hb : 9223372036854775808 ≤ stepZ x := by omega
    obtain ⟨half, hh⟩ := half_is
    have hi := iterZ_63 hh hu hb
    clear hh
    refine ⟨half, ?_⟩
    have e : stepZ (iterZ half x) = stepZ x - 9223372036854775808 := by
      rw [← iterZ_succ]
      exact hi
    unfold okZ
    rw [e]
    unfold U64 at hu
    have h2 := wordZ_eq (y := stepZ x - 9223372036854775808) ⟨by omega, by omega⟩
    omega
theorem least_of {P : Nat → Prop} (h : ∃ k, P k) : ∃ k, P k ∧ ∀ j, j < k → ¬ P j := by
  obtain ⟨k, hk⟩ := h
  induction k using Nat.strongRecOn with
  | ind k ih =>
    by_cases hj : ∃ j, j < k ∧ P j
    · obtain ⟨j, hjk, hp⟩ := hj
      exact ih j hjk hp
    · exact ⟨k, hk, fun j hjk hp => hj ⟨j, hjk, hp⟩⟩
/-- How many words are thrown away. -/
def Thrown (n x : Int) (k : Nat) : Prop := okZ n (iterZ k x) ∧ ∀ j, j < k → ¬ okZ n (iterZ j x)
theorem thrown_one {n x : Int} {a b : Nat} (h : Thrown n x a) (k : Thrown n x b) : a = b := by
  rcases Nat.lt_trichotomy a b with hl | rfl | hl
  · exact absurd h.1 (k.2 a hl)
  · rfl
  · exact absurd k.1 (h.2 b hl)
open Classical in
noncomputable def drawK (n x : Int) : Nat := if h : ∃ k, Thrown n x k then h.choose else 0
theorem drawK_eq {n x : Int} {k : Nat} (h : Thrown n x k) : drawK n x = k := by
  have he : ∃ k, Thrown n x k := ⟨k, h⟩
  unfold drawK
  rw [dif_pos he]
  exact thrown_one he.choose_spec h
/-- The state after a draw, and what is drawn. -/
noncomputable def drawX (n x : Int) : Int := stepZ (iterZ (drawK n x) x)
noncomputable def drawV (n x : Int) : Int := wordZ (drawX n x) % n
theorem draw_ok {n x : Int} (h : okZ n x) : drawX n x = stepZ x ∧ drawV n x = wordZ (stepZ x) % n := by
  have e : drawK n x = 0 := drawK_eq ⟨h, fun j hj => by omega⟩
  unfold drawV drawX
  rw [e]
  exact ⟨rfl, rfl⟩
theorem draw_no {n x : Int} (h0 : 2 ≤ n) (h1 : n ≤ 1000) (h : ¬ okZ n x) : drawX n (stepZ x) = drawX n x ∧ drawV n (stepZ x) = drawV n x ∧ drawK n (stepZ x) < drawK n x := by
  obtain ⟨k, hk⟩ := least_of (draw_ends h0 h1 x)
  have e : drawK n x = k := drawK_eq hk
  cases k with
  | zero => exact absurd hk.1 h
  | succ k =>
    have e2 : drawK n (stepZ x) = k := drawK_eq ⟨hk.1, fun j hj => hk.2 (j + 1) (by omega)⟩
    have ex : drawX n (stepZ x) = drawX n x := by
      unfold drawX
      rw [e, e2]
      rfl
    refine ⟨ex, ?_, by omega⟩
    unfold drawV
    rw [ex]
theorem drawX_u64 (n x : Int) : U64 (drawX n x) := step_u64 _
theorem drawV_in {n : Int} (x : Int) (h : 0 < n) : 0 ≤ drawV n x ∧ drawV n x < n := ⟨Int.emod_nonneg _ (by omega), Int.emod_lt_of_pos _ h⟩
end Go.Proofs.Ytjiahcfegfimmaa

/-
  Walls: what is shuffled. Plain laws.
-/
namespace Go.Proofs.Ytjiahcfegfimmaa

def swapL (l : List Int) (a b : Nat) : List Int := (l.set a (l.getD b 0)).set b (l.getD a 0)
theorem swapL_length (l : List Int) (a b : Nat) : (swapL l a b).length = l.length := by unfold swapL; simp
/-- The tiles 0, 1, 2, up to n - 1. -/
def upto (n : Nat) : List Int := (List.range n).map fun (i : Nat) => (i : Int)
theorem upto_length (n : Nat) : (upto n).length = n := by simp [upto]
theorem upto_succ (n : Nat) : upto (n + 1) = upto n ++ [(n : Int)] := by simp [upto, List.range_succ]
theorem upto_at {n i : Nat} (h : i < (upto n).length) : (upto n)[i] = (i : Int) := by simp [upto]
/-- From place i down. -/
noncomputable def shuf : Nat → Int → List Int → List Int
  | 0, _, l => l
  | i + 1, x, l => shuf i (drawX ((i : Int) + 2) x) (swapL l (i + 1) (drawV ((i : Int) + 2) x).toNat)
theorem shuf_length (i : Nat) (x : Int) (l : List Int) : (shuf i x l).length = l.length := by
  induction i generalizing x l with
  | zero => rfl
  | succ i ih => rw [shuf, ih, swapL_length]
theorem swapL_take {l : List Int} {n a b : Nat} (ha : a < n) (hb : b < n) : (swapL l a b).take n = swapL (l.take n) a b := by
  unfold swapL
  have h1 : ∀ i, i < n → (l.take n).getD i 0 = l.getD i 0 := fun i hi => by
    rw [List.getD_eq_getElem?_getD, List.getD_eq_getElem?_getD, List.getElem?_take, if_pos hi]
  rw [h1 a ha, h1 b hb]
  apply List.ext_getElem?
  intro i
  simp only [List.getElem?_take, List.getElem?_set, List.length_set, List.length_take]
  by_cases hi : i < n
  · simp only [if_pos hi]
    by_cases e : b = i
    · simp only [if_pos e]
      by_cases hl : b < l.length
      · rw [if_pos hl, if_pos (by omega)]
      · rw [if_neg hl, if_neg (by omega)]
    · simp only [if_neg e]
      by_cases e2 : a = i
      · simp only [if_pos e2]
        by_cases hl : a < l.length
        · rw [if_pos hl, if_pos (by omega)]
        · rw [if_neg hl, if_neg (by omega)]
      · simp only [if_neg e2]
  · simp only [if_neg hi]
    rw [if_neg (by omega), if_neg (by omega)]
end Go.Proofs.Ytjiahcfegfimmaa

/-
  Walks of the source of numbers.
-/
namespace Go.Proofs.Ytjiahcfegfimmaa
open Go.RowKit

/-- Block g is a source. -/
def Src (w : World) (g : Nat) : Prop := ∃ x : Int, 0 ≤ x ∧ x < 18446744073709551616 ∧ Blk w g 93 [.int .u64 x]
/-- All but block g is as it was. -/
def But (g : Nat) (w w' : World) : Prop := w.grownBy w' (some g)
section
variable {g : Nat} {w w' w'' : World}
theorem But.refl (g : Nat) (w : World) : But g w w := World.grownBy.refl w _
theorem But.trans (h : But g w w') (k : But g w' w'') : But g w w'' :=
  ⟨k.os.trans h.os, k.tape.trans h.tape, k.output.trans h.output, Nat.le_trans h.size k.size, fun i hi hn => (k.block i (Nat.lt_of_lt_of_le hi h.size) hn).trans (h.block i hi hn)⟩
theorem But.of_grow (h : Grow w w') : But g w w' := ⟨h.os, h.tape, h.output, h.size, fun i hi _ => h.block i hi⟩
theorem But.set (h : But g w w') (i : Nat) (u : Value) : But g w (w'.setCell ⟨g, i, none⟩ u) :=
  h.trans ⟨rfl, rfl, rfl, by simp, fun k _ hk => Below.heap_setCell _ _ _ _ (fun e => hk (by simp [e]))⟩
theorem But.alloc (h : But g w w') (o : Obj) : But g w (w'.alloc o) := h.trans (But.of_grow ((Grow.refl _).alloc _))
theorem But.drew (h : But g w w') : But g w w'.drew := h.trans (But.of_grow ((Grow.refl _).drew))
theorem But.drewN (h : But g w w') (n : Nat) : But g w (w'.drewN n) := h.trans (But.of_grow ((Grow.refl _).drewN n))
theorem But.grow {w0 : World} (h : But g w w') (k : Grow w0 w) (hg : w0.heap.size ≤ g) : Grow w0 w' := k.own h (fun i hi => by injection hi with hi; omega)
theorem But.blk (h : But g w w') {k : Nat} {e : TypeId} {xs : List Value} (hb : Blk w k e xs) (hne : k ≠ g) : Blk w' k e xs :=
  (h.block k hb.lt (fun e => hne (by injection e))).trans hb
theorem Src.lt (h : Src w g) : g < w.heap.size := by
  obtain ⟨x, _, _, hb⟩ := h
  exact hb.lt
theorem Src.grow (h : Src w g) (k : Grow w w') : Src w' g := by
  obtain ⟨x, h0, h1, hb⟩ := h
  exact ⟨x, h0, h1, hb.grow k⟩
theorem Src.drewN (h : Src w g) (n : Nat) : Src (w.drewN n) g := h
theorem But.rd (h : But g w w') (hs : Src w g) {A : Option Addr} {ys : List Value} {m c : Nat} {e : TypeId} (hr : Rd w A ys) (ht : Tag w e (.slice A m c)) (hne : e ≠ 93) : Rd w' A ys := fun i u hu => by
  obtain ⟨ad, rfl, hb, hc⟩ := hr i u hu
  obtain ⟨cur, hcur⟩ := ht ad m c rfl
  obtain ⟨x, _, _, hx⟩ := hs
  have hk : w'.heap[ad.block]? = w.heap[ad.block]? := by
    refine h.block _ hb fun he => ?_
    have he : ad.block = g := by injection he
    unfold Blk at hx
    rw [he, hx] at hcur
    injection hcur with hcur
    injection hcur with _ hcur
    exact hne hcur.symm
  refine ⟨ad, rfl, Nat.lt_of_lt_of_le hb h.size, ?_⟩
  rw [World.cell?_of_block (w := w) (by rw [block_add]; exact hk)]
  exact hc
theorem But.tag (h : But g w w') (hs : Src w g) {v : Value} {e : TypeId} (ht : Tag w e v) (hne : e ≠ 93) : Tag w' e v := fun ad m c hv => by
  obtain ⟨cur, hcur⟩ := ht ad m c hv
  obtain ⟨x, _, _, hx⟩ := hs
  refine ⟨cur, (h.block _ (lt_of_block hcur) fun he => ?_).trans hcur⟩
  have he : ad.block = g := by injection he
  unfold Blk at hx
  rw [he, hx] at hcur
  injection hcur with hcur
  injection hcur with _ hcur
  exact hne hcur.symm
/-- A list of integers in a block of its own. -/
def IsIntsF (w : World) (v : Value) (zs : List Int) : Prop := IsInts w v zs ∧ Tag w 3 v
theorem IsIntsF.grow {v : Value} {zs : List Int} (h : IsIntsF w v zs) (k : Grow w w') : IsIntsF w' v zs := ⟨h.1.grow k, h.2.grow k⟩
theorem IsIntsF.but {v : Value} {zs : List Int} (h : IsIntsF w v zs) (k : But g w w') (hs : Src w g) : IsIntsF w' v zs := by
  obtain ⟨⟨A, c, rfl, h1, h2, h3⟩, ht⟩ := h
  exact ⟨⟨A, c, rfl, h1, h2, k.rd hs h3 ht (by decide)⟩, k.tag hs ht (by decide)⟩
end

theorem u64_range (n : Int) : 0 ≤ IntKind.u64.wrap n ∧ IntKind.u64.wrap n < 18446744073709551616 := by
  simp only [IntKind.wrap, IntKind.bits, IntKind.signed]
  simp
  omega
theorem xor_range (a b : Int) : 0 ≤ bits .xor .u64 a b ∧ bits .xor .u64 a b < 18446744073709551616 := u64_range _
theorem below_range (y n : Int) (hy : 0 ≤ y) (h1 : 1 ≤ n) (h2 : n ≤ 9223372036854775807) : 0 ≤ wrap64 (y.tmod n) ∧ wrap64 (y.tmod n) < n := by
  have e : y.tmod n = y % n := Int.tmod_eq_emod_of_nonneg hy
  have h3 := Int.emod_nonneg y (show n ≠ 0 by omega)
  have h4 := Int.emod_lt_of_pos y (show 0 < n by omega)
  rw [e, IntWalk.wrap64_in _ (by omega)]
  omega

def BelowRes (g : Nat) (n : Int) (w : World) (e : Ending) (w' : World) : Prop :=
  ∃ r : Int, e = .returned (.int .i64 r) ∧ 0 ≤ r ∧ (1 ≤ n → r < n) ∧ (n < 1 → r = 0) ∧ Src w' g ∧ But g w w'

theorem Below_any (g : Nat) (n : Int) (w : World) (hs : Src w g) (hn : n ≤ 9223372036854775807) : Calls Try.prog 105 #[.pointer (some ⟨g, 0, none⟩), .int .i64 n] w (BelowRes g n w) := by
  obtain ⟨x, h0, h1, hb⟩ := hs
  have hcell : w.cell? ⟨g, 0, none⟩ = some (.int .u64 x) := hb.cell 0
  have hfree := hb.free 0
  by_cases hn1 : n < 1
  · go_enter Try.func105, Try.ntmps105
    go_wp2
    go_ret
    exact ⟨0, rfl, Int.le_refl _, by omega, fun _ => rfl, ⟨_, (u64_range _).1, (u64_range _).2, hb.set 0 _⟩, (But.refl g w).set 0 _⟩
  · go_enter Try.func105, Try.ntmps105
    go_wp2
    go_quiet (fail)
    go_wp2
    go_ret
    refine ⟨_, rfl, (below_range _ n (Int.ediv_nonneg (xor_range _ _).1 (by omega)) hn1 hn).1, fun _ => (below_range _ n (Int.ediv_nonneg (xor_range _ _).1 (by omega)) hn1 hn).2, by omega, ⟨_, (u64_range _).1, (u64_range _).2, hb.set 0 _⟩, ((But.refl g w).set 0 _).drewN nq⟩

def RangeRes (g : Nat) (lo hi : Int) (w : World) (e : Ending) (w' : World) : Prop :=
  ∃ r : Int, e = .returned (.int .i64 r) ∧ lo ≤ r ∧ r ≤ hi ∧ Src w' g ∧ But g w w'

theorem Range_any (g : Nat) (lo hi : Int) (w : World) (hs : Src w g) (h0 : -1000000000 ≤ lo) (h1 : lo ≤ hi) (h2 : hi ≤ 1000000000) : Calls Try.prog 87 #[.pointer (some ⟨g, 0, none⟩), .int .i64 lo, .int .i64 hi] w (RangeRes g lo hi w) := by
  go_enter Try.func87, Try.ntmps87
  go_wp2_with (go_at_call 105; refine (Below_any g _ _ hs (by omega)).mono ?_; rintro e w1 ⟨r, rfl, r0, r1, r2, hs1, hb1⟩)
  have r3 := r1 (by omega)
  clear r1 r2
  go_wp2
  go_ret
  exact ⟨lo + r, rfl, by omega, by omega, hs1, hb1⟩

def OddsRes (g : Nat) (w : World) (e : Ending) (w' : World) : Prop :=
  ∃ b : Bool, e = .returned (.bool b) ∧ Src w' g ∧ But g w w'
theorem Odds_any (g : Nat) (n : Int) (w : World) (hs : Src w g) (hn : n ≤ 9223372036854775807) : Calls Try.prog 85 #[.pointer (some ⟨g, 0, none⟩), .int .i64 n] w (OddsRes g w) := by
  go_enter Try.func85, Try.ntmps85
  go_wp2_with (go_at_call 105; refine (Below_any g _ _ hs hn).mono ?_; rintro e w1 ⟨r, rfl, r0, r1, r2, hs1, hb1⟩)
  go_ret
  exact ⟨_, rfl, hs1, hb1⟩

def SourceRes (w : World) (e : Ending) (w' : World) : Prop := ∃ g, e = .returned (.pointer (some ⟨g, 0, none⟩)) ∧ w.heap.size ≤ g ∧ Src w' g ∧ Grow w w'
theorem NewSource_any (v : Value) (zs : List Int) (w : World) (h : IsInts w v zs) : Calls Try.prog 29 #[v] w (SourceRes w) := by
  obtain ⟨A, c, rfl, hc, hm, hr⟩ := h
  unfold maxLen at hm
  go_enter Try.func29, Try.ntmps29
  go_wp2
  have hb0 : Blk (w.alloc (.cells #[.int .u64 2685821657736338717] 93)) w.heap.size 93 [.int .u64 2685821657736338717] := heap_alloc_new w _
  have hg0 : Grow w (w.alloc (.cells #[.int .u64 2685821657736338717] 93)) := (Grow.refl _).alloc _
  go_loopw [4] (fun i wr => ∃ (k : Nat) (x : Int), k ≤ zs.length ∧ i = .int .i64 k ∧ 0 ≤ x ∧ x < 18446744073709551616 ∧ Blk wr w.heap.size 93 [.int .u64 x] ∧ Grow w wr) (fun i _ => zs.length - (intOf i).toNat)
  case atStart => exact ⟨0, _, Nat.zero_le _, rfl, by omega, by omega, hb0, hg0⟩
  case round =>
    clear hb0 hg0
    obtain ⟨k, x, hk, rfl, x0, x1, hb, hg⟩ := hrel
    by_cases hlt : k < zs.length
    · obtain ⟨ad, rfl, hba, hx⟩ := (hr.grow hg).int hlt
      have hcell : wr.cell? ⟨w.heap.size, 0, none⟩ = some (.int .u64 x) := hb.cell 0
      have hfree := hb.free 0
      have i0 : (0 : Int) ≤ (k : Int) := by omega
      have i1 : (k : Int) < (zs.length : Int) := by omega
      go_wp2
      go_region
      go_wp2_with fail
      obtain ⟨y0, y1⟩ := u64_range (bits BinOp.xor IntKind.u64 x (IntKind.u64.wrap zs[k]) * 11400714819323198485)
      generalize IntKind.u64.wrap (bits BinOp.xor IntKind.u64 x (IntKind.u64.wrap zs[k]) * 11400714819323198485) = Y at *
      have hb2 : Blk (wr.setCell ⟨w.heap.size, 0, none⟩ (.int .u64 Y)).drew w.heap.size 93 [.int .u64 Y] := hb.set 0 (.int .u64 Y)
      have hg2 : Grow w (wr.setCell ⟨w.heap.size, 0, none⟩ (.int .u64 Y)).drew := (hg.setBlk (Nat.le_refl _) 0 _).drew
      generalize (wr.setCell ⟨w.heap.size, 0, none⟩ (.int .u64 Y)).drew = wz at *
      have hcell2 : wz.cell? ⟨w.heap.size, 0, none⟩ = some (.int .u64 Y) := hb2.cell 0
      have hfree2 := hb2.free 0
      clear hx hcell hfree hb hg
      go_region
      go_wp2
      exact ⟨⟨k + 1, _, by omega, by go_num, (xor_range _ _).1, (xor_range _ _).2, hb2.set 0 _, (hg2.setBlk (Nat.le_refl _) 0 _).drew⟩, by simp only [intOf]; omega⟩
    · go_wp2
      go_ret
      exact ⟨_, rfl, Nat.le_refl _, ⟨x, x0, x1, hb⟩, hg⟩
end Go.Proofs.Ytjiahcfegfimmaa
