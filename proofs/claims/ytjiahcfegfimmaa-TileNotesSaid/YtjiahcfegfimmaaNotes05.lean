/-
  Parts of the proof: App, Lcg, Shuf.
-/
import Derived.Test.YtjiahcfegfimmaaNotes02
import Derived.IntWalk
/-
  Appending a list of integers to a slice of the call's own; as laws for the walk.
-/
namespace Go.Proofs.Ytjiahcfegfimmaa
open Go.RowKit

theorem ints_one {zs : List Int} : ∀ u ∈ ints zs, u.oneCell' = true := fun u hu => by
  obtain ⟨z, _, rfl⟩ := List.mem_map.1 hu
  simp [Value.oneCell']

theorem run_append_ints (w0 w : World) (t ty : TypeId) (ht : Try.prog.underlying t = some (.slice 3)) (v x : Value) (os zs : List Int) (hown : Own w0 w v os) (hx : IsInts w x zs) (hl : os.length + zs.length ≤ 1000000000000) (hg : Grow w0 w) :
    ∃ v' w', (Builtin.append_ #[t, t] ty #[v, x]).run Try.prog w = .ok v' w' ∧ Own w0 w' v' (os ++ zs) ∧ Grow w0 w' ∧ w.grownBy w' v.ownBlock := by
  obtain ⟨i0, hi0, hz0, hz1, hz2⟩ := info_parts infoInt
  obtain ⟨A, c, rfl, hc, hm, hr⟩ := hx
  cases A with
  | none =>
    have hz : zs = [] := by
      cases zs with
      | nil => rfl
      | cons z zs => obtain ⟨ad, h, _⟩ := hr.int (k := 0) (by simp); cases h
    subst hz
    refine ⟨v, w, ?_, by simpa using hown, hg, World.grownBy.refl w _⟩
    rcases hown.2 with ⟨rfl, hn⟩ | ⟨g, cap, cur, rfl, _, _, hnc, _⟩
    · simp [Builtin.append_, run_underlying ht, sizeOf, typeInfo, hi0, Builtin.lenOf, Builtin.firstCells]
    · simp [Builtin.append_, run_underlying ht, sizeOf, typeInfo, hi0, Builtin.lenOf, Builtin.firstCells, hnc, storeCells]
  | some ad =>
    have hcells : ∀ (j : Nat) (u : Value), (ints zs)[j]? = some u → w.cell? (ad.add j) = some u := fun j u hu => by
      obtain ⟨ad', h1, _, h2⟩ := hr j u hu
      obtain rfl := Option.some.inj h1
      exact h2
    obtain ⟨v', w', hrun, h1, h2, _⟩ := run_append_own (P := Try.prog) w w0.heap.size t ty 3 i0 (.int .i64 0) 1 8 ht hi0 hz0 hz1 hz2 rfl (by decide) v os.length (ints os) hown ad zs.length c (ints zs) (by simp) hcells ints_one (by unfold maxLen at *; omega) (by omega) hg.size
    refine ⟨v', w', hrun, ?_, hg.own h2 hown.block, h2⟩
    unfold Own
    rw [ints, List.map_append, List.length_append]
    exact h1

section
variable {ops : Array Oper} {rest : List Oper} {o : Oper} {a : Act} {Q : Exit → Act → World → Prop}
theorem wpList_append_ints (w0 w : World) (hgd : o.guard = none) (s x : Operand) (t : TypeId)
    (ho : o.op = .call { callee := .builtin .append, args := #[s, x], argTypes := #[t, t] }) (ht : Try.prog.underlying t = some (.slice 3))
    (v xv : Value) (os zs : List Int) (hs : a.eval s = v) (hown : Own w0 w v os) (hxe : a.eval x = xv) (hx : IsInts w xv zs) (hl : os.length + zs.length ≤ 1000000000000) (hg : Grow w0 w)
    (h : ∀ v' w', Own w0 w' v' (os ++ zs) → Grow w0 w' → w.grownBy w' v.ownBlock → wpList Try.prog ops Q rest (a.put o.dst v') w') :
    wpList Try.prog ops Q (o :: rest) a w := by
  refine wpList_plain hgd fun K hK => ?_
  obtain ⟨v', w', hr, h2, h3, h4⟩ := run_append_ints w0 w t o.type ht v xv os zs hown hx hl hg
  unfold Oper.wp execOp
  simp only [ho, resolve, invoke, builtin, Sem.run_bind, Sem.run_pure, Result.andThen_ok, List.map_toArray, List.map_cons, List.map_nil, hs, hxe, hr]
  exact hK _ _ (h v' w' h2 h3 h4)
end
/-- The empty slice literal. -/
theorem Own.lit0 {w0 w : World} (hg : Grow w0 w) : Own w0 (w.alloc (.cells #[] 3)) (.slice (some ⟨w.heap.size, 0, none⟩) 0 0) [] :=
  ⟨rfl, .inr ⟨w.heap.size, 0, #[], rfl, hg.size, heap_alloc_new w _, Nat.le_refl _, Nat.zero_le _, rfl, rfl⟩⟩
end Go.Proofs.Ytjiahcfegfimmaa

/-
  The words of a seed: a draw ends. Plain laws.
-/
namespace Go.Proofs.Ytjiahcfegfimmaa
open Go.RowKit

theorem u64_wrap (n : Int) : IntKind.u64.wrap n = n % 18446744073709551616 := by
  simp only [IntKind.wrap, IntKind.bits, IntKind.signed]
  simp
def stepZ (x : Int) : Int := IntKind.u64.wrap (IntKind.u64.wrap (x * 6364136223846793005) + 1442695040888963407)
def wordZ (y : Int) : Int := wrap64 (y / 8589934592)
def limZ (n : Int) : Int := wrap64 (2147483648 - 2147483648 % n)
def U64 (x : Int) : Prop := 0 ≤ x ∧ x < 18446744073709551616
theorem step_u64 (x : Int) : U64 (stepZ x) := by
  unfold stepZ U64
  rw [u64_wrap]
  omega
theorem stepZ_eq (x : Int) : stepZ x = (x * 6364136223846793005 + 1442695040888963407) % 18446744073709551616 := by
  unfold stepZ
  rw [u64_wrap, u64_wrap, Int.emod_add_emod]
theorem wordZ_eq {y : Int} (h : U64 y) : wordZ y = y / 8589934592 ∧ 0 ≤ wordZ y ∧ wordZ y < 2147483648 := by
  unfold U64 at h
  have e : wordZ y = y / 8589934592 := by unfold wordZ wrap64; omega
  rw [e]
  omega
theorem limZ_eq {n : Int} (h0 : 2 ≤ n) (h1 : n ≤ 1000) : limZ n = 2147483648 - 2147483648 % n ∧ 2147482648 < limZ n ∧ limZ n ≤ 2147483648 := by
  have m0 := Int.emod_nonneg 2147483648 (show n ≠ 0 by omega)
  have m1 := Int.emod_lt_of_pos 2147483648 (show 0 < n by omega)
  have e : limZ n = 2147483648 - 2147483648 % n := by unfold limZ wrap64; omega
  rw [e]
  omega
def iterZ : Nat → Int → Int
  | 0, x => x
  | k + 1, x => iterZ k (stepZ x)
theorem iterZ_add (a b : Nat) (x : Int) : iterZ (a + b) x = iterZ b (iterZ a x) := by
  induction a generalizing x with
  | zero => rw [Nat.zero_add]; rfl
  | succ a ih => rw [Nat.succ_add]; exact ih (stepZ x)
theorem iterZ_succ (k : Nat) (x : Int) : iterZ (k + 1) x = stepZ (iterZ k x) := iterZ_add k 1 x
/-- The factor and the summand of 2^k steps. -/
def pwN : Nat → Nat × Nat
  | 0 => (6364136223846793005, 1442695040888963407)
  | k + 1 => ((pwN k).1 * (pwN k).1 % 18446744073709551616, ((pwN k).2 * (pwN k).1 + (pwN k).2) % 18446744073709551616)
theorem aff_twice (x a c : Int) : ((x * a + c) % 18446744073709551616 * a + c) % 18446744073709551616 = (x * (a * a % 18446744073709551616) + (c * a + c) % 18446744073709551616) % 18446744073709551616 := by
  have e1 := Int.mul_ediv_add_emod (x * a + c) 18446744073709551616
  have e2 := Int.mul_ediv_add_emod (a * a) 18446744073709551616
  have e3 := Int.mul_ediv_add_emod (c * a + c) 18446744073709551616
  refine Int.emod_eq_emod_iff_emod_sub_eq_zero.2 (Int.emod_eq_zero_of_dvd ?_)
  refine ⟨- ((x * a + c) / 18446744073709551616) * a + x * (a * a / 18446744073709551616) + (c * a + c) / 18446744073709551616, ?_⟩
  generalize (x * a + c) % 18446744073709551616 = r1 at *
  generalize (x * a + c) / 18446744073709551616 = q1 at *
  generalize a * a % 18446744073709551616 = r2 at *
  generalize a * a / 18446744073709551616 = q2 at *
  generalize (c * a + c) % 18446744073709551616 = r3 at *
  generalize (c * a + c) / 18446744073709551616 = q3 at *
  obtain rfl : r1 = x * a + c - 18446744073709551616 * q1 := by omega
  obtain rfl : r2 = a * a - 18446744073709551616 * q2 := by omega
  obtain rfl : r3 = c * a + c - 18446744073709551616 * q3 := by omega
  grind
theorem iterZ_pw (k : Nat) (x : Int) : iterZ (2 ^ k) x = (x * (pwN k).1 + (pwN k).2) % 18446744073709551616 := by
  induction k generalizing x with
  | zero => exact stepZ_eq x
  | succ k ih =>
    rw [Nat.pow_succ, Nat.mul_two, iterZ_add, ih, ih, aff_twice]
    simp [pwN]
theorem pwN_63 : pwN 63 = (1, 9223372036854775808) := by decide +kernel
/-- Half of all states; hidden, for it is large. -/
structure Half (k : Nat) : Prop where
  eq : k = 2 ^ 63
theorem half_is : ∃ k, Half k := ⟨2 ^ 63, ⟨rfl⟩⟩
theorem iterZ_63 {k : Nat} (hk : Half k) {y : Int} (h : U64 y) (hy : 9223372036854775808 ≤ y) : iterZ k y = y - 9223372036854775808 := by
  unfold U64 at h
  rw [hk.eq]
  rw [iterZ_pw, pwN_63]
  simp
  omega
/-- The next word is taken. -/
def okZ (n x : Int) : Prop := wordZ (stepZ x) < limZ n
theorem draw_ends {n : Int} (h0 : 2 ≤ n) (h1 : n ≤ 1000) (x : Int) : ∃ k, okZ n (iterZ k x) := by
  by_cases h : okZ n x
  · exact ⟨0, h⟩
  · have hl := limZ_eq h0 h1
    have hu := step_u64 x
    have hw := wordZ_eq hu
    unfold okZ at h
    have hb : 9223372036854775808 ≤ stepZ x := by omega
    obtain ⟨half, hh⟩ := half_is
    have hi := iterZ_63 hh hu hb
    clear hh
    refine ⟨half, ?_⟩
    have e : stepZ (iterZ half x) = stepZ x - 9223372036854775808 := by
      rw [← iterZ_succ]
      exact hi
    unfold okZ
    rw [e]
    unfold U64 at hu
    have h2 := wordZ_eq (y := stepZ x - 9223372036854775808) ⟨by omega, by omega⟩
    omega
theorem least_of {P : Nat → Prop} (h : ∃ k, P k) : ∃ k, P k ∧ ∀ j, j < k → ¬ P j := by
  obtain ⟨k, hk⟩ := h
  induction k using Nat.strongRecOn with
  | ind k ih =>
    by_cases hj : ∃ j, j < k ∧ P j
    · obtain ⟨j, hjk, hp⟩ := hj
      exact ih j hjk hp
    · exact ⟨k, hk, fun j hjk hp => hj ⟨j, hjk, hp⟩⟩
/-- How many words are thrown away. -/
def Thrown (n x : Int) (k : Nat) : Prop := okZ n (iterZ k x) ∧ ∀ j, j < k → ¬ okZ n (iterZ j x)
theorem thrown_one {n x : Int} {a b : Nat} (h : Thrown n x a) (k : Thrown n x b) : a = b := by
  rcases Nat.lt_trichotomy a b with hl | rfl | hl
  · exact absurd h.1 (k.2 a hl)
  · rfl
  · exact absurd k.1 (h.2 b hl)
open Classical in
noncomputable def drawK (n x : Int) : Nat := if h : ∃ k, Thrown n x k then h.choose else 0
theorem drawK_eq {n x : Int} {k : Nat} (h : Thrown n x k) : drawK n x = k := by
  have he : ∃ k, Thrown n x k := ⟨k, h⟩
  unfold drawK
  rw [dif_pos he]
  exact thrown_one he.choose_spec h
/-- The state after a draw, and what is drawn. -/
noncomputable def drawX (n x : Int) : Int := stepZ (iterZ (drawK n x) x)
noncomputable def drawV (n x : Int) : Int := wordZ (drawX n x) % n
theorem draw_ok {n x : Int} (h : okZ n x) : drawX n x = stepZ x ∧ drawV n x = wordZ (stepZ x) % n := by
  have e : drawK n x = 0 := drawK_eq ⟨h, fun j hj => by omega⟩
  unfold drawV drawX
  rw [e]
  exact ⟨rfl, rfl⟩
theorem draw_no {n x : Int} (h0 : 2 ≤ n) (h1 : n ≤ 1000) (h : ¬ okZ n x) : drawX n (stepZ x) = drawX n x ∧ drawV n (stepZ x) = drawV n x ∧ drawK n (stepZ x) < drawK n x := by
  obtain ⟨k, hk⟩ := least_of (draw_ends h0 h1 x)
  have e : drawK n x = k := drawK_eq hk
  cases k with
  | zero => exact absurd hk.1 h
  | succ k =>
    have e2 : drawK n (stepZ x) = k := drawK_eq ⟨hk.1, fun j hj => hk.2 (j + 1) (by omega)⟩
    have ex : drawX n (stepZ x) = drawX n x := by
      unfold drawX
      rw [e, e2]
      rfl
    refine ⟨ex, ?_, by omega⟩
    unfold drawV
    rw [ex]
theorem drawX_u64 (n x : Int) : U64 (drawX n x) := step_u64 _
theorem drawV_in {n : Int} (x : Int) (h : 0 < n) : 0 ≤ drawV n x ∧ drawV n x < n := ⟨Int.emod_nonneg _ (by omega), Int.emod_lt_of_pos _ h⟩
end Go.Proofs.Ytjiahcfegfimmaa

/-
  Walls: what is shuffled. Plain laws.
-/
namespace Go.Proofs.Ytjiahcfegfimmaa

def swapL (l : List Int) (a b : Nat) : List Int := (l.set a (l.getD b 0)).set b (l.getD a 0)
theorem swapL_length (l : List Int) (a b : Nat) : (swapL l a b).length = l.length := by unfold swapL; simp
/-- The tiles 0, 1, 2, up to n - 1. -/
def upto (n : Nat) : List Int := (List.range n).map fun (i : Nat) => (i : Int)
theorem upto_length (n : Nat) : (upto n).length = n := by simp [upto]
theorem upto_succ (n : Nat) : upto (n + 1) = upto n ++ [(n : Int)] := by simp [upto, List.range_succ]
theorem upto_at {n i : Nat} (h : i < (upto n).length) : (upto n)[i] = (i : Int) := by simp [upto]
/-- From place i down. -/
noncomputable def shuf : Nat → Int → List Int → List Int
  | 0, _, l => l
  | i + 1, x, l => shuf i (drawX ((i : Int) + 2) x) (swapL l (i + 1) (drawV ((i : Int) + 2) x).toNat)
theorem shuf_length (i : Nat) (x : Int) (l : List Int) : (shuf i x l).length = l.length := by
  induction i generalizing x l with
  | zero => rfl
  | succ i ih => rw [shuf, ih, swapL_length]
theorem swapL_take {l : List Int} {n a b : Nat} (ha : a < n) (hb : b < n) : (swapL l a b).take n = swapL (l.take n) a b := by
  unfold swapL
  have h1 : ∀ i, i < n → (l.take n).getD i 0 = l.getD i 0 := fun i hi => by
    rw [List.getD_eq_getElem?_getD, List.getD_eq_getElem?_getD, List.getElem?_take, if_pos hi]
  rw [h1 a ha, h1 b hb]
  apply List.ext_getElem?
  intro i
  simp only [List.getElem?_take, List.getElem?_set, List.length_set, List.length_take]
  by_cases hi : i < n
  · simp only [if_pos hi]
    by_cases e : b = i
    · simp only [if_pos e]
      by_cases hl : b < l.length
      · rw [if_pos hl, if_pos (by omega)]
      · rw [if_neg hl, if_neg (by omega)]
    · simp only [if_neg e]
      by_cases e2 : a = i
      · simp only [if_pos e2]
        by_cases hl : a < l.length
        · rw [if_pos hl, if_pos (by omega)]
        · rw [if_neg hl, if_neg (by omega)]
      · simp only [if_neg e2]
  · simp only [if_neg hi]
    rw [if_neg (by omega), if_neg (by omega)]
end Go.Proofs.Ytjiahcfegfimmaa
