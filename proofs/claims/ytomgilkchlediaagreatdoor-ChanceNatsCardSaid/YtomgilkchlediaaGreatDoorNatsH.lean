/-
  What the law ChanceNats asks of the functions that it calls: each pair answers alike.
-/
import Derived.Test.YtomgilkchlediaaGreatDoorRefN
import Derived.Test.YtomgilkchlediaaGreatDoorRefT
import Derived.Test.YtomgilkchlediaaGreatDoorRefP
import Derived.Test.YtomgilkchlediaaGreatDoorOddsOf
import Derived.Test.YtomgilkchlediaaGreatDoorNatOf
import Derived.Test.YtomgilkchlediaaGreatDoorKit
namespace Go.Proofs.YtomgilkchlediaaGreatDoor
open Go.RowKit

def opErr (xs ys : List Int) (n : Int) : Int := if err2 xs ys = 0 then (if radix 40 ≤ n then 5 else 0) else err2 xs ys
def opVal (xs ys : List Int) (n : Int) : Int := if err2 xs ys = 0 ∧ n < radix 40 then n else 0
/-- A natural (0 beside an error) and an error. -/
def PairRes (n er : Int) (w : World) (e : Ending) (w' : World) : Prop := ∃ A m c, e = .returned (.tuple #[.slice A m c, .int .i64 er]) ∧ Grow w w' ∧ IsNat w' (.slice A m c) n
theorem isNat_nil {w : World} : IsNat w (.slice none 0 0) 0 := ⟨[], Canon.nil, by simp [val], IsInts.nil⟩
theorem OpRes.pair {w : World} {xs ys : List Int} {n : Int} {e : Ending} {w' : World} (h : OpRes w xs ys n e w') : PairRes (opVal xs ys n) (opErr xs ys n) w e w' := by
  obtain ⟨v, er, rfl, hg, h⟩ := h
  rcases h with ⟨h1, rfl, rfl⟩ | ⟨h1, rfl, h2, h3⟩ | ⟨h1, rfl, h2, rfl⟩
  · refine ⟨none, 0, 0, ?_, hg, ?_⟩
    · unfold opErr; rw [if_neg h1]
    · unfold opVal; rw [if_neg (fun h => h1 h.1)]; exact isNat_nil
  · obtain ⟨A, m, c, rfl⟩ := h3.slice3
    refine ⟨A, m, c, by unfold opErr; rw [if_pos h1, if_neg (by omega)], hg, ?_⟩
    unfold opVal; rw [if_pos ⟨h1, h2⟩]; exact h3
  · refine ⟨none, 0, 0, by unfold opErr; rw [if_pos h1, if_pos h2], hg, ?_⟩
    unfold opVal; rw [if_neg (fun h => by omega)]; exact isNat_nil
theorem ParseRes.pair {w : World} {l : List UInt8} {e : Ending} {w' : World} (h : ParseRes w l e w') : PairRes (if parseErr l = 0 then parseN l else 0) (parseErr l) w e w' := by
  obtain ⟨A, m, c, rfl, hg, h1, h2⟩ := h
  refine ⟨A, m, c, rfl, hg, ?_⟩
  by_cases h : parseErr l = 0
  · rw [if_pos h]; exact h2 h
  · rw [if_neg h]
    obtain ⟨rfl, rfl, rfl⟩ := h1 h
    exact isNat_nil
/-- What the operations answer on two lists of digits: the program's as the reference's. -/
theorem opsN (xs ys : List Int) : ∃ nS eS nP eP cm : Int,
    (∀ v1 v2 W, IsInts W v1 xs → IsInts W v2 ys → Calls Tryz.prog 15 #[v1, v2] W (PairRes nS eS W)) ∧
    (∀ v1 v2 W, IsInts W v1 xs → IsInts W v2 ys → Calls Tryz.prog 16 #[v1, v2] W (PairRes nS eS W)) ∧
    (∀ v1 v2 W, IsInts W v1 xs → IsInts W v2 ys → Calls Tryz.prog 17 #[v1, v2] W (PairRes nP eP W)) ∧
    (∀ v1 v2 W, IsInts W v1 xs → IsInts W v2 ys → Calls Tryz.prog 18 #[v1, v2] W (PairRes nP eP W)) ∧
    (∀ v1 v2 W, IsInts W v1 xs → IsInts W v2 ys → Calls Tryz.prog 19 #[v1, v2] W (Gives W (.int .i64 cm))) ∧
    (∀ v1 v2 W, IsInts W v1 xs → IsInts W v2 ys → Calls Tryz.prog 20 #[v1, v2] W (Gives W (.int .i64 cm))) :=
  ⟨_, _, _, _, _, fun v1 v2 W h1 h2 => (Sum_any v1 v2 xs ys W h1 h2).mono fun _ _ h => h.pair, fun v1 v2 W h1 h2 => (rSum_any v1 v2 xs ys W h1 h2).mono fun _ _ h => h.pair,
    fun v1 v2 W h1 h2 => (Product_any v1 v2 xs ys W h1 h2).mono fun _ _ h => h.pair, fun v1 v2 W h1 h2 => (rProduct_any v1 v2 xs ys W h1 h2).mono fun _ _ h => h.pair,
    fun v1 v2 W h1 h2 => Compare_any v1 v2 xs ys W h1 h2, fun v1 v2 W h1 h2 => (rCompare_any v1 v2 xs ys W h1 h2).mono fun _ _ h => ⟨h.1, h.grow⟩⟩
/-- It gives a text and an error. -/
def GivesE (w : World) (S : ByteArray) (er : Int) (e : Ending) (w' : World) : Prop := e = .returned (.tuple #[.string S, .int .i64 er]) ∧ Grow w w'
theorem textsN (zs : List Int) : ∃ (S : ByteArray) (er : Int), (natErr zs = 0 → S = strB (textL zs)) ∧
    (∀ v W, IsInts W v zs → Pow10 W → Calls Tryz.prog 8 #[v] W (GivesE W S er)) ∧
    (∀ v W, IsInts W v zs → Calls Tryz.prog 12 #[v] W (GivesE W S er)) ∧
    (∀ v W, IsInts W v zs → Calls Tryz.prog 13 #[v] W (Same W (.int .i64 er))) ∧
    (∀ v W, IsInts W v zs → Calls Tryz.prog 14 #[v] W (Same W (.int .i64 er))) :=
  ⟨strB (if natErr zs = 0 then textL zs else []), natErr zs, fun h => by rw [if_pos h], fun v W h hp => Text_any v zs W h hp, fun v W h => rText_any v zs W h, fun v W h => checkNat_any v zs W h, fun v W h => rCheckNat_any v zs W h⟩
theorem parsesN (l : List UInt8) (hl : l.length ≤ 1000000) : ∃ n er : Int, (∀ W, Calls Tryz.prog 9 #[.string (strB l)] W (PairRes n er W)) ∧ (∀ W, Calls Tryz.prog 21 #[.string (strB l)] W (PairRes n er W)) :=
  ⟨_, _, fun W => (Parse_any l W hl).mono fun _ _ h => h.pair, fun W => (rParse_any l W hl).mono fun _ _ h => h.pair⟩
theorem IsIntsF.srcN {g : Nat} {w w' : World} {v : Value} {zs : List Int} (h : IsIntsF w v zs) (k : But g w w') (hs : Src w g) : IsIntsF w' v zs := by
  obtain ⟨x, _, _, hx⟩ := hs
  obtain ⟨⟨A, c, rfl, h3, h4, h5⟩, ht⟩ := h
  exact ⟨⟨A, c, rfl, h3, h4, k.rdG hx h5 ht (by decide)⟩, k.tagG hx ht (by decide)⟩
theorem SameNat_self (v1 v2 : Value) (xs : List Int) (w : World) (h1 : IsInts w v1 xs) (h2 : IsInts w v2 xs) : Calls Tryz.prog 10 #[v1, v2] w (Says w (.bool true)) := by
  have h := SameNat_any v1 v2 xs xs w h1 h2
  rwa [decide_eq_true rfl] at h
/-- Four lists of digits, none longer than sixty. -/
def NatsL (w : World) (G : Nat) (f : Nat → List Int) : Prop := ∀ k, k < 4 → ∃ A m c, (f k).length = m ∧ m ≤ 60 ∧ w.cell? ⟨G, k, none⟩ = some (.slice A m c) ∧ IsInts w (.slice A m c) (f k)
theorem NatsL.grow {w w' : World} {G : Nat} {f : Nat → List Int} (h : NatsL w G f) (g : Grow w w') : NatsL w' G f := fun k hk => by
  obtain ⟨A, m, c, h1, h2, h3, h4⟩ := h k hk
  exact ⟨A, m, c, h1, h2, g.cell_some h3, h4.grow g⟩
def pick4 (a b c d : List Int) : Nat → List Int
  | 0 => a
  | 1 => b
  | 2 => c
  | _ => d
theorem NatsL.mk {w : World} {v0 v1 v2 v3 : Value} {qs bs zs ys : List Int} (h0 : IsInts w v0 qs) (h1 : IsInts w v1 bs) (h2 : IsInts w v2 zs) (h3 : IsInts w v3 ys)
    (l0 : qs.length ≤ 60) (l1 : bs.length ≤ 60) (l2 : zs.length ≤ 60) (l3 : ys.length ≤ 60) : NatsL (w.alloc (.cells #[v0, v1, v2, v3] 24)) w.heap.size (pick4 qs bs zs ys) := fun k hk => by
  have g : Grow w (w.alloc (.cells #[v0, v1, v2, v3] 24)) := (Grow.refl _).alloc _
  obtain ⟨A0, c0, rfl, _⟩ := id h0
  obtain ⟨A1, c1, rfl, _⟩ := id h1
  obtain ⟨A2, c2, rfl, _⟩ := id h2
  obtain ⟨A3, c3, rfl, _⟩ := id h3
  match k, hk with
  | 0, _ => exact ⟨A0, qs.length, c0, rfl, l0, by simp, h0.grow g⟩
  | 1, _ => exact ⟨A1, bs.length, c1, rfl, l1, by simp, h1.grow g⟩
  | 2, _ => exact ⟨A2, zs.length, c2, rfl, l2, by simp, h2.grow g⟩
  | 3, _ => exact ⟨A3, ys.length, c3, rfl, l3, by simp, h3.grow g⟩
/-- Three texts. -/
def TextsL (w : World) (G : Nat) : Prop := ∀ k, k < 3 → ∃ l : List UInt8, l.length ≤ 1000000 ∧ w.cell? ⟨G, k, none⟩ = some (.string (strB l))
theorem TextsL.grow {w w' : World} {G : Nat} (h : TextsL w G) (g : Grow w w') : TextsL w' G := fun k hk => by
  obtain ⟨l, h1, h2⟩ := h k hk
  exact ⟨l, h1, g.cell_some h2⟩
theorem TextsL.mk {w : World} {a b c : List UInt8} (l0 : a.length ≤ 1000000) (l1 : b.length ≤ 1000000) (l2 : c.length ≤ 1000000) : TextsL (w.alloc (.cells #[.string (strB a), .string (strB b), .string (strB c)] 9)) w.heap.size := fun k hk => by
  match k, hk with
  | 0, _ => exact ⟨a, l0, by simp⟩
  | 1, _ => exact ⟨b, l1, by simp⟩
  | 2, _ => exact ⟨c, l2, by simp⟩
end Go.Proofs.YtomgilkchlediaaGreatDoor
