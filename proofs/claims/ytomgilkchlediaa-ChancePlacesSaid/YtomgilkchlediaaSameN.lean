/-
  Slices of naturals; walks of SameNats.
-/
import Derived.Test.YtomgilkchlediaaNats
import Derived.Test.YtomgilkchlediaaAwake
import Derived.BigQuiet
import Derived.Deep.QuietTactic
namespace Go.Proofs.Ytomgilkchlediaa
open Go.RowKit

theorem Blk.rd {w : World} {g : Nat} {e : TypeId} {xs : List Value} (h : Blk w g e xs) : Rd w (some ⟨g, 0, none⟩) xs := fun i u hu =>
  ⟨_, rfl, h.lt, by rw [show (⟨g, 0, none⟩ : Addr).add i = ⟨g, i, none⟩ from by unfold Addr.add; split <;> simp_all]; rw [h.cell]; exact hu⟩
/-- A slice of so many naturals. -/
def NatsV (w : World) (v : Value) (n : Nat) (f : Nat → Int) : Prop := ∃ (A : Option Addr) (c : Nat) (vs : List Value), v = .slice A n c ∧ n ≤ c ∧ c ≤ maxLen ∧ vs.length = n ∧ Rd w A vs ∧ NatsAt w vs f
theorem NatsV.grow {w w' : World} {v : Value} {n : Nat} {f : Nat → Int} (h : NatsV w v n f) (g : Grow w w') : NatsV w' v n f := by
  obtain ⟨A, c, vs, h1, h2, h3, h4, h5, h6⟩ := h
  exact ⟨A, c, vs, h1, h2, h3, h4, h5.grow g, h6.grow g⟩
theorem NatsV.at_ {w : World} {A : Option Addr} {m c : Nat} {n : Nat} {f : Nat → Int} (h : NatsV w (.slice A m c) n f) {k : Nat} (hk : k < n) : ∃ ad B l d, A = some ad ∧ ad.block < w.heap.size ∧ w.cell? (ad.add k) = some (.slice B l d) ∧ IsNatF w (.slice B l d) (f k) := by
  obtain ⟨A', c', vs, e, h1, h2, h3, h4, h5⟩ := h
  injection e with e1 e2 e3
  subst e1
  obtain ⟨ad, hA, hb, hc⟩ := h4.val (show k < vs.length by omega)
  have hi := h5 k vs[k] (List.getElem?_eq_getElem (by omega))
  obtain ⟨B, l, d, e⟩ := hi.open_
  rw [e] at hc hi
  exact ⟨ad, B, l, d, hA, hb, hc, hi⟩

set_option maxRecDepth 100000 in
theorem SameNats_same (v1 v2 : Value) (n : Nat) (f : Nat → Int) (w : World) (h1 : NatsV w v1 n f) (h2 : NatsV w v2 n f) : Calls Try.prog 34 #[v1, v2] w (Says w (.bool true)) := by
  have H1 := hid h1
  have H2 := hid h2
  obtain ⟨A, c, _, rfl, c1, c2, _⟩ := h1
  obtain ⟨B, d, _, rfl, d1, d2, _⟩ := h2
  unfold maxLen at c2 d2
  go_enter Try.func34, Try.ntmps34
  go_wp2
  go_loopw [5] (fun i wr => ∃ (k m : Nat), k ≤ n ∧ i = .int .i64 (k : Int) ∧ wr = w.drewN m) (fun i _ => n - (intOf i).toNat)
  case atStart => exact ⟨0, 0, Nat.zero_le _, rfl, rfl⟩
  case round =>
    obtain ⟨k, m, hk, rfl, rfl⟩ := hrel
    by_cases hlt : k < n
    · obtain ⟨ad, E, l, e, rfl, _, hx, ke⟩ := H1.out.at_ hlt
      obtain ⟨ad2, F, l2, e2, rfl, _, hy, kf⟩ := H2.out.at_ hlt
      have i0 : (0 : Int) ≤ (k : Int) := by omega
      have i1 : (k : Int) < (n : Int) := by omega
      have SN := hid (fun q => SameNat_same (.slice E l e) (.slice F l2 e2) (f k) (w.drewN (m + q)) ((ke.grow ((Grow.refl w).drewN (m + q))).1) ((kf.grow ((Grow.refl w).drewN (m + q))).1))
      clear ke kf
      go_wp2
      go_quiet ((go_at_call 12; exact q_says' (SN.out _)))
      go_wp2
      exact ⟨⟨k + 1, _, by omega, by go_num, rfl⟩, by simp only [intOf]; omega⟩
    · go_wp2
      go_ret
      exact ⟨rfl, _, rfl⟩

end Go.Proofs.Ytomgilkchlediaa
