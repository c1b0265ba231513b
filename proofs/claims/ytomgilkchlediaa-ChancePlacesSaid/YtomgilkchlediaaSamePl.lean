/-
  Tables of naturals as the law compares them; the walk of samePlaces; opened results of Ranks.
-/
import Derived.Test.YtomgilkchlediaaSameN
import Derived.Test.YtomgilkchlediaaTabM
namespace Go.Proofs.Ytomgilkchlediaa
open Go.RowKit

theorem TabAt.natsV {w : World} {P n : Nat} {Q : Nat → Nat} {f : Nat → Nat → Int} (h : TabAt w P n Q f) {i : Nat} (hi : i < n) (hn : n ≤ 1000000) : NatsV w (.slice (some ⟨Q i, 0, none⟩) n n) n (f i) := by
  obtain ⟨vs, h1, h2, h3⟩ := h.wins i hi
  exact ⟨_, _, vs, rfl, Nat.le_refl _, by unfold maxLen; omega, h1, h2.rd, h3⟩
/-- The table that is compared: nothing, or as Ranks made it. -/
def IsTab (w : World) (v : Value) (n : Nat) (f : Nat → Nat → Int) : Prop := v = .slice none 0 0 ∧ n = 0 ∨ ∃ P Q, v = .slice (some ⟨P, 0, none⟩) n n ∧ TabAt w P n Q f
theorem IsTab.grow {w w' : World} {v : Value} {n : Nat} {f : Nat → Nat → Int} (h : IsTab w v n f) (g : Grow w w') : IsTab w' v n f := by
  rcases h with h | ⟨P, Q, e, h⟩
  · exact .inl h
  · exact .inr ⟨P, Q, e, h.grow g⟩
theorem IsTab.open_ {w : World} {v : Value} {n : Nat} {f : Nat → Nat → Int} (h : IsTab w v n f) : ∃ A, v = .slice A n n := by
  rcases h with ⟨rfl, rfl⟩ | ⟨P, Q, rfl, _⟩
  · exact ⟨none, rfl⟩
  · exact ⟨_, rfl⟩
theorem IsTab.at_ {w : World} {A : Option Addr} {m c n : Nat} {f : Nat → Nat → Int} (h : IsTab w (.slice A m c) n f) (hn : n ≤ 1000000) {k : Nat} (hk : k < n) : ∃ P q, A = some ⟨P, 0, none⟩ ∧ w.cell? ⟨P, k, none⟩ = some (.slice (some ⟨q, 0, none⟩) n n) ∧ NatsV w (.slice (some ⟨q, 0, none⟩) n n) n (f k) := by
  rcases h with ⟨_, h⟩ | ⟨P, Q, e, h⟩
  · omega
  · injection e with e _ _
    exact ⟨P, Q k, e, h.row hk, h.natsV hk hn⟩
set_option maxRecDepth 100000 in
theorem samePlaces_same (v1 v2 : Value) (n : Nat) (f : Nat → Nat → Int) (w : World) (h1 : IsTab w v1 n f) (h2 : IsTab w v2 n f) (hn : n ≤ 1000000) : Calls Try.prog 13 #[v1, v2] w (Says w (.bool true)) := by
  obtain ⟨A, rfl⟩ := h1.open_
  obtain ⟨B, rfl⟩ := h2.open_
  have H1 := hid h1
  have H2 := hid h2
  clear h1 h2
  go_enter Try.func13, Try.ntmps13
  go_wp2
  go_loopw [5] (fun i wr => ∃ (k m : Nat), k ≤ n ∧ i = .int .i64 (k : Int) ∧ wr = w.drewN m) (fun i _ => n - (intOf i).toNat)
  case atStart => exact ⟨0, 0, Nat.zero_le _, rfl, rfl⟩
  case round =>
    obtain ⟨k, m, hk, rfl, rfl⟩ := hrel
    by_cases hlt : k < n
    · obtain ⟨P1, q1, rfl, hx, n1⟩ := H1.out.at_ hn hlt
      obtain ⟨P2, q2, rfl, hy, n2⟩ := H2.out.at_ hn hlt
      have i0 : (0 : Int) ≤ (k : Int) := by omega
      have i1 : (k : Int) < (n : Int) := by omega
      have SN := hid (fun q => SameNats_same _ _ n (f k) (w.drewN (m + q)) (n1.grow ((Grow.refl w).drewN (m + q))) (n2.grow ((Grow.refl w).drewN (m + q))))
      clear n1 n2
      go_wp2
      go_quiet ((go_at_call 34; exact q_says' (SN.out _)))
      go_wp2
      exact ⟨⟨k + 1, _, by omega, by go_num, rfl⟩, by simp only [intOf]; omega⟩
    · go_wp2
      go_ret
      exact ⟨rfl, _, rfl⟩

/-- What Ranks hands back, opened: an error, a table, the ways. -/
def RankIs (w : World) (r : Int) (n : Nat) (f : Nat → Nat → Int) (N : Int) (e : Ending) (w' : World) : Prop :=
  ∃ A m c A2 m2 c2, e = .returned (.tuple #[.slice A m c, .slice A2 m2 c2, .int .i64 r]) ∧ IsTab w' (.slice A m c) n f ∧ IsNatF w' (.slice A2 m2 c2) N ∧ Grow w w'
theorem rank_is {w w' : World} {pts : List Int} {l : List Sw} {d : Int} {e : Ending} (h : RankRes w pts l d e w') :
    RankIs w (rankErr pts l d) (if rankErr pts l d = 0 then pts.length else 0) (fun i j => wsum l (indP i j) d.toNat pts) (if rankErr pts l d = 0 then wsum l oneP d.toNat pts else 0) e w' := by
  rcases h with ⟨hr, rfl, hg⟩ | ⟨hr, P, Q, A, m, c, rfl, h1, h2, hg⟩
  · rw [if_neg hr, if_neg hr]
    exact ⟨_, _, _, _, _, _, rfl, .inl ⟨rfl, rfl⟩, IsNatF.nil, hg⟩
  · rw [if_pos hr, if_pos hr, hr]
    exact ⟨_, _, _, _, _, _, rfl, .inr ⟨P, Q, rfl, h2⟩, h1, hg⟩
end Go.Proofs.Ytomgilkchlediaa
