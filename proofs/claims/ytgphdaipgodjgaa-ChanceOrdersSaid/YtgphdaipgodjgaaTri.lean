/-
  Walks of the reference's triangle of binomials.
-/
import Derived.Test.YtgphdaipgodjgaaRefB
import Derived.Test.YtgphdaipgodjgaaBin
import Derived.Deep.RegionHeld3
namespace Go.Proofs.Ytgphdaipgodjgaa
open Go.RowKit

/-- The row n of Pascal's triangle. -/
def rowI (n : Nat) : List Int := (List.range (n + 1)).map fun k => (binom n k : Int)
theorem rowI_len (n : Nat) : (rowI n).length = n + 1 := by simp [rowI]
theorem rowI_at {n k : Nat} (h : k ≤ n) : (rowI n)[k]? = some (binom n k : Int) := by
  unfold rowI
  rw [List.getElem?_map, List.getElem?_range (by omega)]; rfl
/-- The first m rows. -/
def triI (m : Nat) : List (List Int) := (List.range m).map rowI
theorem triI_len (m : Nat) : (triI m).length = m := by simp [triI]
theorem triI_at {m n : Nat} (h : n < m) : (triI m)[n]? = some (rowI n) := by
  unfold triI
  rw [List.getElem?_map, List.getElem?_range h]; rfl

theorem isNatF_grow (w w' : World) (u : Value) (x : Int) (h : IsNatF w u x) (g : Grow w w') : IsNatF w' u x := h.grow g
/-- A slice of naturals in a block of its own. -/
def IsNats (w : World) (v : Value) (ns : List Int) : Prop := IsList IsNatF w v ns ∧ Tag w 23 v
theorem IsNats.grow {w w' : World} {v : Value} {ns : List Int} (h : IsNats w v ns) (g : Grow w w') : IsNats w' v ns := ⟨h.1.grow isNatF_grow g, h.2.grow g⟩
theorem isNats_grow (w w' : World) (u : Value) (x : List Int) (h : IsNats w u x) (g : Grow w w') : IsNats w' u x := h.grow g
/-- A slice of slices of naturals. -/
def IsRows (w : World) (v : Value) (rs : List (List Int)) : Prop := IsList IsNats w v rs
theorem IsRows.grow {w w' : World} {v : Value} {rs : List (List Int)} (h : IsRows w v rs) (g : Grow w w') : IsRows w' v rs := IsList.grow isNats_grow h g

/-- An append to a row of another element type leaves a natural as it was. -/
theorem IsNatF.far {w w' : World} {e' : TypeId} {v r : Value} {n : Int} {base size m : Nat} {xs : List Value} (h : IsNatF w v n) (ho : w.ownsRow base e' size r m xs) (hne : 3 ≠ e') (hg : w.grownBy w' r.ownBlock) : IsNatF w' v n := by
  obtain ⟨⟨zs, h1, h2, A, c, rfl, h3, h4, h5⟩, ht⟩ := h
  exact ⟨⟨zs, h1, h2, A, c, rfl, h3, h4, h5.far ht ho hne hg⟩, ht.far ho hne hg⟩
theorem IsNats.far {w w' : World} {e' : TypeId} {v r : Value} {ns : List Int} {base size m : Nat} {xs : List Value} (h : IsNats w v ns) (ho : w.ownsRow base e' size r m xs) (hne : 3 ≠ e') (hne' : 23 ≠ e') (hg : w.grownBy w' r.ownBlock) : IsNats w' v ns := by
  obtain ⟨⟨A, c, vs, rfl, h1, h2, h3, h4, h5⟩, ht⟩ := h
  exact ⟨⟨A, c, vs, rfl, h1, h2, h3, h4.far ht ho hne' hg, fun i u x hu hx => (h5 i u x hu hx).far ho hne hg⟩, ht.far ho hne' hg⟩

theorem of_any (v : Value) (m n : Nat) (k : Int) (w : World) (h : IsRows w v (triI m)) (hn : n < m) :
    Calls Try.prog 58 #[v, .int .i64 (n : Int), .int .i64 k] w (fun e w' => (∃ u, e = .returned u ∧ IsNatF w u (chooseI n k)) ∧ w = w') := by
  obtain ⟨A, c, vs, rfl, h1, h2, h3, h4, h5⟩ := h
  have hfin : ∀ u, IsNatF w u (chooseI n k) → (∃ u', Ending.returned u = .returned u' ∧ IsNatF w u' (chooseI n k)) := fun u hu => ⟨u, rfl, hu⟩
  have HF := hid hfin
  clear hfin
  rw [triI_len] at *
  unfold maxLen at h2
  by_cases k0 : k < 0
  · have e : chooseI n k = 0 := chooseI_out (.inl k0)
    have HE := hid e
    clear e
    go_enter Try.func58, Try.ntmps58
    go_wp2
    go_ret
    exact ⟨HF.out _ (by rw [HE.out]; exact IsNatF.nil), rfl⟩
  · by_cases k1 : (n : Int) < k
    · have e : chooseI n k = 0 := chooseI_out (.inr k1)
      have HE := hid e
      clear e
      go_enter Try.func58, Try.ntmps58
      go_wp2
      go_ret
      exact ⟨HF.out _ (by rw [HE.out]; exact IsNatF.nil), rfl⟩
    · obtain ⟨K, rfl⟩ := Int.eq_ofNat_of_zero_le (show 0 ≤ k by omega)
      obtain ⟨ad, rfl, hb, hx⟩ := h4.val (k := n) (by omega)
      obtain ⟨⟨B, d, us, e1, g1, g2, g3, g4, g5⟩, ht⟩ := h5 n vs[n] (rowI n) (List.getElem?_eq_getElem (by omega)) (triI_at hn)
      rw [rowI_len] at *
      unfold maxLen at g2
      rw [e1] at hx
      obtain ⟨ad', rfl, hb', hx'⟩ := g4.val (k := K) (by omega)
      have hres := g5 K us[K] _ (List.getElem?_eq_getElem (by omega)) (rowI_at (show K ≤ n by omega))
      rw [← chooseI_nat] at hres
      generalize us[K]'(by omega) = u at *
      have HR := hid hres
      clear hres e1 h5 g5 ht
      go_enter Try.func58, Try.ntmps58
      go_wp2
      go_ret
      exact ⟨HF.out _ HR.out, rfl⟩

theorem rowI_succ {k j : Nat} (h0 : 0 < j) : (binom k (j - 1) : Int) + (binom k j : Int) = (binom (k + 1) j : Int) := by
  obtain ⟨t, rfl⟩ : ∃ t, j = t + 1 := ⟨j - 1, by omega⟩
  rw [binom_succ, Nat.add_sub_cancel]; omega

/-- The first elements of a row of naturals are the binomials b(n, 0), b(n, 1) .. -/
def RowTo (w : World) (vs : List Value) (n : Nat) : Prop := ∀ (i : Nat) (u : Value), vs[i]? = some u → IsNatF w u (binom n i : Int)
theorem RowTo.grow {w w' : World} {vs : List Value} {n : Nat} (h : RowTo w vs n) (g : Grow w w') : RowTo w' vs n := fun i u hu => (h i u hu).grow g
theorem RowTo.far {w w' : World} {e' : TypeId} {r : Value} {n : Nat} {base size m : Nat} {xs vs : List Value} (h : RowTo w vs n) (ho : w.ownsRow base e' size r m xs) (hne : 3 ≠ e') (hg : w.grownBy w' r.ownBlock) : RowTo w' vs n := fun i u hu => (h i u hu).far ho hne hg
theorem RowTo.snoc {w : World} {vs : List Value} {n : Nat} {u : Value} (h : RowTo w vs n) (hu : IsNatF w u (binom n vs.length : Int)) : RowTo w (vs ++ [u]) n := fun i x hx => by
  rw [List.getElem?_append] at hx
  split at hx
  · exact h i x hx
  · rename_i hi
    have hl := (List.getElem?_eq_some_iff.1 hx).1
    simp at hl
    obtain rfl : i = vs.length := by omega
    simp at hx
    subst hx
    exact hu
/-- The first rows of a triangle. -/
def TriTo (w : World) (vs : List Value) : Prop := ∀ (i : Nat) (u : Value), vs[i]? = some u → IsNats w u (rowI i)
theorem TriTo.grow {w w' : World} {vs : List Value} (h : TriTo w vs) (g : Grow w w') : TriTo w' vs := fun i u hu => (h i u hu).grow g
theorem TriTo.far {w w' : World} {e' : TypeId} {r : Value} {base size m : Nat} {xs vs : List Value} (h : TriTo w vs) (ho : w.ownsRow base e' size r m xs) (hne : 3 ≠ e') (hne' : 23 ≠ e') (hg : w.grownBy w' r.ownBlock) : TriTo w' vs := fun i u hu => (h i u hu).far ho hne hne' hg
theorem TriTo.snoc {w : World} {vs : List Value} {u : Value} (h : TriTo w vs) (hu : IsNats w u (rowI vs.length)) : TriTo w (vs ++ [u]) := fun i x hx => by
  rw [List.getElem?_append] at hx
  split at hx
  · exact h i x hx
  · have hl := (List.getElem?_eq_some_iff.1 hx).1
    simp at hl
    obtain rfl : i = vs.length := by omega
    simp at hx
    subst hx
    exact hu
theorem RowTo.is {w0 w : World} {v : Value} {vs : List Value} {n : Nat} (h : RowTo w vs n) (ho : OwnV w0 w 23 v vs) (hl : vs.length = n + 1) : IsNats w v (rowI n) :=
  ⟨ho.is (by rw [rowI_len, hl]) fun i u x hu hx => by
    have hi := (List.getElem?_eq_some_iff.1 hu).1
    rw [rowI_at (by omega)] at hx
    injection hx with hx
    rw [← hx]
    exact h i u hu, Tag.of_own ho⟩
theorem TriTo.is {w0 w : World} {v : Value} {vs : List Value} (h : TriTo w vs) (ho : OwnV w0 w 58 v vs) : IsRows w v (triI vs.length) :=
  ho.is (by rw [triI_len]) fun i u x hu hx => by
    have hi := (List.getElem?_eq_some_iff.1 hu).1
    rw [triI_at hi] at hx
    injection hx with hx
    rw [← hx]
    exact h i u hu

def TriRes (w : World) (m : Nat) (e : Ending) (w' : World) : Prop := ∃ v, e = .returned v ∧ IsRows w' v (triI m) ∧ Grow w w'

theorem add_succ (a : Addr) (t : Nat) : a.add (t + 1) = ⟨a.block, a.off + (t + 1), none⟩ := by unfold Addr.add; rw [if_neg (by omega)]
theorem OwnV.shape {w0 w : World} {e : TypeId} {v : Value} {vs : List Value} (h : OwnV w0 w e v vs) : ∃ A m c, v = .slice A m c := by
  obtain ⟨A, c, rfl, _⟩ := h.open_
  exact ⟨A, _, c, rfl⟩
theorem natF_shape {w : World} {v : Value} {n : Int} (h : IsNatF w v n) : ∃ A m c, v = .slice A m c := by
  obtain ⟨⟨_, _, _, A, c, rfl, _⟩, _⟩ := h
  exact ⟨A, _, c, rfl⟩
theorem nats_shape {w : World} {v : Value} {ns : List Int} (h : IsNats w v ns) : ∃ A m c, v = .slice A m c := by
  obtain ⟨⟨A, c, _, rfl, _⟩, _⟩ := h
  exact ⟨A, _, c, rfl⟩

set_option maxRecDepth 100000 in
theorem triangle_any (n : Nat) (w : World) (hn : n ≤ 200) : Calls Try.prog 59 #[.int .i64 (n : Int)] w (TriRes w (n + 1)) := by
  go_enter Try.func59, Try.ntmps59
  go_wp2_with fail
  refine (nat_any 1 _ (by omega) (by omega)).mono ?_
  rintro e w1 ⟨v1, rfl, hn1, hg1⟩
  obtain ⟨A1, n1, c1, rfl⟩ := natF_shape hn1
  have ho1 : OwnV w (w1.alloc (.cells #[.slice A1 n1 c1] 23)) 23 (.slice (some ⟨w1.heap.size, 0, none⟩) 1 1) [.slice A1 n1 c1] := OwnV.lit w1 [.slice A1 n1 c1] hg1 (by simp)
  have hr1 : RowTo (w1.alloc (.cells #[.slice A1 n1 c1] 23)) [.slice A1 n1 c1] 0 := fun i u hu => by
    have hi := (List.getElem?_eq_some_iff.1 hu).1
    simp at hi
    subst hi
    simp at hu
    subst hu
    exact hn1.grow ((Grow.refl _).alloc _)
  have hi1 : IsNats _ _ _ := hr1.is ho1 rfl
  have ho2 : OwnV w ((w1.alloc (.cells #[.slice A1 n1 c1] 23)).alloc (.cells #[.slice (some ⟨w1.heap.size, 0, none⟩) 1 1] 58)) 58 (.slice (some ⟨w1.heap.size + 1, 0, none⟩) 1 1) [.slice (some ⟨w1.heap.size, 0, none⟩) 1 1] := by
    have h := OwnV.lit (e := 58) (w1.alloc (.cells #[.slice A1 n1 c1] 23)) [.slice (some ⟨w1.heap.size, 0, none⟩) 1 1] (hg1.alloc _) (by simp)
    simpa using h
  have ht2 : TriTo ((w1.alloc (.cells #[.slice A1 n1 c1] 23)).alloc (.cells #[.slice (some ⟨w1.heap.size, 0, none⟩) 1 1] 58)) [.slice (some ⟨w1.heap.size, 0, none⟩) 1 1] := fun i u hu => by
    have hi := (List.getElem?_eq_some_iff.1 hu).1
    simp at hi
    subst hi
    simp at hu
    subst hu
    exact hi1.grow ((Grow.refl _).alloc _)
  have hg2 := (hg1.alloc (.cells #[.slice A1 n1 c1] 23)).alloc (.cells #[.slice (some ⟨w1.heap.size, 0, none⟩) 1 1] 58)
  go_wp2_with fail
  go_loopw [3, 4] (fun v i wr => ∃ k vs, k ≤ n ∧ i = .int .i64 k ∧ vs.length = k + 1 ∧ OwnV w wr 58 v vs ∧ TriTo wr vs ∧ Grow w wr) (fun _ i _ => n - (intOf i).toNat)
  case atStart => exact ⟨0, _, Nat.zero_le _, rfl, rfl, ho2, ht2, hg2⟩
  case round =>
    clear ho1 hr1 hi1 ho2 ht2 hg2 hg1 hn1
    obtain ⟨k, vs, hk, rfl, hlen, hown, htri, hg⟩ := hrel
    have HL := hid hlen
    by_cases hlt : k < n
    · obtain ⟨A, c, rfl, hc1, hc2, hrd⟩ := hown.open_
      obtain ⟨rk, hrk⟩ : ∃ u, vs[k]? = some u := ⟨_, List.getElem?_eq_getElem (by omega)⟩
      obtain ⟨ad, rfl, hb, hx⟩ := hrd k rk hrk
      obtain ⟨⟨B, d, us, rfl, g1, g2, g3, g4, g5⟩, htag⟩ := htri k rk hrk
      rw [rowI_len] at *
      have hvl1 : vs.length ≤ k + 1 := by omega
      have hvl2 : k + 1 ≤ vs.length := by omega
      have hkk : (0 : Int) ≤ (k : Int) := by omega
      have hkl : (k : Int) < (vs.length : Int) := by omega
      unfold maxLen at hc2 g2
      have HK := hid hrk
      have G3 := hid g3
      have hul1 : us.length ≤ k + 1 := by omega
      have hul2 : k + 1 ≤ us.length := by omega
      clear hlen hrk g3
      obtain ⟨wo, rfl⟩ : ∃ wo : World, wo = wr := ⟨_, rfl⟩
      go_wp2_with fail
      have KS := hid (fun W (hgw : Grow wo W) => (⟨hgw, hgw.cell_some hx⟩ : Grow wo W ∧ W.cell? (ad.add k) = some (.slice B (k + 1) d)))
      go_region_held3 (fun W => Grow wo W ∧ W.cell? (ad.add k) = some (.slice B (k + 1) d))
        (exact KS.out _ (by first | assumption | exact (Grow.refl _).drew | exact Grow.alloc (by assumption) _))
        ((go_at_call 76; have hS := (‹Grow wo _ ∧ _›).1; refine (nat_any 1 _ (by omega) (by omega)).mono ?_; rintro e w2 ⟨v2, rfl, hn2, hg2⟩; obtain ⟨A2, n2, c2, rfl⟩ := natF_shape hn2; have hk2 := hS.trans hg2))
      have hoN : OwnV wo (w2.alloc (.cells #[.slice A2 n2 c2] 23)) 23 (.slice (some ⟨w2.heap.size, 0, none⟩) 1 1) [.slice A2 n2 c2] := OwnV.lit w2 [.slice A2 n2 c2] hk2 (by simp)
      have hrN : RowTo (w2.alloc (.cells #[.slice A2 n2 c2] 23)) [.slice A2 n2 c2] (k + 1) := fun i u hu => by
        have hi := (List.getElem?_eq_some_iff.1 hu).1
        simp at hi
        subst hi
        simp at hu
        subst hu
        rw [binom_zero]
        exact hn2.grow ((Grow.refl _).alloc _)
      have hgN := hk2.alloc (.cells #[.slice A2 n2 c2] 23)
      clear KS
      go_wp2_with fail
      go_loopw [6, 7] (fun v i wr => ∃ (t : Nat) (ns : List Value), t ≤ k ∧ i = .int .i64 ((t : Int) + 1) ∧ ns.length = t + 1 ∧ OwnV wo wr 23 v ns ∧ RowTo wr ns (k + 1) ∧ Grow wo wr) (fun _ i _ => k + 1 - (intOf i).toNat)
      case atStart => exact ⟨0, _, Nat.zero_le _, rfl, rfl, hoN, hrN, hgN⟩
      case round =>
        clear hoN hrN hgN hk2 hn2 hg2
        obtain ⟨t, ns, ht, rfl, hnl, hoN, hrN, hgN⟩ := hrel
        have HN := hid hnl
        have hnl1 : ns.length ≤ t + 1 := by omega
        have hnl2 : t + 1 ≤ ns.length := by omega
        clear hnl
        by_cases hlt2 : t < k
        · obtain ⟨x1, hx1⟩ : ∃ u, us[t]? = some u := ⟨_, List.getElem?_eq_getElem (by omega)⟩
          obtain ⟨x2, hx2⟩ : ∃ u, us[t + 1]? = some u := ⟨_, List.getElem?_eq_getElem (by omega)⟩
          obtain ⟨ad', rfl, hb', hc1'⟩ := g4 _ x1 hx1
          obtain ⟨ad2, hh, _, hc2'⟩ := g4 _ x2 hx2
          obtain rfl : ad' = ad2 := by injection hh
          have N1 := g5 _ x1 _ hx1 (rowI_at (show t ≤ k by omega))
          have N2 := g5 _ x2 _ hx2 (rowI_at (show t + 1 ≤ k by omega))
          have s1 : Small (binom k t : Int) := small_of_lit (binom_small _ (by omega))
          have s2 : Small (binom k (t + 1) : Int) := small_of_lit (binom_small _ (by omega))
          have A1' := fun W (hgw : Grow wo W) => add_any x1 x2 _ _ W (N1.grow hgw).1 (N2.grow hgw).1 s1 s2
          have er : (binom k t : Int) + (binom k (t + 1) : Int) = (binom (k + 1) (t + 1) : Int) := by rw [binom_succ]; omega
          rw [er] at A1'
          have HA := hid A1'
          rw [add_succ] at hc2'
          have f1 : IntKind.i64.wrap (t : Int) = (t : Int) := IntWalk.i64_in _ (by omega)
          have f2 : ((t : Int) + 1).toNat = t + 1 := by omega
          have i0 : (0 : Int) ≤ (t : Int) := by omega
          have i1 : (t : Int) < (k : Int) + 1 := by omega
          have i2 : (0 : Int) ≤ (t : Int) + 1 := by omega
          have i3 : (t : Int) + 1 < (k : Int) + 1 := by omega
          have i4 : (t : Int) < (k : Int) := by omega
          clear hx1 hx2 N1 N2 s1 s2 A1' hh er
          go_wp2_with fail
          obtain ⟨wi, rfl⟩ : ∃ wi : World, wi = wr := ⟨_, rfl⟩
          have KS := hid (fun W (hgw : Grow wo W) => (⟨hgw, hgw.cell_some hc1', hgw.cell_some hc2'⟩ : Grow wo W ∧ W.cell? (ad'.add t) = some x1 ∧ W.cell? ⟨ad'.block, ad'.off + (t + 1), none⟩ = some x2))
          go_region_held3 (fun W => Grow wo W ∧ W.cell? (ad'.add t) = some x1 ∧ W.cell? ⟨ad'.block, ad'.off + (t + 1), none⟩ = some x2)
            (exact KS.out _ (by first | exact hgN.drew | exact hg4 | exact (hgN.trans hk3).alloc _ | exact hgN.trans hk3))
            (first
              | (go_at_call 77; refine (HA.out _ hgN.drew).mono ?_; rintro e w3 ⟨v3, rfl, hn3, hg3⟩; obtain ⟨A3, n3, c3, rfl⟩ := natF_shape hn3; have hk3 := (Grow.refl wi).drew.trans hg3)
              | (refine step_append_val wo w3 23 _ (.slice A3 n3 c3) 24 infoNat rfl (by decide) rfl rfl (.tmp 28) (.tmp 39) _ rfl Try.underlying58 _ ns (by rfl) (hoN.kept hk3) (by rfl) (by omega) (hgN.trans hk3) ?_; intro v4 w4 ho4 hg4 hgr4))
          clear f1 f2
          go_wp2
          have hoA := hoN.kept (hk3.alloc (.cells #[.slice A3 n3 c3] 23))
          have hrA := (hrN.grow (hk3.alloc (.cells #[.slice A3 n3 c3] 23))).far hoA (by decide) hgr4
          have hnA := (hn3.grow ((Grow.refl w3).alloc (.cells #[.slice A3 n3 c3] 23))).far hoA (by decide) hgr4
          refine ⟨⟨t + 1, ns ++ [.slice A3 n3 c3], by omega, by go_num, by simp [HN.out], ho4, hrA.snoc (by rw [HN.out]; exact hnA), hg4⟩, by simp only [intOf]; omega⟩
        · obtain rfl : t = k := by omega
          obtain ⟨wi, rfl⟩ : ∃ wi : World, wi = wr := ⟨_, rfl⟩
          clear hx hrd
          go_wp2_with (first
            | (go_at_call 76; refine (nat_any 1 _ (by omega) (by omega)).mono ?_; rintro e w3 ⟨v3, rfl, hn3, hg3⟩; obtain ⟨A3, n3, c3, rfl⟩ := natF_shape hn3; have hk3 := hgN.trans hg3)
            | (at_builtin; refine wpList_append_val wo w3 23 _ (.slice A3 n3 c3) 24 infoNat rfl (by decide) rfl rfl (.tmp 42) (.tmp 44) _ rfl Try.underlying58 _ ns (by rfl) (hoN.kept hg3) (by rfl) (by omega) hk3 ?_; intro v4 w4 ho4 hg4 hgr4; obtain ⟨A4, n4, c4, rfl⟩ := ho4.shape)
            | (at_builtin; refine wpList_append_val w w4 58 _ (.slice A4 n4 c4) 24 infoNats rfl (by decide) rfl rfl (.tmp 41) (.tmp 46) _ rfl Try.underlying73 _ vs (by rfl) (hown.kept hg4) (by rfl) (by omega) (hg.trans hg4) ?_; intro v5 w5 ho5 hg5 hgr5))
          have hoA := hoN.kept (hg3.alloc (.cells #[.slice A3 n3 c3] 23))
          have hrA := (hrN.grow (hg3.alloc (.cells #[.slice A3 n3 c3] 23))).far hoA (by decide) hgr4
          have hnA := (hn3.grow ((Grow.refl w3).alloc (.cells #[.slice A3 n3 c3] 23))).far hoA (by decide) hgr4
          have hrow : IsNats w4 (.slice A4 n4 c4) (rowI (t + 1)) := (hrA.snoc (by rw [HN.out]; rw [binom_self]; exact hnA)).is ho4 (by simp [HN.out])
          have hoB := hown.kept (hg4.alloc (.cells #[.slice A4 n4 c4] 58))
          have htB := (htri.grow (hg4.alloc (.cells #[.slice A4 n4 c4] 58))).far hoB (by decide) (by decide) hgr5
          have hrB := (hrow.grow ((Grow.refl w4).alloc (.cells #[.slice A4 n4 c4] 58))).far hoB (by decide) (by decide) hgr5
          refine ⟨⟨t + 1, _, by omega, by go_num, by simp [HL.out], ho5, htB.snoc (by rw [HL.out]; exact hrB), hg5⟩, by simp only [intOf]; omega⟩
    · obtain rfl : k = n := by omega
      have hres := htri.is hown
      rw [hlen] at hres
      have HR := hid hres
      clear hres
      go_wp2
      go_ret
      exact ⟨_, rfl, HR.out, hg⟩
end Go.Proofs.Ytgphdaipgodjgaa
