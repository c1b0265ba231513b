/-
  The walk of Draws.
-/
import Derived.Test.YtgphdaipgodjgaaWays
namespace Go.Proofs.Ytgphdaipgodjgaa
open Go.RowKit

def drawErr (u x : List Int) (n : Int) : Int := if unErr u ≠ 0 then unErr u else if x.length ≠ u.length then 3 else if x.any (outB 4) = true ∨ n < 0 ∨ sumI u < n then 2 else 0
def DrawRes (w : World) (u x : List Int) (n : Int) (e : Ending) (w' : World) : Prop :=
  ∃ v, e = .returned (.tuple #[v, .int .i64 (drawErr u x n)]) ∧ IsOdds w' v (if drawErr u x n = 0 then wayW u x u.length n.toNat else 0) (if drawErr u x n = 0 then chooseI (sumI u) n else 0) ∧ Grow w w'

/-- The cells are naturals of these values. -/
def NatsAt (w : World) (vs : List Value) (f : Nat → Int) : Prop := ∀ (i : Nat) (v : Value), vs[i]? = some v → IsNatF w v (f i)
theorem NatsAt.grow {w w' : World} {vs : List Value} {f : Nat → Int} (h : NatsAt w vs f) (g : Grow w w') : NatsAt w' vs f := fun i v hv => (h i v hv).grow g
theorem IsNatF.setFar {w : World} {v : Value} {n : Int} {p : Addr} {e : TypeId} {cs : List Value} (h : IsNatF w v n) (hx : Blk w p.block e cs) (hne : 3 ≠ e) (u : Value) : IsNatF (w.setCell p u) v n := by
  obtain ⟨⟨zs, h1, h2, h3⟩, ht⟩ := h
  have k := IsIntsF.setFar ⟨h3, ht⟩ hx hne u
  exact ⟨⟨zs, h1, h2, k.1⟩, k.2⟩
theorem NatsAt.setFar {w : World} {vs : List Value} {f : Nat → Int} {p : Addr} {e : TypeId} {cs : List Value} (h : NatsAt w vs f) (hx : Blk w p.block e cs) (hne : 3 ≠ e) (u : Value) : NatsAt (w.setCell p u) vs f := fun i v hv => (h i v hv).setFar hx hne u
theorem NatsAt.zeros {w : World} {n : Nat} {f : Nat → Int} (h : ∀ i, f i = 0) : NatsAt w (List.replicate n (.slice none 0 0)) f := fun i v hv => by
  have hi := (List.getElem?_eq_some_iff.1 hv).1
  simp at hi
  have : v = .slice none 0 0 := by simpa [hi] using hv.symm
  rw [this, h]
  exact IsNatF.nil
/-- One cell is stored: its value is what the new numbers say. -/
theorem NatsAt.set {w : World} {G i : Nat} {vs : List Value} {f f' : Nat → Int} {u : Value} (h : NatsAt w vs f) (hb : Blk w G 23 vs) (hu : IsNatF w u (f' i)) (hf : ∀ j, j ≠ i → f' j = f j) : NatsAt (w.setCell ⟨G, i, none⟩ u) (vs.set i u) f' := fun j v hv => by
  by_cases e : j = i
  · subst e
    have : v = u := by
      rw [List.getElem?_set] at hv
      simp at hv
      exact hv.2.symm
    subst this
    exact hu.setFar (p := ⟨G, j, none⟩) hb (by decide) v
  · rw [List.getElem?_set_ne (fun h => e h.symm)] at hv
    rw [hf j e]
    exact (h j v hv).setFar (p := ⟨G, i, none⟩) hb (by decide) u

theorem small_lit6 {n : Int} (h : n ≤ 6) : Small n := small_of_lit (by omega)
/-- Within one kind's loop. -/
def part2 (W : Nat → Int) (most want : Int) (I : Nat) (c : Int) (s : Nat) : Int := partW W most want I s + (if (s : Int) - I < c then W I * gI most want ((s : Int) - I) else 0)
theorem part2_start {W : Nat → Int} {m x : Int} {I s : Nat} : part2 W m x I x s = partW W m x I s := by
  unfold part2
  split
  · rw [gI_out (.inl (by omega))]; simp
  · simp
theorem part2_end {W : Nat → Int} {m x c : Int} {I s : Nat} (h : m < c) : part2 W m x I c s = partW W m x (I + 1) s := by
  unfold part2
  rw [partW]
  split
  · rfl
  · rw [gI_out (.inr (by omega))]; simp
theorem part2_at {W : Nat → Int} {m x c : Int} {I s : Nat} (h : (s : Int) = I + c) (h1 : x ≤ c) (h2 : c ≤ m) : part2 W m x I (c + 1) s = part2 W m x I c s + W I * chooseI m c := by
  unfold part2
  rw [if_pos (by omega), if_neg (by omega), show (s : Int) - I = c by omega, gI_in h1 h2]; simp
theorem part2_other {W : Nat → Int} {m x c : Int} {I s : Nat} (h : (s : Int) ≠ I + c) : part2 W m x I (c + 1) s = part2 W m x I c s := by
  unfold part2
  by_cases h1 : (s : Int) - I < c
  · rw [if_pos h1, if_pos (by omega)]
  · rw [if_neg h1, if_neg (by omega)]
theorem part2_small {W : Nat → Int} {m x B c : Int} (hm : m ≤ 4) (hx : 0 ≤ x) (hB : 0 ≤ B) (hW : ∀ i, 0 ≤ W i ∧ W i ≤ B) (I s : Nat) : 0 ≤ part2 W m x I c s ∧ part2 W m x I c s ≤ 30 * B := by
  have h1 := partW_small hm hx hB hW I s
  have h2 := partW_small hm hx hB hW (I + 1) s
  rw [partW] at h2
  have h3 := gI_small (x := x) (d := (s : Int) - I) hm
  have h4 : 0 ≤ W I * gI m x ((s : Int) - I) := Int.mul_nonneg (hW I).1 h3.1
  unfold part2
  split <;> omega

/-- What the walk of the loops needs of the lists. -/
structure DrawOk (u x : List Int) : Prop where
  hu : Within 0 4 u
  hx : Within 0 4 x
  hl : x.length = u.length
  h34 : u.length ≤ 34

theorem draw_fin {w W : World} {u x : List Int} {N T : Nat} {v1 v2 : Value} {os : List Value} (he : drawErr u x N = 0) (hT : sumI u = T) (h1 : IsNatF W v1 (wayW u x u.length N)) (h2 : IsNatF W v2 (chooseI T N)) (hb : Blk W w.heap.size 25 os) (hg : Grow w W) :
    DrawRes w u x N (.returned (.tuple #[.agg #[v1, v2], .int .i64 0])) ((W.setCell ⟨w.heap.size, 0, none⟩ v1).setCell ⟨w.heap.size, 1, none⟩ v2) := by
  have bb : But w.heap.size W ((W.setCell ⟨w.heap.size, 0, none⟩ v1).setCell ⟨w.heap.size, 1, none⟩ v2) := ((But.refl _ _).set 0 v1).set 1 v2
  unfold DrawRes
  rw [he, if_pos rfl, if_pos rfl, hT, Int.toNat_natCast]
  exact ⟨_, rfl, ⟨_, _, rfl, h1.butG bb hb (by decide), h2.butG bb hb (by decide)⟩, (hg.set (Nat.le_refl _) _).set (Nat.le_refl _) _⟩

set_option maxRecDepth 100000 in
set_option maxHeartbeats 4000000 in
theorem Draws_ok (v1 v2 : Value) (u x : List Int) (N : Nat) (w : World) (h1 : IsInts w v1 u) (h2 : IsInts w v2 x) (he : unErr u = 0) (ok : DrawOk u x) (hn : (N : Int) ≤ sumI u) :
    Calls Try.prog 31 #[v1, v2, .int .i64 (N : Int)] w (DrawRes w u x N) := by
  have hun := fun W (hg : Grow w W) => unseen_any v1 u W (h1.grow hg)
  rw [he] at hun
  have hout := fun W (hg : Grow w W) => outside_any v2 x 4 W (h2.grow hg)
  rw [any_outB ok.hx] at hout
  have hall := fun W (hg : Grow w W) => all_any v1 u W (h1.grow hg) (fun z hz => by have := ok.hu z hz; omega) (by have := ok.h34; omega)
  have hsum := sum_un he
  have HU := hid hun
  have HO := hid hout
  have HA := hid hall
  have herr : drawErr u x N = 0 := by
    unfold drawErr
    rw [if_neg (by omega), if_neg (by have := ok.hl; omega), if_neg]
    rw [any_outB ok.hx]
    simp; omega
  have HE := hid herr
  have g0 : Grow w (w.alloc (.cells #[.slice none 0 0, .slice none 0 0] 25)) := (Grow.refl w).alloc _
  obtain ⟨A, c, rfl, hc1, hm1, r1⟩ := h1
  obtain ⟨B, d, rfl, hc2, hm2, r2⟩ := h2
  unfold maxLen at hm1 hm2
  have HL := hid ok.hl
  have OK := hid ok
  have hl1 : x.length ≤ u.length := by have := ok.hl; omega
  have hl2 : u.length ≤ x.length := by have := ok.hl; omega
  have h34 := ok.h34
  have hne : ((x.length : Int) != (u.length : Int)) = false := by simp [ok.hl]
  have hne' : (x.length != u.length) = false := by simp [ok.hl]
  obtain ⟨T, hT⟩ := Int.eq_ofNat_of_zero_le hsum.1
  rw [hT] at HA hn
  have HT := hid hT
  have ht : T ≤ 136 := by omega
  clear hun hout hall herr he ok hsum hT
  go_enter Try.func31, Try.ntmps31
  go_wp2_with fail
  refine (HU.out _ g0).mono ?_
  rintro e w1 ⟨rfl, hg1⟩
  have h1 := g0.trans hg1
  go_wp2_with fail
  refine (HO.out _ h1).mono ?_
  rintro e w2 ⟨rfl, hg2⟩
  have h2 := h1.trans hg2
  go_wp2_with fail
  refine (HA.out _ h2).mono ?_
  rintro e w3 ⟨rfl, rfl⟩
  go_wp2_with fail
  refine (natural_any 1 _ (by omega) (by omega)).mono ?_
  rintro e w4 ⟨vN, rfl, kN, hg4⟩
  obtain ⟨A4, m4, c4, rfl⟩ := kN.open_
  have h4 := h2.trans hg4
  have bG : Blk (w4.alloc (.cells #[.slice A4 m4 c4] 23)) w4.heap.size 23 [.slice A4 m4 c4] := Blk.new_at (xs := [.slice A4 m4 c4]) rfl
  have nG : NatsAt (w4.alloc (.cells #[.slice A4 m4 c4] 23)) [.slice A4 m4 c4] (wayW u x 0) := fun i v hv => by
    have hi := (List.getElem?_eq_some_iff.1 hv).1
    obtain rfl : i = 0 := by simpa using hi
    obtain rfl : .slice A4 m4 c4 = v := by simpa using hv
    exact kN.grow ((Grow.refl _).alloc _)
  have hgG : Grow w (w4.alloc (.cells #[.slice A4 m4 c4] 23)) := h4.alloc _
  have hbb : Blk (w4.alloc (.cells #[.slice A4 m4 c4] 23)) w.heap.size 25 [.slice none 0 0, .slice none 0 0] := Blk.grow (Blk.new_at (xs := [.slice none 0 0, .slice none 0 0]) rfl) ((hg1.trans hg2).trans (hg4.alloc _))
  have hsz : w.heap.size < w4.heap.size := Nat.lt_of_lt_of_le (by simp) ((hg1.trans hg2).trans hg4).size
  go_wp2
  go_loopw [9, 45] (fun v i wr => ∃ (k G L : Nat) (vs : List Value), k ≤ u.length ∧ i = .int .i64 (k : Int) ∧ v = .slice (some ⟨G, 0, none⟩) L L ∧ vs.length = L ∧ (L : Int) = 1 + sumI (u.take k) ∧ w.heap.size < G ∧ Blk wr G 23 vs ∧ NatsAt wr vs (wayW u x k) ∧ Grow w wr ∧ Blk wr w.heap.size 25 [.slice none 0 0, .slice none 0 0]) (fun _ i _ => u.length - (intOf i).toNat)
  case atStart => exact ⟨0, w4.heap.size, 1, [.slice A4 m4 c4], Nat.zero_le _, rfl, rfl, rfl, by simp [sumI], hsz, bG, nG, hgG, hbb⟩
  case round =>
    clear bG nG hgG hbb hg1 hg2 hg4 h1 h2 h4 hsz g0 kN
    obtain ⟨k, G, L, vs, hk, rfl, rfl, hvl, hLs, hG, hb, hnat, hg, hbb⟩ := hrel
    by_cases hlt : k < u.length
    · obtain ⟨ad, rfl, hba, hx⟩ := (r1.grow hg).int hlt
      obtain ⟨ad2, rfl, hba2, hx2⟩ := (r2.grow hg).int (show k < x.length by omega)
      have i0 : (0 : Int) ≤ (k : Int) := by omega
      have i1 : (k : Int) < (u.length : Int) := by omega
      have hm0 := OK.out.hu.at_ hlt
      have hs1 := OK.out.hu.take k
      have hs2 := hs1.sum
      have hlk : (u.take k).length ≤ 34 := by rw [List.length_take]; omega
      have hL1 : L ≤ 200 := by omega
      obtain ⟨M, hM⟩ := Int.eq_ofNat_of_zero_le hm0.1
      have hM4 : M ≤ 4 := by omega
      rw [hM] at hx
      have hX0 := OK.out.hx.at_ (show k < x.length by omega)
      obtain ⟨X, hX⟩ := Int.eq_ofNat_of_zero_le hX0.1
      have hX4 : X ≤ 4 := by omega
      have HXX := hid hX
      have HMM := hid hM
      have HLS := hid hLs
      have HVL := hid hvl
      have hvl1 : vs.length ≤ L := by omega
      have hvl2 : L ≤ vs.length := by omega
      clear hM hLs hvl hs1 hs2 hm0 hX0 hX
      have f1 : IntKind.i64.wrap ((L : Int) + (M : Int)) = (L : Int) + (M : Int) := IntWalk.i64_in _ (by omega)
      go_wp2_with (at_make; refine wpList_make_blk w _ rfl (.tmp 53) (.tmp 53) _ rfl 23 (.slice none 0 0) 24 Try.underlying58 infoNat rfl _ _ _ _ (L + M) rfl rfl (by omega) (by omega) (by omega) (by omega) hg ?_; intro G2 w5 hb2 hG2 hG2' hg5 hg5')
      have hGb : G < w5.heap.size := (hb.grow hg5').lt
      have hb5 := hb.grow hg5'
      have hn5 := hnat.grow hg5'
      have hbb5 := hbb.grow hg5'
      have hG2G : G2 ≠ G := by have := hb.lt; omega
      have hG20 : w.heap.size < G2 := by have := hbb.lt; omega
      have hz2 : NatsAt w5 (List.replicate (L + M) (.slice none 0 0)) (partW (wayW u x k) M X 0) := NatsAt.zeros fun i => rfl
      clear hb hnat hg hbb hba hba2
      have hx5 := hg5'.cell_some hx
      clear hx hx2
      go_wp2
      go_loopw [57] (fun i wr => ∃ (I : Nat) (ns : List Value), I ≤ L ∧ i = .int .i64 (I : Int) ∧ ns.length = L + M ∧ Blk wr G 23 vs ∧ NatsAt wr vs (wayW u x k) ∧ Blk wr G2 23 ns ∧ NatsAt wr ns (partW (wayW u x k) M X I) ∧ Grow w wr ∧ Blk wr w.heap.size 25 [.slice none 0 0, .slice none 0 0]) (fun i _ => L - (intOf i).toNat)
      case atStart => exact ⟨0, List.replicate (L + M) (.slice none 0 0), Nat.zero_le _, rfl, by simp, hb5, hn5, hb2, hz2, hg5, hbb5⟩
      case round =>
        clear hb5 hn5 hb2 hz2 hg5' hbb5 hx5 hg5
        obtain ⟨I, ns, hI, rfl, hnl, hb, hnat, hb2, hn2, hg, hbb⟩ := hrel
        by_cases hIL : I < L
        · have j0 : (0 : Int) ≤ (I : Int) := by omega
          have j1 : (I : Int) < (L : Int) := by omega
          obtain ⟨ad2, e2, _, hx2⟩ := (r2.grow hg).int (show k < x.length by omega)
          obtain rfl : _ = ad2 := Option.some.inj e2
          rw [HXX.out] at hx2
          have hvI : vs[I]? = some vs[I] := List.getElem?_eq_getElem (by omega)
          have kI := hnat I _ hvI
          obtain ⟨A6, m6, c6, e6⟩ := kI.open_
          have hcI : wr.cell? ⟨G, I, none⟩ = some (.slice A6 m6 c6) := by rw [hb.cell, hvI, e6]
          rw [e6] at kI
          have i2 : (k : Int) < (x.length : Int) := by omega
          have HNL := hid hnl
          clear hvI e6 hnl
          go_wp2
          go_loopw [15] (fun i wr => ∃ (C : Nat) (ns : List Value), i = .int .i64 (C : Int) ∧ X ≤ C ∧ (C ≤ M + 1 ∨ C = X) ∧ ns.length = L + M ∧ Blk wr G 23 vs ∧ NatsAt wr vs (wayW u x k) ∧ Blk wr G2 23 ns ∧ NatsAt wr ns (part2 (wayW u x k) M X I C) ∧ Grow w wr ∧ Blk wr w.heap.size 25 [.slice none 0 0, .slice none 0 0] ∧ IsNatF wr (.slice A6 m6 c6) (wayW u x k I)) (fun i _ => M + 1 - (intOf i).toNat)
          case atStart => exact ⟨X, ns, rfl, Nat.le_refl _, .inr rfl, HNL.out, hb, hnat, hb2, fun i v hv => by rw [part2_start]; exact hn2 i v hv, hg, hbb, kI⟩
          case round =>
            clear hb hnat hb2 hn2 hg hbb kI HNL hcI hx2
            obtain ⟨C, ns, rfl, hXC, hCM, hnl, hb, hnat, hb2, hn2, hg, hbb, kI⟩ := hrel
            by_cases hC : C ≤ M
            · have j2 : (C : Int) ≤ (M : Int) := by omega
              have f2 : IntKind.i64.wrap ((I : Int) + (C : Int)) = (I : Int) + (C : Int) := IntWalk.i64_in _ (by omega)
              have f3 : ((I : Int) + (C : Int)).toNat = I + C := by omega
              have j3 : (0 : Int) ≤ (I : Int) + (C : Int) := by omega
              have j4 : (I : Int) + (C : Int) < (L : Int) + (M : Int) := by omega
              have hv0 : ns[I + C]? = some ns[I + C] := List.getElem?_eq_getElem (by omega)
              have k0 := hn2 (I + C) _ hv0
              obtain ⟨A7, m7, c7, e7⟩ := k0.open_
              have hc0 : wr.cell? ⟨G2, I + C, none⟩ = some (.slice A7 m7 c7) := by rw [hb2.cell, hv0, e7]
              rw [e7] at k0
              have HNL := hid hnl
              have hWW : ∀ i, 0 ≤ wayW u x k i ∧ wayW u x k i ≤ thirty k := wayW_small OK.out.hu OK.out.hx k
              have hch := choose_small (m := (M : Int)) (d := (C : Int)) (by omega)
              have hp2 := part2_small (m := (M : Int)) (x := (X : Int)) (c := (C : Int)) (by omega) (by omega) (Int.le_of_lt (thirty_pos k)) hWW I (I + C)
              have hmul : wayW u x k I * chooseI M C ≤ thirty k * 6 := Int.le_trans (Int.mul_le_mul_of_nonneg_left hch.2 (hWW I).1) (Int.mul_le_mul_of_nonneg_right (hWW I).2 (by omega))
              have hth := thirty_pos k
              have sm1 : Small (wayW u x k I) := small_thirty (k := k) (by omega) (by have := (hWW I).2; omega)
              have sm2 : Small (chooseI M C) := small_lit6 hch.2
              have sm3 : Small (part2 (wayW u x k) M X I C (I + C)) := small_thirty (k := k) (by omega) hp2.2
              have sm4 : Small (wayW u x k I * chooseI M C) := small_thirty (k := k) (by omega) (by omega)
              have eP := part2_at (W := wayW u x k) (m := (M : Int)) (x := (X : Int)) (c := (C : Int)) (I := I) (s := I + C) (by omega) (by omega) (by omega)
              have hoth : ∀ j : Nat, j ≠ I + C → part2 (wayW u x k) M X I (((C + 1 : Nat)) : Int) j = part2 (wayW u x k) M X I C j := fun j hj => by
                rw [show (((C + 1 : Nat)) : Int) = (C : Int) + 1 by omega]
                exact part2_other (by omega)
              have HOTH := hid hoth
              clear hoth
              have CH := hid fun W => choose_all (M : Int) (C : Int) W (by omega)
              have PR := hid fun va vb W h1 h2 => product_any va vb (wayW u x k I) (chooseI M C) W h1 h2 sm1 sm2
              have SU := hid fun va vb W h1 h2 => sum_any va vb (part2 (wayW u x k) M X I C (I + C)) (wayW u x k I * chooseI M C) W h1 h2 sm3 sm4
              rw [← eP] at SU
              have KI := hid kI
              have K0 := hid k0
              have HN2 := hid hn2
              have HN := hid hnat
              have gd : Grow wr wr.drew := (Grow.refl wr).drew
              have hf0 := hb2.free (I + C)
              clear hv0 e7 hnl hWW hch hp2 hmul hth sm1 sm2 sm3 sm4 eP kI k0 hn2 hnat
              go_wp2
              go_region_law (first
                | (go_simp; go_at_call 57; refine (CH.out _).mono ?_; rintro e wA ⟨vA, rfl, kA, gA0⟩; have gA := gd.trans gA0; obtain ⟨A8, m8, c8, rfl⟩ := kA.open_; have y1 := gA.cell_some hc0)
                | (go_simp; go_at_call 53; refine (PR.out _ _ _ (KI.out.grow gA).1 kA.1).mono ?_; rintro e wB ⟨vB, rfl, kB, gB0⟩; have gB := gA.trans gB0; obtain ⟨A9, m9, c9, rfl⟩ := kB.open_; have y2 := gB.cell_some hc0)
                | (go_simp; go_at_call 62; refine (SU.out _ _ _ (K0.out.grow gB).1 kB.1).mono ?_; rintro e wC ⟨vC, rfl, kC, gC0⟩; have gC := gB.trans gC0; obtain ⟨A10, m10, c10, rfl⟩ := kC.open_; have y3 := gC.cell_some hc0; have y4 := (gC.frozen (p := ⟨G2, I + C, none⟩) hb2.lt).trans hf0))
              all_goals
                go_wp2
                refine ⟨⟨C + 1, ns.set (I + C) (.slice A10 m10 c10), by go_num, by omega, by omega, by rw [List.length_set]; exact HNL.out, (hb.grow gC).far (by simpa using hG2G.symm) _, (HN.out.grow gC).setFar (hb2.grow gC) (by decide) _, (hb2.grow gC).set (I + C) _, NatsAt.set (i := I + C) (HN2.out.grow gC) (hb2.grow gC) kC HOTH.out, (hg.trans gC).set (by simp; omega) _, (hbb.grow gC).far (by simp; omega) _, (KI.out.grow gC).setFar (hb2.grow gC) (by decide) _⟩, by simp only [intOf]; omega⟩
            · have hnn : NatsAt wr ns (partW (wayW u x k) M X (I + 1)) := fun i v hv => by
                have := hn2 i v hv
                rwa [part2_end (by omega)] at this
              have HNL := hid hnl
              clear hnl hCM
              go_wp2
              exact ⟨⟨I + 1, ns, by omega, by go_num, HNL.out, hb, hnat, hb2, hnn, hg, hbb⟩, by simp only [intOf]; omega⟩
        · obtain rfl : I = L := by omega
          have hnn : NatsAt wr ns (wayW u x (k + 1)) := fun i v hv => by
            have h0 := hn2 i v hv
            have hz : ∀ j, I ≤ j → wayW u x k j = 0 := fun j hj => wayW_zero OK.out.hu k j (by have := HLS.out; omega)
            rw [partW_all (by omega) hz] at h0
            have e1 : u.getD k 0 = (M : Int) := by rw [← HMM.out]; simp [List.getD, hlt]
            have e2 : x.getD k 0 = (X : Int) := by rw [← HXX.out]; simp [List.getD, show k < x.length by omega]
            show IsNatF wr v (stepW (wayW u x k) (u.getD k 0) (x.getD k 0) i)
            rw [e1, e2]
            exact h0
          have hls : ((I + M : Nat) : Int) = 1 + sumI (u.take (k + 1)) := by
            rw [sumI_take u hlt, HMM.out]; have := HLS.out; omega
          have HNL := hid hnl
          have HLL := hid hls
          clear hnl hls
          go_wp2
          exact ⟨⟨k + 1, G2, I + M, ns, by omega, by go_num, by simp, HNL.out, HLL.out, hG20, hb2, hnn, hg, hbb⟩, by simp only [intOf]; omega⟩
    · obtain rfl : k = u.length := by omega
      have hLT : L = 1 + T := by have := HT.out; rw [List.take_length] at hLs; omega
      have hNL : N < vs.length := by omega
      have hvN : vs[N]? = some vs[N] := List.getElem?_eq_getElem hNL
      have kN := hnat N _ hvN
      obtain ⟨A7, m7, c7, e7⟩ := kN.open_
      have hcN : wr.cell? ⟨G, N, none⟩ = some (.slice A7 m7 c7) := by rw [hb.cell, hvN, e7]
      rw [e7] at kN
      have KN := hid kN
      have j0 : (0 : Int) ≤ (N : Int) := by omega
      have j1 : (N : Int) < (L : Int) := by omega
      have CH := hid fun W => choose_all (T : Int) (N : Int) W (by omega)
      have gd : Grow wr wr.drew := (Grow.refl wr).drew
      have ha := HA.out wr.drew (hg.trans gd)
      have HAA := hid ha
      have hcN' : wr.drew.cell? ⟨G, N, none⟩ = some (.slice A7 m7 c7) := gd.cell_some hcN
      have q0 := hbb.cell 0
      have q1 := hbb.cell 1
      have f0 := hbb.free 0
      have f1 := hbb.free 1
      simp only [List.getElem?_cons_zero, List.getElem?_cons_succ] at q0 q1
      clear ha hLT hNL hvN e7 kN hLs hvl hnat
      go_wp2
      go_region_law (first
        | (go_simp; go_at_call 65; refine HAA.out.mono ?_; rintro e wA ⟨rfl, rfl⟩)
        | (go_simp; go_at_call 57; refine (CH.out _).mono ?_; rintro e wB ⟨vB, rfl, kB, gB0⟩; have gB := gd.trans gB0; obtain ⟨A8, m8, c8, rfl⟩ := kB.open_; have y1 := gB.cell_some hcN; have y2 := gB.cell_some q0; have y3 := gB.cell_some q1; have y4 := (gB.frozen (p := ⟨w.heap.size, 0, none⟩) hbb.lt).trans f0; have y5 := (gB.frozen (p := ⟨w.heap.size, 1, none⟩) hbb.lt).trans f1))
      all_goals
        go_wp2
        refine bodyPost_ret (v := .tuple #[.agg #[.slice A7 m7 c7, .slice A8 m8 c8], .int .i64 0]) (by simp [results, Try.results31, go_sem, y2, y3]) rfl ?_
        exact draw_fin HE.out HT.out (KN.out.grow gB) kB (hbb.grow gB) (hg.trans gB)
end Go.Proofs.Ytgphdaipgodjgaa
